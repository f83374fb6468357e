/-
  DriveRots, walked.
  What a drive does, whatever it is asked: Stored; Write, Rot, Flush, Rotten of any drive.
  Copy.
  The document's drive: its state as lists, in memory; New, has, Fail, Replace.
  The document's drive: Write.
-/
import Derived.Test.YtolmpopjonkfgaaPl2
import Derived.Test.YtolmpopjonkfgaaPl3
import Derived.Deep.LoopGhost
import Derived.Maps.RangeWalk
import Derived.Deep.RegionLaw
set_option linter.unusedSimpArgs false
set_option linter.unusedVariables false
namespace Go.Proofs.Ytolmpopjonkfgaa
open Go.RowKit Go.Cib
attribute [local go_sem] cell_set Later.cell Later.frozen Grw.cell Grw.frozen

set_option maxRecDepth 100000 in
theorem rots_bad (n a off mask c : Int) (w : World) (h : ¬ (2 ≤ n ∧ n ≤ 20 ∧ 0 ≤ a ∧ a < n ∧ 0 ≤ off ∧ off ≤ 60 ∧ ¬ mask = 0)) :
    Calls Try.prog 5 #[.int .i64 n, .int .i64 a, .int .i64 off, .int .u32 mask, .int .u8 c] w fun e w' => e = .returned (.bool true) ∧ Below w.heap.size w w' := by
  have hfin : ∀ w', Below w.heap.size w w' → Calls Try.prog 10 #[] w' fun e w'' => e = .returned (.bool true) ∧ Below w.heap.size w w'' := fun w' h => (stores_any w').mono fun e w'' ⟨h1, h2⟩ => ⟨h1, h.trans (h2.mono h.size)⟩
  have HF := Lib.hid hfin
  clear hfin
  by_cases h0 : n < 2
  · have d0 : decide (n < 2) = true := by simpa using h0
    go_enter Try.func5, Try.ntmps5
    go_wp2_with fail
    refine (HF.out _ (Below.refl _ _)).mono ?_
    rintro e w' ⟨rfl, hb⟩
    go_wp2_with fail
    go_ret
    exact ⟨rfl, hb⟩
  have d0 : decide (n < 2) = false := by simpa using h0
  by_cases h1 : 20 < n
  · have d1 : decide (20 < n) = true := by simpa using h1
    go_enter Try.func5, Try.ntmps5
    go_wp2_with fail
    refine (HF.out _ (Below.refl _ _)).mono ?_
    rintro e w' ⟨rfl, hb⟩
    go_wp2_with fail
    go_ret
    exact ⟨rfl, hb⟩
  have d1 : decide (20 < n) = false := by simpa using h1
  by_cases h2 : a < 0
  · have d2 : decide (a < 0) = true := by simpa using h2
    go_enter Try.func5, Try.ntmps5
    go_wp2_with fail
    refine (HF.out _ (Below.refl _ _)).mono ?_
    rintro e w' ⟨rfl, hb⟩
    go_wp2_with fail
    go_ret
    exact ⟨rfl, hb⟩
  have d2 : decide (a < 0) = false := by simpa using h2
  by_cases h3 : n ≤ a
  · have d3 : decide (n ≤ a) = true := by simpa using h3
    go_enter Try.func5, Try.ntmps5
    go_wp2_with fail
    refine (HF.out _ (Below.refl _ _)).mono ?_
    rintro e w' ⟨rfl, hb⟩
    go_wp2_with fail
    go_ret
    exact ⟨rfl, hb⟩
  have d3 : decide (n ≤ a) = false := by simpa using h3
  by_cases h4 : off < 0
  · have d4 : decide (off < 0) = true := by simpa using h4
    go_enter Try.func5, Try.ntmps5
    go_wp2_with fail
    refine (HF.out _ (Below.refl _ _)).mono ?_
    rintro e w' ⟨rfl, hb⟩
    go_wp2_with fail
    go_ret
    exact ⟨rfl, hb⟩
  have d4 : decide (off < 0) = false := by simpa using h4
  by_cases h5 : 60 < off
  · have d5 : decide (60 < off) = true := by simpa using h5
    go_enter Try.func5, Try.ntmps5
    go_wp2_with fail
    refine (HF.out _ (Below.refl _ _)).mono ?_
    rintro e w' ⟨rfl, hb⟩
    go_wp2_with fail
    go_ret
    exact ⟨rfl, hb⟩
  have d5 : decide (60 < off) = false := by simpa using h5
  have d9 : (mask == 0) = true := by simp; omega
  go_enter Try.func5, Try.ntmps5
  go_wp2_with fail
  refine (HF.out _ (Below.refl _ _)).mono ?_
  rintro e w' ⟨rfl, hb⟩
  go_wp2_with fail
  go_ret
  exact ⟨rfl, hb⟩

theorem full_box (z : Int) (w : World) :
    Calls Try.prog 13 #[.int .u8 z] w fun e w' => ∃ b, e = .returned (.slice (some ⟨b, 0, none⟩) 64 64) ∧ w.heap.size ≤ b ∧ BoxAt w' b ((rep z).map (Value.int .u8)).toArray ∧ Below w.heap.size w w' := by
  go_enter Try.func13, Try.ntmps13
  have hmk := make64 w
  have b0 := BoxAt.new w ((List.replicate 64 (0 : Int)).map (Value.int .u8)).toArray 5
  obtain ⟨w1, hw1⟩ : ∃ w1, w.alloc (.cells ((List.replicate 64 (0 : Int)).map (Value.int .u8)).toArray 5) = w1 := ⟨_, rfl⟩
  have h1 : Below w.heap.size w w1 := by rw [← hw1]; exact (Below.refl _ _).alloc (Nat.le_refl _) _
  rw [hw1] at hmk b0
  have B0 := Lib.hid b0; clear b0 hw1
  go_wp2_with fail
  clear hmk
  go_loopw [4] (fun vi wr => ∃ k : Nat, k ≤ 64 ∧ vi = .int .i64 k ∧ Below w.heap.size w wr ∧ Hid (BoxAt wr w.heap.size ((fillTo z k).map (Value.int .u8)).toArray)) (fun vi _ => 64 - (intOf vi).toNat)
  case atStart => exact ⟨0, Nat.zero_le _, rfl, h1, B0⟩
  case round =>
    obtain ⟨k, hk, rfl, hb, hbox⟩ := hrel
    by_cases hlt : k < 64
    · have k0 : wr.cell? ⟨w.heap.size, k, none⟩ = some (.int .u8 ((fillTo z k)[k]'(by simp [fillTo]; omega))) := by rw [hbox.out.cell]; simp [show k < (fillTo z k).length by simp [fillTo]; omega]
      have k1 := hbox.out.frozen k
      go_wp2_with fail
      refine ⟨⟨k + 1, by omega, by go_num, hb.setCell (Nat.le_refl _) _, Lib.hid ?_⟩, by simp [intOf]; omega⟩
      rw [← fillTo_set z hlt]
      exact hbox.out.set k _
    · obtain rfl : k = 64 := by omega
      go_wp2_with fail
      go_ret
      have h2 := hbox.out
      have e : fillTo z 64 = rep z := by simp [fillTo, rep]
      rw [e] at h2
      exact ⟨_, rfl, Nat.le_refl _, h2, hb⟩

/-- All sectors the same, none spoilt, nothing waits. -/
def flat (n : Nat) (c : Int) : DSt := ⟨List.replicate n (rep c), List.replicate n false, [], false⟩
theorem freshL_false (keep : Nat → Bool) : ∀ (c : List (Int × List Int)) (i : Nat) (xs : List Bool), (∀ r ∈ xs, r = false) → ∀ r ∈ freshL keep i c xs, r = false
  | [], i, xs, h, r, hr => h r hr
  | q :: c, i, xs, h, r, hr => by
    refine freshL_false keep c (i + 1) _ ?_ r hr
    intro y hy
    split at hy
    · rcases List.mem_or_eq_of_mem_set hy with h1 | h1
      · exact h y h1
      · exact h1
    · exact h y hy
theorem flat_of {st : DSt} {n : Nat} {c : Int} (hok : st.ok n) (hd : st.dead = false) (hs : ∀ k, k < n → st.seen k = rep c) (hr : ∀ r ∈ st.rotten, r = false) : st.settle (fun _ => true) = flat n c := by
  have hok2 := hok.settle (fun _ => true)
  have e1 : (st.settle fun _ => true).stored = List.replicate n (rep c) := by
    refine List.eq_replicate_iff.2 ⟨hok2.sl, fun x hx => ?_⟩
    obtain ⟨k, hk, rfl⟩ := List.mem_iff_getElem.1 hx
    have h1 := (hok.seen_flush (k := k) (by rw [← hok2.sl]; exact hk)).trans (hs k (by rw [← hok2.sl]; exact hk))
    rw [DSt.seen_nil rfl, List.getElem?_eq_getElem hk] at h1
    exact h1
  have e2 : (st.settle fun _ => true).rotten = List.replicate n false := List.eq_replicate_iff.2 ⟨hok2.rl, freshL_false _ _ _ _ hr⟩
  have e3 : (st.settle fun _ => true) = ⟨(st.settle fun _ => true).stored, (st.settle fun _ => true).rotten, [], st.dead⟩ := rfl
  rw [e3, e1, e2, hd]; rfl
theorem set_same {α : Type} (n a : Nat) (x : α) : (List.replicate n x).set a x = List.replicate n x :=
  List.eq_replicate_iff.2 ⟨by simp, fun y hy => by
    rcases List.mem_or_eq_of_mem_set hy with h | h
    · exact (List.mem_replicate.1 h).2
    · exact h⟩
theorem flat_rot_flush (n a off : Nat) (mask c : Int) (ha : a < n) : ((((flat n c).rot a off mask).write a (rep c)).settle fun _ => true) = flat n c := by
  have e1 := set_same n a (rep c)
  have e2 := set_same n a false
  simp [DSt.rot, DSt.rotAt, DSt.write, DSt.settle, flat, putL, freshL, e1, e2]
theorem rotTo_at (x : List Int) (off : Nat) (mask : Int) : ∀ i j, off + i ≤ j → (rotTo x off mask i)[j]? = x[j]?
  | 0, j, _ => rfl
  | i + 1, j, h => by rw [rotTo, List.getElem?_set_ne (by omega)]; exact rotTo_at x off mask i j (by omega)
theorem rotTo_succ_rep (c : Int) (off : Nat) (mask : Int) (i : Nat) (h : off + i < 64) : (rotTo (rep c) off mask i).set (off + i) (rotV c mask i) = rotTo (rep c) off mask (i + 1) := by
  have hx : (rep c)[off + i]? = some c := by simp [rep, h, -List.reduceReplicate]
  rw [rotTo, rotTo_at _ _ _ _ _ (Nat.le_refl _), hx]; rfl
theorem rotV_eq (v mask : Int) (j : Nat) : rotV v mask j = bits BinOp.xor IntKind.u8 v (mask / 2 ^ (8 * j) % 256) := by
  unfold rotV
  rw [show (8 * (j : Int)).toNat = 8 * j by omega, IntKind.wrap_u8]
theorem seen_rot (n a off : Nat) (mask c : Int) (k : Nat) (hk : k < n) : ((flat n c).rot a off mask).seen k = if k = a then rotTo (rep c) off mask 4 else rep c := by
  rw [DSt.seen_nil rfl]
  by_cases e : k = a
  · subst e; simp [DSt.rot, DSt.rotAt, flat, hk]
  · have e2 : a ≠ k := fun h => e h.symm
    show (((List.replicate n (rep c)).set a _)[k]?).getD [] = _
    rw [List.getElem?_set_ne e2]; simp [hk, e]
theorem rotten_rot (n a off : Nat) (mask c : Int) (k : Nat) (hk : k < n) : ((flat n c).rot a off mask).rotten[k]? = some (decide (k = a)) := by
  by_cases e : k = a
  · subst e; simp [DSt.rot, DSt.rotAt, flat, hk]
  · have e2 : a ≠ k := fun h => e h.symm
    show ((List.replicate n false).set a true)[k]? = _
    rw [List.getElem?_set_ne e2]; simp [hk, e]

set_option maxRecDepth 100000 in
set_option maxHeartbeats 8000000 in
theorem rots_good (n a off : Nat) (mask c : Int) (w : World) (h2 : 2 ≤ n) (h20 : n ≤ 20) (ha : a < n) (hoff : off ≤ 60) (hm : ¬ mask = 0) :
    Calls Try.prog 5 #[.int .i64 n, .int .i64 a, .int .i64 off, .int .u32 mask, .int .u8 c] w fun e w' => e = .returned (.bool true) ∧ Below w.heap.size w w' := by
  have d0 : (2 : Int) ≤ n := by omega
  have d1 : (n : Int) ≤ 20 := by omega
  have d2 : (0 : Int) ≤ a := by omega
  have d3 : (a : Int) < n := by omega
  have d4 : (0 : Int) ≤ off := by omega
  have d5 : (off : Int) ≤ 60 := by omega
  have d6 : (mask == 0) = false := by simpa using hm
  go_enter Try.func5, Try.ntmps5
  go_wp2_with fail
  refine (new_good n (by omega) (by omega) w).mono ?_
  rintro e w1 ⟨p, F1, rfl, D1, hF1, t1⟩
  have O1 := Lib.hid (Own.mk t1 hF1)
  have E1 := Lib.hid D1
  clear D1 hF1 t1
  go_wp2_with fail
  go_loopw [12] (fun vi wr => ∃ (i : Nat) (F : Nat → Prop) (st : DSt), i ≤ n ∧ vi = .int .i64 i ∧ st.cache.length = i ∧ st.dead = false ∧ Hid (∀ k, k < i → st.seen k = rep c) ∧ Hid (∀ r ∈ st.rotten, r = false) ∧ Hid (Own w F wr) ∧ Hid (DrvAt F wr p n st)) (fun vi _ => n - (intOf vi).toNat)
  case atStart => exact ⟨0, F1, DSt.new n, Nat.zero_le _, rfl, rfl, rfl, Lib.hid (fun k hk => by omega), Lib.hid (by simp [DSt.new]), O1, E1⟩
  case round =>
    obtain ⟨i, F, st, hi, rfl, hci, hdd, hse, hro, O, E⟩ := hrel
    by_cases hlt : i < n
    · go_wp2_with fail
      refine (full_at c wr).mono ?_
      rintro e w3 ⟨b3, o3, rfl, l3, l3', R3, t3⟩
      have O3 := Lib.hid (O.out.later t3)
      have E3 := Lib.hid (E.out.below t3)
      have n3 : ¬ F b3 := fun h => by have := E.out.lt h; omega
      clear O t3 l3 l3'
      go_wp2_with fail
      refine (write_good E3 hdd i hlt (Lib.hid R3) n3 (by omega)).mono ?_
      rintro e w4 ⟨rfl, F4, D4, hF4, K4⟩
      have O4 := Lib.hid (O3.out.upd hF4 K4)
      have E4 := Lib.hid D4
      clear O3 E3 R3 n3 hF4 K4 D4
      go_wp2_with fail
      refine ⟨⟨i + 1, F4, st.write (i : Int) (rep c), by omega, by go_num, by simp [DSt.write, hci], hdd, Lib.hid (fun k hk => ?_), Lib.hid hro.out, O4, E4⟩, by simp [intOf]; omega⟩
      rw [DSt.seen_write]
      by_cases e : (i : Int) = (k : Int)
      · simp [e]
      · rw [if_neg e]; exact hse.out k (by omega)
    · obtain rfl : n = i := by omega
      go_wp2_with fail
      refine (flush_good E hdd (by omega)).mono ?_
      rintro e w3 ⟨rfl, F3, D3, hF3, K3⟩
      rw [flat_of E.out.ok hdd hse.out hro.out] at D3
      have O3 := Lib.hid (O.out.upd hF3 K3)
      have E3 := Lib.hid D3
      clear O E D3 hF3 K3 hse hro
      go_wp2_with fail
      refine (rot_good E3 rfl a ha off hoff mask hm (by simp [flat, ha])).mono ?_
      rintro e w4 ⟨rfl, F4, D4, hF4, K4⟩
      have O4 := Lib.hid (O3.out.upd hF4 K4)
      have E4 := Lib.hid D4
      clear O3 E3 D4 hF4 K4
      go_wp2_with fail
      refine (rot_again E4 rfl a ha off hoff mask hm (by rw [rotten_rot _ _ _ _ _ _ ha]; simp)).mono ?_
      rintro e w5 ⟨rfl, t5⟩
      have O5 := Lib.hid (O4.out.later t5)
      have E5 := Lib.hid (E4.out.below t5)
      clear O4 E4 t5
      go_wp2_with fail
      refine (rotten_any E5 rfl a ha (by rw [rotten_rot _ _ _ _ _ _ ha])).mono ?_
      rintro e w6 ⟨rfl, t6⟩
      have O6 := Lib.hid (O5.out.later t6)
      have E6 := Lib.hid (E5.out.below t6)
      clear O5 E5 t6
      rw [show decide (a = a) = true by simp]
      go_wp2_with fail
      go_loopw [13] (fun vi wr => ∃ k : Nat, k ≤ n ∧ vi = .int .i64 k ∧ Hid (Own w F4 wr) ∧ Hid (DrvAt F4 wr p n ((flat n c).rot a off mask))) (fun vi _ => n - (intOf vi).toNat)
      case atStart => exact ⟨0, Nat.zero_le _, rfl, O6, E6⟩
      case round =>
        clear O6 E6
        obtain ⟨k, hk, rfl, O, E⟩ := hrel
        by_cases hkn : k < n
        · have hk2 : (k : Int) < (n : Int) := by omega
          have hse := seen_rot n a off mask c k hkn
          have hro := rotten_rot n a off mask c k hkn
          have HSE := Lib.hid hse
          have HRO := Lib.hid hro
          clear hse hro
          go_wp2_with fail
          refine (full_box c wr).mono ?_
          rintro e w7 ⟨b, rfl, l7, X7, t7⟩
          have O7 := Lib.hid (O.out.later t7)
          have E7 := Lib.hid (E.out.below t7)
          have nb : ¬ F4 b := fun h => by have := E.out.lt h; omega
          have lb : w.heap.size ≤ b := Nat.le_trans O.out.below.size l7
          have Q7 := Lib.hid X7
          clear O E t7 l7 X7
          by_cases hka : k = a
          · have HS2 := Lib.hid (HSE.out.trans (if_pos hka))
            have HR2 := Lib.hid (HRO.out.trans (show some (decide (k = a)) = some true by rw [decide_eq_true hka]))
            clear HSE HRO
            subst hka
            go_wp2_with fail
            go_loopw [15] (fun vi wr => ∃ j : Nat, j ≤ 4 ∧ vi = .int .i64 j ∧ Hid (Own w F4 wr) ∧ Hid (DrvAt F4 wr p n ((flat n c).rot k off mask)) ∧ Hid (BoxAt wr b ((rotTo (rep c) off mask j).map (Value.int .u8)).toArray)) (fun vi _ => 4 - (intOf vi).toNat)
            case atStart => exact ⟨0, Nat.zero_le _, rfl, O7, E7, Q7⟩
            case round =>
              clear O7 E7 Q7
              obtain ⟨j, hj, rfl, O, E, Q⟩ := hrel
              by_cases hj4 : j < 4
              · have hlen : (rotTo (rep c) off mask j).length = 64 := by rw [rotTo_len, rep_len]
                obtain ⟨ov, hov⟩ : ∃ v, (rotTo (rep c) off mask j)[off + j]? = some v := ⟨_, List.getElem?_eq_getElem (by omega)⟩
                have q0 : wr.cell? ⟨b, off + j, none⟩ = some (.int .u8 ov) := by rw [Q.out.cell]; simp [hov]
                have q1 := Q.out.frozen (off + j)
                have hoi : IntKind.i64.wrap ((off : Int) + (j : Int)) = (off : Int) + (j : Int) := by rw [IntKind.wrap_i64]; omega
                have hoj : (0 : Int) ≤ (off : Int) + (j : Int) := by omega
                have hok : (off : Int) + (j : Int) < 64 := by omega
                have hot : ((off : Int) + (j : Int)).toNat = off + j := by omega
                have h8 : IntKind.i64.wrap (8 * (j : Int)) = 8 * (j : Int) := by rw [IntKind.wrap_i64]; omega
                have h81 : (0 : Int) ≤ 8 * (j : Int) := by omega
                have hF : Keep (fun x => x = b) wr (wr.setCell ⟨b, off + j, none⟩ (.int .u8 (rotV c mask j))) := (Keep.refl (fun x => x = b) wr).setCell (p := ⟨b, off + j, none⟩) (fun _ => rfl) _
                have O2 := Lib.hid (Own.mk (O.out.below.trans (hF.below O.out.below.size (by rintro x rfl; exact lb))) O.out.own)
                have E2 := Lib.hid (E.out.keep hF (by rintro x hf rfl; exact nb hf))
                have Q2 := Q.out.set (off + j) (.int .u8 (rotV c mask j))
                have eQ : (((rotTo (rep c) off mask j).map (Value.int .u8)).toArray).setIfInBounds (off + j) (.int .u8 (rotV c mask j)) = ((rotTo (rep c) off mask (j + 1)).map (Value.int .u8)).toArray := by
                  rw [← rotTo_succ_rep c off mask j (by omega), List.map_set]; simp
                rw [eQ] at Q2
                have Q2 := Lib.hid Q2
                rw [rotV_eq] at O2 E2 Q2
                clear hov hlen hF eQ O E Q
                go_wp2_with fail
                exact ⟨⟨j + 1, by omega, by go_num, O2, E2, Q2⟩, by simp [intOf]; omega⟩
              · obtain rfl : j = 4 := by omega
                go_wp2_with fail
                refine (read_at E rfl k hkn).mono ?_
                rintro e w8 ⟨b8, o8, rfl, l8, l8', R8, t8⟩
                rw [HS2.out] at R8
                have O8 := Lib.hid (O.out.later t8)
                have E8 := Lib.hid (E.out.below t8)
                have q8 := (Q.out.below t8).bytes (xs := rotTo (rep c) off mask 4) (S := fun _ => True) trivial
                rw [show (rotTo (rep c) off mask 4).length = 64 by rw [rotTo_len, rep_len]] at q8
                have c8 := conv_run (c := 64) R8 (by omega)
                have c9 := conv_run (c := 64) q8 (by omega)
                clear O E Q t8 l8 l8' q8 R8
                go_wp2_with fail
                refine (rotten_any E8 rfl k hkn HR2.out).mono ?_
                rintro e w9 ⟨rfl, t9⟩
                have O9 := Lib.hid (O8.out.later t9)
                have E9 := Lib.hid (E8.out.below t9)
                clear O8 E8 t9 c8 c9
                go_wp2_with fail
                exact ⟨⟨k + 1, by omega, by go_num, O9, E9⟩, by simp [intOf]; omega⟩
          · have HS2 := Lib.hid (HSE.out.trans (if_neg hka))
            have HR2 := Lib.hid (HRO.out.trans (show some (decide (k = a)) = some false by rw [decide_eq_false hka]))
            clear HSE HRO
            have hka2 : ¬ (k : Int) = (a : Int) := by omega
            go_wp2_with fail
            refine (read_at E7 rfl k hkn).mono ?_
            rintro e w8 ⟨b8, o8, rfl, l8, l8', R8, t8⟩
            rw [HS2.out] at R8
            have O8 := Lib.hid (O7.out.later t8)
            have E8 := Lib.hid (E7.out.below t8)
            have q8 := (Q7.out.below t8).bytes (xs := rep c) (S := fun _ => True) trivial
            rw [show (rep c).length = 64 by exact rep_len c] at q8
            have c8 := conv_run (c := 64) R8 (by omega)
            have c9 := conv_run (c := 64) q8 (by omega)
            clear O7 E7 Q7 t8 l8 l8' q8 R8
            go_wp2_with fail
            refine (rotten_any E8 rfl k hkn HR2.out).mono ?_
            rintro e w9 ⟨rfl, t9⟩
            have O9 := Lib.hid (O8.out.later t9)
            have E9 := Lib.hid (E8.out.below t9)
            clear O8 E8 t9 c8 c9
            go_wp2_with fail
            exact ⟨⟨k + 1, by omega, by go_num, O9, E9⟩, by simp [intOf]; omega⟩
        · obtain rfl : k = n := by omega
          clear hkn hk hlt hi
          go_wp2_with fail
          refine (full_at c wr).mono ?_
          rintro e w7 ⟨b7, o7, rfl, l7, l7', R7, t7⟩
          have O7 := Lib.hid (O.out.later t7)
          have E7 := Lib.hid (E.out.below t7)
          have n7 : ¬ F4 b7 := fun h => by have := E.out.lt h; omega
          clear O E t7 l7 l7'
          go_wp2_with fail
          refine (write_good E7 rfl a ha (Lib.hid R7) n7 (by simp [DSt.rot, DSt.rotAt, flat])).mono ?_
          rintro e w8 ⟨rfl, F8, D8, hF8, K8⟩
          have O8 := Lib.hid (O7.out.upd hF8 K8)
          have E8 := Lib.hid D8
          clear O7 E7 R7 n7 D8 hF8 K8
          have hr8 : (((flat k c).rot a off mask).write (a : Int) (rep c)).rotten[a]? = some true := by
            have := rotten_rot k a off mask c a ha
            rw [decide_eq_true rfl] at this
            exact this
          have HR8 := Lib.hid hr8
          clear hr8
          go_wp2_with fail
          refine (rotten_any E8 rfl a ha HR8.out).mono ?_
          rintro e w9 ⟨rfl, t9⟩
          have O9 := Lib.hid (O8.out.later t9)
          have E9 := Lib.hid (E8.out.below t9)
          clear O8 E8 t9
          go_wp2_with fail
          refine (flush_good E9 rfl (by simp [DSt.rot, DSt.rotAt, flat, DSt.write])).mono ?_
          rintro e wA ⟨rfl, FA, DA, hFA, KA⟩
          rw [flat_rot_flush k a off mask c ha] at DA
          have OA := Lib.hid (O9.out.upd hFA KA)
          have EA := Lib.hid DA
          clear O9 E9 DA hFA KA HR8
          go_wp2_with fail
          refine (rotten_any EA rfl a ha (r := false) (by simp [flat, ha])).mono ?_
          rintro e wB ⟨rfl, tB⟩
          have OB := Lib.hid (OA.out.later tB)
          have EB := Lib.hid (EA.out.below tB)
          clear OA EA tB
          go_wp2_with fail
          refine (rot_good EB rfl a ha off hoff mask hm (by simp [flat, ha])).mono ?_
          rintro e wC ⟨rfl, FC, DC, hFC, KC⟩
          have OC := Lib.hid (OB.out.upd hFC KC)
          have EC := Lib.hid DC
          clear OB EB DC hFC KC
          go_wp2_with fail
          refine (fail_any EC).mono ?_
          rintro e wD ⟨rfl, FD, DD, hFD, KD⟩
          have OD := Lib.hid (OC.out.upd hFD KD)
          have ED := Lib.hid DD
          clear OC EC DD hFD KD
          have hre : readyE true k (a : Int) = 90 := rfl
          go_wp2_with fail
          refine (read_bad ED (a : Int) (by show readyE true k (a : Int) ≠ 0; rw [hre]; decide)).mono ?_
          rintro e wE ⟨rfl, tE⟩
          have OE := Lib.hid (OD.out.later tE)
          have EE := Lib.hid (ED.out.below tE)
          clear OD ED tE
          rw [show readyE (DSt.gone k).dead k (a : Int) = 90 from rfl]
          go_wp2_with fail
          refine (full_at c wE).mono ?_
          rintro e w10 ⟨b10, o10, rfl, _, _, _, t10⟩
          have O10 := Lib.hid (OE.out.later t10)
          have E10 := Lib.hid (EE.out.below t10)
          clear OE EE t10
          go_wp2_with fail
          refine (write_bad E10 (a : Int) (by show readyE true k (a : Int) ≠ 0; rw [hre]; decide) _).mono ?_
          rintro e w11 ⟨rfl, t11⟩
          have O11 := Lib.hid (O10.out.later t11)
          have E11 := Lib.hid (E10.out.below t11)
          clear O10 E10 t11
          rw [show readyE (DSt.gone k).dead k (a : Int) = 90 from rfl]
          obtain ⟨xa, xb, xc, xd, xe, xf, xg, H11⟩ := E11.out.box
          go_wp2_with fail
          refine (dead_any H11).mono ?_
          rintro e w12 ⟨rfl, t12⟩
          have O12 := Lib.hid (O11.out.later t12)
          have E12 := Lib.hid (E11.out.below t12)
          clear O11 E11 t12 H11
          rw [show (DSt.gone k).dead = true from rfl]
          go_wp2_with fail
          refine (replace_any E12).mono ?_
          rintro e wF ⟨rfl, FF, DF, hFF, KF⟩
          have OF := Lib.hid (O12.out.upd hFF KF)
          have EF := Lib.hid DF
          clear O12 E12 DF hFF KF
          go_wp2_with fail
          refine (read_at EF rfl a ha).mono ?_
          rintro e wG ⟨bG, oG, rfl, lG, lG', RG, tG⟩
          rw [DSt.seen_new ha] at RG
          have OG := Lib.hid (OF.out.later tG)
          have EG := Lib.hid (EF.out.below tG)
          have QG := Lib.hid RG
          have cG : ∀ w', Below wG.heap.size wG w' → (convert 27 9 (.slice (some ⟨bG, oG, none⟩) 64 64)).run Try.prog w' = .ok (.string (strOfNums (rep 0))) w' := fun w' h => conv_run (QG.out.below U8R.stable h) (by omega)
          clear OF EF tG RG lG lG'
          go_wp2_with fail
          refine wp_region_held_drew (S := (fun w' => Below wG.heap.size wG w')) (by kernel_rfl) (by first | exact (Below.refl _ _).drew | assumption) (fun hHeld => ?_)
          refine wpAnyH_take (i := 0) (v := ?_) rfl (by kernel_rfl) (by kernel_rfl) (by kernel_rfl) (fun _ _ _ h => h) (Or.inl ⟨by rfl, ?_⟩) (by assumption) ?_
          rotate_left
          · (intro wq hSw; (try dsimp only at hSw); (try simp only [List.getElem_toArray, List.getElem_cons_succ, List.getElem_cons_zero]); go_simp); try with_reducible rfl
          try simp only [List.getElem_toArray, List.getElem_cons_succ, List.getElem_cons_zero, Act.put, List.setIfInBounds_toArray, List.set_cons_zero, List.set_cons_succ]
          refine wpAnyH_take (i := 1) (v := ?_) rfl (by kernel_rfl) (by kernel_rfl) (by kernel_rfl) (fun _ _ _ h => h) (Or.inl ⟨by rfl, ?_⟩) (by assumption) ?_
          rotate_left
          · (intro wq hSw; (try dsimp only at hSw); (try simp only [List.getElem_toArray, List.getElem_cons_succ, List.getElem_cons_zero]); go_simp); try with_reducible rfl
          try simp only [List.getElem_toArray, List.getElem_cons_succ, List.getElem_cons_zero, Act.put, List.setIfInBounds_toArray, List.set_cons_zero, List.set_cons_succ]
          refine wpAnyH_take (i := 2) (v := ?_) rfl (by kernel_rfl) (by kernel_rfl) (by kernel_rfl) (fun _ _ _ h => h) (Or.inl ⟨by rfl, ?_⟩) (by assumption) ?_
          rotate_left
          · (intro wq hSw; (try dsimp only at hSw); (try simp only [List.getElem_toArray, List.getElem_cons_succ, List.getElem_cons_zero]); go_simp); try with_reducible rfl
          try simp only [List.getElem_toArray, List.getElem_cons_succ, List.getElem_cons_zero, Act.put, List.setIfInBounds_toArray, List.set_cons_zero, List.set_cons_succ]
          refine wpAnyH_take (i := 3) (v := ?_) rfl (by kernel_rfl) (by kernel_rfl) (by kernel_rfl) (fun _ _ _ h => h) (Or.inl ⟨by rfl, ?_⟩) (by assumption) ?_
          rotate_left
          · (intro wq hSw; (try dsimp only at hSw); (try simp only [List.getElem_toArray, List.getElem_cons_succ, List.getElem_cons_zero]); go_simp); try with_reducible rfl
          try simp only [List.getElem_toArray, List.getElem_cons_succ, List.getElem_cons_zero, Act.put, List.setIfInBounds_toArray, List.set_cons_zero, List.set_cons_succ]
          refine wpAnyH_take (i := 4) (v := ?_) rfl (by kernel_rfl) (by kernel_rfl) (by kernel_rfl) (fun _ _ _ h => h) (Or.inl ⟨by rfl, ?_⟩) (by assumption) ?_
          rotate_left
          · (intro wq hSw; (try dsimp only at hSw); (try simp only [List.getElem_toArray, List.getElem_cons_succ, List.getElem_cons_zero]); go_simp); try with_reducible rfl
          try simp only [List.getElem_toArray, List.getElem_cons_succ, List.getElem_cons_zero, Act.put, List.setIfInBounds_toArray, List.set_cons_zero, List.set_cons_succ]
          refine wpAnyH_take (i := 5) (v := ?_) rfl (by kernel_rfl) (by kernel_rfl) (by kernel_rfl) (fun _ _ _ h => h) (Or.inl ⟨by rfl, ?_⟩) (by assumption) ?_
          rotate_left
          · (intro wq hSw; (try dsimp only at hSw); (try simp only [List.getElem_toArray, List.getElem_cons_succ, List.getElem_cons_zero]); go_simp); try with_reducible rfl
          try simp only [List.getElem_toArray, List.getElem_cons_succ, List.getElem_cons_zero, Act.put, List.setIfInBounds_toArray, List.set_cons_zero, List.set_cons_succ]
          refine wpAnyH_take (i := 6) (v := ?_) rfl (by kernel_rfl) (by kernel_rfl) (by kernel_rfl) (fun _ _ _ h => h) (Or.inl ⟨by rfl, ?_⟩) (by assumption) ?_
          rotate_left
          · (intro wq hSw; (try dsimp only at hSw); (try simp only [List.getElem_toArray, List.getElem_cons_succ, List.getElem_cons_zero]); go_simp); try with_reducible rfl
          try simp only [List.getElem_toArray, List.getElem_cons_succ, List.getElem_cons_zero, Act.put, List.setIfInBounds_toArray, List.set_cons_zero, List.set_cons_succ]
          refine wpAnyH_take (i := 7) (v := ?_) rfl (by kernel_rfl) (by kernel_rfl) (by kernel_rfl) (fun _ _ _ h => h) (Or.inl ⟨by rfl, ?_⟩) (by assumption) ?_
          rotate_left
          · (intro wq hSw; (try dsimp only at hSw); (try simp only [List.getElem_toArray, List.getElem_cons_succ, List.getElem_cons_zero]); go_simp); try with_reducible rfl
          try simp only [List.getElem_toArray, List.getElem_cons_succ, List.getElem_cons_zero, Act.put, List.setIfInBounds_toArray, List.set_cons_zero, List.set_cons_succ]
          refine wpAnyH_take (i := 8) (v := ?_) rfl (by kernel_rfl) (by kernel_rfl) (by kernel_rfl) (fun _ _ _ h => h) (Or.inl ⟨by rfl, ?_⟩) (by assumption) ?_
          rotate_left
          · (intro wq hSw; (try dsimp only at hSw); (try simp only [List.getElem_toArray, List.getElem_cons_succ, List.getElem_cons_zero]); go_simp); try with_reducible rfl
          try simp only [List.getElem_toArray, List.getElem_cons_succ, List.getElem_cons_zero, Act.put, List.setIfInBounds_toArray, List.set_cons_zero, List.set_cons_succ]
          refine wpAnyH_take (i := 9) (v := ?_) rfl (by kernel_rfl) (by kernel_rfl) (by kernel_rfl) (fun _ _ _ h => h) (Or.inl ⟨by rfl, ?_⟩) (by assumption) ?_
          rotate_left
          · (intro wq hSw; (try dsimp only at hSw); (try simp only [List.getElem_toArray, List.getElem_cons_succ, List.getElem_cons_zero]); go_simp); try with_reducible rfl
          try simp only [List.getElem_toArray, List.getElem_cons_succ, List.getElem_cons_zero, Act.put, List.setIfInBounds_toArray, List.set_cons_zero, List.set_cons_succ]
          refine wpAnyH_take (i := 10) (v := ?_) rfl (by kernel_rfl) (by kernel_rfl) (by kernel_rfl) (fun _ _ _ h => h) (Or.inl ⟨by rfl, ?_⟩) (by assumption) ?_
          rotate_left
          · (intro wq hSw; (try dsimp only at hSw); (try simp only [List.getElem_toArray, List.getElem_cons_succ, List.getElem_cons_zero]); go_simp); try with_reducible rfl
          try simp only [List.getElem_toArray, List.getElem_cons_succ, List.getElem_cons_zero, Act.put, List.setIfInBounds_toArray, List.set_cons_zero, List.set_cons_succ]
          refine wpAnyH_take (i := 11) (v := ?_) rfl (by kernel_rfl) (by kernel_rfl) (by kernel_rfl) (fun _ _ _ h => h) (Or.inl ⟨by rfl, ?_⟩) (by assumption) ?_
          rotate_left
          · (intro wq hSw; (try dsimp only at hSw); (try simp only [List.getElem_toArray, List.getElem_cons_succ, List.getElem_cons_zero]); go_simp); try with_reducible rfl
          try simp only [List.getElem_toArray, List.getElem_cons_succ, List.getElem_cons_zero, Act.put, List.setIfInBounds_toArray, List.set_cons_zero, List.set_cons_succ]
          refine wpAnyH_take (i := 12) (v := ?_) rfl (by kernel_rfl) (by kernel_rfl) (by kernel_rfl) (fun _ _ _ h => h) (Or.inl ⟨by rfl, ?_⟩) (by assumption) ?_
          rotate_left
          · (intro wq hSw; (try dsimp only at hSw); (try simp only [List.getElem_toArray, List.getElem_cons_succ, List.getElem_cons_zero]); go_simp); try with_reducible rfl
          try simp only [List.getElem_toArray, List.getElem_cons_succ, List.getElem_cons_zero, Act.put, List.setIfInBounds_toArray, List.set_cons_zero, List.set_cons_succ]
          refine wpAnyH_take (i := 13) (v := ?_) rfl (by kernel_rfl) (by kernel_rfl) (by kernel_rfl) (fun _ _ _ h => h) (Or.inl ⟨by rfl, ?_⟩) (by assumption) ?_
          rotate_left
          · (intro wq hSw; (try dsimp only at hSw); (try simp only [List.getElem_toArray, List.getElem_cons_succ, List.getElem_cons_zero]); go_simp); try with_reducible rfl
          try simp only [List.getElem_toArray, List.getElem_cons_succ, List.getElem_cons_zero, Act.put, List.setIfInBounds_toArray, List.set_cons_zero, List.set_cons_succ]
          refine wpAnyH_take (i := 14) (v := ?_) rfl (by kernel_rfl) (by kernel_rfl) (by kernel_rfl) (fun _ _ _ h => h) (Or.inl ⟨by rfl, ?_⟩) (by assumption) ?_
          rotate_left
          · (intro wq hSw; (try dsimp only at hSw); (try simp only [List.getElem_toArray, List.getElem_cons_succ, List.getElem_cons_zero]); go_simp); try with_reducible rfl
          try simp only [List.getElem_toArray, List.getElem_cons_succ, List.getElem_cons_zero, Act.put, List.setIfInBounds_toArray, List.set_cons_zero, List.set_cons_succ]
          refine wpAnyH_take (i := 15) (v := ?_) rfl (by kernel_rfl) (by kernel_rfl) (by kernel_rfl) (fun _ _ _ h => h) (Or.inl ⟨by rfl, ?_⟩) (by assumption) ?_
          rotate_left
          · (intro wq hSw; (try dsimp only at hSw); (try simp only [List.getElem_toArray, List.getElem_cons_succ, List.getElem_cons_zero]); go_simp); try with_reducible rfl
          try simp only [List.getElem_toArray, List.getElem_cons_succ, List.getElem_cons_zero, Act.put, List.setIfInBounds_toArray, List.set_cons_zero, List.set_cons_succ]
          refine wpAnyH_ready (rs := [16]) (by kernel_rfl) (by simp) ?_
          refine AllReadyH.cons rfl (fun K hK => ?_) AllReadyH.nil
          try simp only [List.getElem_toArray, List.getElem_cons_succ, List.getElem_cons_zero]
          go_simp
          go_at_call 13
          refine (full_at _ _).mono ?_
          rintro e wz ⟨bz, oz, rfl, _, _, rz, tz⟩
          have tq := below_then tz (by assumption)
          have cz := conv_run (c := 64) rz (by omega)
          try (go_wp2_with fail)
          refine hK.out _ _ (by first | exact (Below.refl _ _).drew | assumption) (fun hHeld => ?_)
          clear hK K
          try simp only [List.getElem_toArray, List.getElem_cons_succ, List.getElem_cons_zero, Act.put, List.setIfInBounds_toArray, List.set_cons_zero, List.set_cons_succ]
          refine wpAnyH_ready (rs := [17]) (by kernel_rfl) (by simp) ?_
          refine AllReadyH.cons rfl (fun K hK => ?_) AllReadyH.nil
          try simp only [List.getElem_toArray, List.getElem_cons_succ, List.getElem_cons_zero]
          go_simp
          refine hK.out _ _ (by first | exact (Below.refl _ _).drew | assumption) (fun hHeld => ?_)
          clear hK K
          try simp only [List.getElem_toArray, List.getElem_cons_succ, List.getElem_cons_zero, Act.put, List.setIfInBounds_toArray, List.set_cons_zero, List.set_cons_succ]
          refine wpAnyH_take (i := 18) (v := ?_) rfl (by kernel_rfl) (by kernel_rfl) (by kernel_rfl) (fun _ _ _ h => h) (Or.inl ⟨by rfl, ?_⟩) (by assumption) ?_
          rotate_left
          · (intro wq hSw; (try dsimp only at hSw); (try simp only [List.getElem_toArray, List.getElem_cons_succ, List.getElem_cons_zero]); go_simp); try with_reducible rfl
          try simp only [List.getElem_toArray, List.getElem_cons_succ, List.getElem_cons_zero, Act.put, List.setIfInBounds_toArray, List.set_cons_zero, List.set_cons_succ]
          refine wpAnyH_take (i := 19) (v := ?_) rfl (by kernel_rfl) (by kernel_rfl) (by kernel_rfl) (fun _ _ _ h => h) (Or.inl ⟨by rfl, ?_⟩) (by assumption) ?_
          rotate_left
          · (intro wq hSw; (try dsimp only at hSw); (try simp only [List.getElem_toArray, List.getElem_cons_succ, List.getElem_cons_zero]); go_simp); try with_reducible rfl
          try simp only [List.getElem_toArray, List.getElem_cons_succ, List.getElem_cons_zero, Act.put, List.setIfInBounds_toArray, List.set_cons_zero, List.set_cons_succ]
          refine wpAnyH_take (i := 20) (v := ?_) rfl (by kernel_rfl) (by kernel_rfl) (by kernel_rfl) (fun _ _ _ h => h) (Or.inl ⟨by rfl, ?_⟩) (by assumption) ?_
          rotate_left
          · (intro wq hSw; (try dsimp only at hSw); (try simp only [List.getElem_toArray, List.getElem_cons_succ, List.getElem_cons_zero]); go_simp); try with_reducible rfl
          try simp only [List.getElem_toArray, List.getElem_cons_succ, List.getElem_cons_zero, Act.put, List.setIfInBounds_toArray, List.set_cons_zero, List.set_cons_succ]
          refine wpAnyH_take (i := 21) (v := ?_) rfl (by kernel_rfl) (by kernel_rfl) (by kernel_rfl) (fun _ _ _ h => h) (Or.inl ⟨by rfl, ?_⟩) (by assumption) ?_
          rotate_left
          · (intro wq hSw; (try dsimp only at hSw); (try simp only [List.getElem_toArray, List.getElem_cons_succ, List.getElem_cons_zero]); go_simp); try with_reducible rfl
          try simp only [List.getElem_toArray, List.getElem_cons_succ, List.getElem_cons_zero, Act.put, List.setIfInBounds_toArray, List.set_cons_zero, List.set_cons_succ]
          refine wpAnyH_take (i := 22) (v := ?_) rfl (by kernel_rfl) (by kernel_rfl) (by kernel_rfl) (fun _ _ _ h => h) (Or.inl ⟨by rfl, ?_⟩) (by assumption) ?_
          rotate_left
          · (intro wq hSw; (try dsimp only at hSw); (try simp only [List.getElem_toArray, List.getElem_cons_succ, List.getElem_cons_zero]); go_simp); try with_reducible rfl
          try simp only [List.getElem_toArray, List.getElem_cons_succ, List.getElem_cons_zero, Act.put, List.setIfInBounds_toArray, List.set_cons_zero, List.set_cons_succ]
          refine wpAnyH_ready (rs := [23]) (by kernel_rfl) (by simp) ?_
          refine AllReadyH.cons rfl (fun K hK => ?_) AllReadyH.nil
          try simp only [List.getElem_toArray, List.getElem_cons_succ, List.getElem_cons_zero]
          go_simp
          go_at_call 19
          refine (rotten_any (Lib.hid (EG.out.below (by assumption))) rfl a ha (r := false) (by simp [DSt.new, ha])).mono ?_
          rintro e wz ⟨rfl, tz⟩
          have tq := below_then tz (by assumption)
          try (go_wp2_with fail)
          refine hK.out _ _ (by first | exact (Below.refl _ _).drew | assumption) (fun hHeld => ?_)
          clear hK K
          try simp only [List.getElem_toArray, List.getElem_cons_succ, List.getElem_cons_zero, Act.put, List.setIfInBounds_toArray, List.set_cons_zero, List.set_cons_succ]
          refine wpAnyH_take (i := 24) (v := ?_) rfl (by kernel_rfl) (by kernel_rfl) (by kernel_rfl) (fun _ _ _ h => h) (Or.inl ⟨by rfl, ?_⟩) (by assumption) ?_
          rotate_left
          · (intro wq hSw; (try dsimp only at hSw); (try simp only [List.getElem_toArray, List.getElem_cons_succ, List.getElem_cons_zero]); go_simp); try with_reducible rfl
          try simp only [List.getElem_toArray, List.getElem_cons_succ, List.getElem_cons_zero, Act.put, List.setIfInBounds_toArray, List.set_cons_zero, List.set_cons_succ]
          refine wpAnyH_take (i := 25) (v := ?_) rfl (by kernel_rfl) (by kernel_rfl) (by kernel_rfl) (fun _ _ _ h => h) (Or.inl ⟨by rfl, ?_⟩) (by assumption) ?_
          rotate_left
          · (intro wq hSw; (try dsimp only at hSw); (try simp only [List.getElem_toArray, List.getElem_cons_succ, List.getElem_cons_zero]); go_simp); try with_reducible rfl
          try simp only [List.getElem_toArray, List.getElem_cons_succ, List.getElem_cons_zero, Act.put, List.setIfInBounds_toArray, List.set_cons_zero, List.set_cons_succ]
          refine wpAnyH_take (i := 26) (v := ?_) rfl (by kernel_rfl) (by kernel_rfl) (by kernel_rfl) (fun _ _ _ h => h) (Or.inl ⟨by rfl, ?_⟩) (by assumption) ?_
          rotate_left
          · (intro wq hSw; (try dsimp only at hSw); (try simp only [List.getElem_toArray, List.getElem_cons_succ, List.getElem_cons_zero]); go_simp); try with_reducible rfl
          try simp only [List.getElem_toArray, List.getElem_cons_succ, List.getElem_cons_zero, Act.put, List.setIfInBounds_toArray, List.set_cons_zero, List.set_cons_succ]
          refine wpAnyH_ready (rs := [27]) (by kernel_rfl) (by simp) ?_
          refine AllReadyH.cons rfl (fun K hK => ?_) AllReadyH.nil
          try simp only [List.getElem_toArray, List.getElem_cons_succ, List.getElem_cons_zero]
          go_simp
          go_at_call 10
          refine (stores_any _).mono ?_
          rintro e wz ⟨rfl, tz⟩
          have tq := below_then tz (by assumption)
          try (go_wp2_with fail)
          refine hK.out _ _ (by first | exact (Below.refl _ _).drew | assumption) (fun hHeld => ?_)
          clear hK K
          try simp only [List.getElem_toArray, List.getElem_cons_succ, List.getElem_cons_zero, Act.put, List.setIfInBounds_toArray, List.set_cons_zero, List.set_cons_succ]
          refine wpAnyH_take (i := 28) (v := ?_) rfl (by kernel_rfl) (by kernel_rfl) (by kernel_rfl) (fun _ _ _ h => h) (Or.inl ⟨by rfl, ?_⟩) (by assumption) ?_
          rotate_left
          · (intro wq hSw; (try dsimp only at hSw); (try simp only [List.getElem_toArray, List.getElem_cons_succ, List.getElem_cons_zero]); go_simp); try with_reducible rfl
          try simp only [List.getElem_toArray, List.getElem_cons_succ, List.getElem_cons_zero, Act.put, List.setIfInBounds_toArray, List.set_cons_zero, List.set_cons_succ]
          refine wpAnyH_take (i := 29) (v := ?_) rfl (by kernel_rfl) (by kernel_rfl) (by kernel_rfl) (fun _ _ _ h => h) (Or.inl ⟨by rfl, ?_⟩) (by assumption) ?_
          rotate_left
          · (intro wq hSw; (try dsimp only at hSw); (try simp only [List.getElem_toArray, List.getElem_cons_succ, List.getElem_cons_zero]); go_simp); try with_reducible rfl
          try simp only [List.getElem_toArray, List.getElem_cons_succ, List.getElem_cons_zero, Act.put, List.setIfInBounds_toArray, List.set_cons_zero, List.set_cons_succ]
          refine wpAnyH_done (by kernel_rfl) ?_ _
          go_wp2_with fail
          go_ret
          exact ⟨rfl, OG.out.below.trans (Below.mono tq OG.out.below.size)⟩


theorem rots_any (n a off mask c : Int) (w : World) :
    Calls Try.prog 5 #[.int .i64 n, .int .i64 a, .int .i64 off, .int .u32 mask, .int .u8 c] w fun e w' => e = .returned (.bool true) ∧ Below w.heap.size w w' := by
  by_cases h : 2 ≤ n ∧ n ≤ 20 ∧ 0 ≤ a ∧ a < n ∧ 0 ≤ off ∧ off ≤ 60 ∧ ¬ mask = 0
  · obtain ⟨n', rfl⟩ : ∃ k : Nat, n = k := ⟨n.toNat, by omega⟩
    obtain ⟨a', rfl⟩ : ∃ k : Nat, a = k := ⟨a.toNat, by omega⟩
    obtain ⟨off', rfl⟩ : ∃ k : Nat, off = k := ⟨off.toNat, by omega⟩
    exact rots_good n' a' off' mask c w (by omega) (by omega) (by omega) (by omega) h.2.2.2.2.2.2
  · exact rots_bad n a off mask c w h
end Go.Proofs.Ytolmpopjonkfgaa

set_option linter.unusedSimpArgs false
set_option linter.unusedVariables false
namespace Go.Proofs.Ytolmpopjonkfgaa
open Go.RowKit Go.Cib
attribute [local go_sem] cell_set Later.cell Later.frozen Grw.cell Grw.frozen
attribute [local go_sem ↓] shut_load shut_load65 shut_zero shut_zero65 shut_store shut_store65
attribute [local go_sem] run_shutZero run_shutZero65 run_shutStore run_shutStore65 run_shutLoad_set there_new there_new65

set_option maxRecDepth 100000 in
set_option maxHeartbeats 4000000 in
theorem stored_good {F : Nat → Prop} {w : World} {p n : Nat} {st : DSt} (h : Hid (DrvAt F w p n st)) (hd : st.dead = false) (z : Nat) (hz : z < n) {x : List Int} (hx : st.stored[z]? = some x) :
    Calls Try.prog 69 #[.pointer (some ⟨p, 0, none⟩), .int .i64 z] w fun e w' => ∃ A, e = .returned (.slice A 64 64) ∧ RdL U8R 1 (w.heap.size ≤ ·) w' A 64 x ∧ Below w.heap.size w w' := by
  obtain ⟨sb, sc, rb, rc, A, cc, mb, H⟩ := h.out.box
  rw [hd] at H
  go_enter Try.func69, Try.ntmps69
  go_wp2_with fail
  refine (ready_any z H).mono ?_
  rintro e w1 ⟨rfl, h1⟩
  have e1 : readyE false n z = 0 := by simp [readyE, hz]
  rw [e1]
  clear e1 H
  obtain ⟨sb, sc, rb, rc, A, cc, mb, hB, f1, f2, f3, f4, f5, lt⟩ := h.out.below h1
  obtain ⟨k0, k1, k2, k3, k4⟩ := drv_cells hB.box
  have k0a : ∀ o, (w1.alloc o).cell? ⟨p, 0, none⟩ = some (.slice (some ⟨sb, 0, none⟩) n sc) := fun o => cell_alloc2 k0 o
  have hok := hB.ok
  have hxl : x.length = 64 := hok.s64 x (List.mem_of_getElem? hx)
  have hk2 : (z : Int) < (n : Int) := by omega
  have hk3 : (0 : Int) ≤ (z : Int) := Int.natCast_nonneg _
  have hfit := fit_sec hxl
  have hsl : (secCells x).length = 64 := by simpa using hfit.1
  have hl0 : (shutLoad 94 ⟨sb, z * 64, none⟩).run Try.prog w1 = .ok (.agg (secCells x).toArray) w1 := by
    refine run_shutLoad ?_ hsl
    refine ownsRow_range hB.so ?_ (i := z) ?_ (by simp [hok.sl])
    · intro cs hcs; obtain ⟨x, hx, rfl⟩ := List.mem_map.1 hcs; simp [secCells, hok.s64 x hx]
    · simp [hx]
  have hl : ∀ o, (shutLoad 94 ⟨sb, z * 64, none⟩).run Try.prog (w1.alloc o) = .ok (.agg (secCells x).toArray) (w1.alloc o) := fun o => by
    refine run_shutLoad (World.rangeAt_alloc ?_ o) hsl
    refine ownsRow_range hB.so ?_ (i := z) ?_ (by simp [hok.sl])
    · intro cs hcs; obtain ⟨x, hx, rfl⟩ := List.mem_map.1 hcs; simp [secCells, hok.s64 x hx]
    · simp [hx]
  clear hB hok h
  go_wp2_with fail
  go_ret
  have hb := BoxAt.setAll (BoxAt.new w1 secZC 94) (secCells x) (by rw [hsl, secZC_size])
  have hr := hb.bytes (xs := x) (S := (w.heap.size ≤ ·)) h1.size
  rw [hxl] at hr
  exact ⟨_, rfl, hr, (Keep.of_below (F := fun _ => False) ((h1.alloc h1.size _))).trans (G := (· = w1.heap.size)) (setCells_keep _ _ _ _) (fun k hk hlt => by subst hk; have := h1.size; omega) |>.below (Nat.le_refl _) (fun _ h => h.elim)⟩

set_option maxRecDepth 100000 in
theorem stored_bad {F : Nat → Prop} {w : World} {p n : Nat} {st : DSt} (h : Hid (DrvAt F w p n st)) (z : Int) (hz : readyE st.dead n z ≠ 0) :
    Calls Try.prog 69 #[.pointer (some ⟨p, 0, none⟩), .int .i64 z] w fun e w' => e = .returned (.slice none 0 0) ∧ Below w.heap.size w w' := by
  obtain ⟨sb, sc, rb, rc, A, cc, mb, H⟩ := h.out.box
  go_enter Try.func69, Try.ntmps69
  go_wp2_with fail
  refine (ready_any z H).mono ?_
  rintro e w1 ⟨rfl, h1⟩
  obtain ⟨E, hE⟩ : ∃ E, readyE st.dead n z = E := ⟨_, rfl⟩
  rw [hE] at hz ⊢
  have hz2 : (E == 0) = false := by simpa using hz
  have hz3 : (E != 0) = true := by simpa using hz
  clear hE H
  go_wp2_with fail
  go_ret
  exact ⟨rfl, h1⟩

set_option maxRecDepth 100000 in
theorem write_len {F : Nat → Prop} {w : World} {p n : Nat} {st : DSt} (h : Hid (DrvAt F w p n st)) (z : Int) (hz : readyE st.dead n z = 0) (A : Option Addr) (m c : Nat) (hm : m ≠ 64) :
    Calls Try.prog 12 #[.pointer (some ⟨p, 0, none⟩), .int .i64 z, .slice A m c] w fun e w' => e = .returned (.int .i64 2) ∧ Below w.heap.size w w' := by
  obtain ⟨sb, sc, rb, rc, A, cc, mb, H⟩ := h.out.box
  go_enter Try.func12, Try.ntmps12
  go_wp2_with fail
  refine (ready_any z H).mono ?_
  rintro e w1 ⟨rfl, h1⟩
  rw [hz]
  have hz2 : ((m : Int) == 64) = false := by simp; omega
  have hz3 : ((m : Int) != 64) = true := by simp; omega
  have hz4 : ¬ (m : Int) = 64 := by omega
  clear H
  go_wp2_with fail
  go_ret
  exact ⟨rfl, h1⟩

/-- Write, whatever is asked. -/
theorem write_all {F : Nat → Prop} {w : World} {p n : Nat} {st : DSt} (h : Hid (DrvAt F w p n st)) (z : Int) {S : Nat → Prop} {A : Option Addr} {m c : Nat} {bs : List Int} (hb : Hid (RdL U8R 1 S w A m bs)) (hS : ∀ b, S b → ¬ F b) (hcl : st.cache.length < 1000000) :
    Calls Try.prog 12 #[.pointer (some ⟨p, 0, none⟩), .int .i64 z, .slice A m c] w fun e w' => e = .returned (.int .i64 (writeE st.dead n z m)) ∧ Upd F w w' p n (if readyE st.dead n z = 0 ∧ m = 64 then st.write z bs else st) := by
  by_cases hz : readyE st.dead n z = 0
  · by_cases hm : m = 64
    · subst hm
      have hd : st.dead = false := by
        cases hdd : st.dead with
        | false => rfl
        | true => rw [hdd] at hz; simp [readyE] at hz
      have hr : 0 ≤ z ∧ z < n := by
        rw [hd] at hz
        by_cases h0 : 0 ≤ z ∧ z < n
        · exact h0
        · simp [readyE, h0] at hz
      obtain ⟨b, o, rfl, hSb, _⟩ := hb.out.addr (k := 0) (by omega)
      obtain ⟨k, rfl⟩ : ∃ k : Nat, z = k := ⟨z.toNat, by omega⟩
      refine (write_good h hd k (by omega) hb (hS b hSb) hcl).mono ?_
      rintro e w' ⟨rfl, hu⟩
      rw [if_pos ⟨hz, rfl⟩]
      exact ⟨by simp [writeE, hz], hu⟩
    · refine (write_len h z hz A m c hm).mono ?_
      rintro e w' ⟨rfl, hu⟩
      rw [if_neg (fun h => hm h.2)]
      exact ⟨by simp [writeE, hz, hm], h.out.upd hu⟩
  · refine (write_bad h z hz _).mono ?_
    rintro e w' ⟨rfl, hu⟩
    rw [if_neg (fun h => hz h.1)]
    exact ⟨by simp [writeE, hz], h.out.upd hu⟩
end Go.Proofs.Ytolmpopjonkfgaa

set_option linter.unusedSimpArgs false
set_option linter.unusedVariables false
namespace Go.Proofs.Ytolmpopjonkfgaa
open Go.RowKit Go.Cib
attribute [local go_sem] cell_set Later.cell Later.frozen Grw.cell Grw.frozen

theorem run_clone {P : Program} (w : World) {T E : TypeId} {z : Value} {size bytes : Nat} (st : SlTy P T E z size bytes) (ty : TypeId) {A : Option Addr} {m c : Nat} {xs : List Value} (hown : w.ownsRow 0 E size (.slice A m c) m xs) (h1 : ∀ u ∈ xs, u.oneCell' = true) (hb : m * bytes ≤ 140737488355328) (hm : m ≤ maxLen) :
    ∃ v' w', (Builtin.append_ #[T, T] ty #[.slice none 0 0, .slice A m c]).run P w = .ok v' w' ∧ w'.ownsRow w.heap.size E size v' m xs ∧ w.grownBy w' none := by
  obtain ⟨i, hi, hz, hsz, hby⟩ := info_parts st.info
  have hl := hown.1
  rcases hown.2 with ⟨e, h0⟩ | ⟨g, cap, cur, e, hg, hcell, hnc, hcm, hcs, htake⟩
  · subst h0
    obtain ⟨rfl, rfl⟩ : A = none ∧ c = 0 := by simpa using e
    have hx : xs = [] := List.length_eq_zero_iff.1 (by simpa using hl)
    subst hx
    exact ⟨.slice none 0 0, w, by simp [Builtin.append_, run_underlying st.und, sizeOf, typeInfo, hi, Builtin.lenOf, Builtin.firstCells], World.ownsRow_nil _ _ _ _, ⟨rfl, rfl, rfl, Nat.le_refl _, fun _ _ _ => rfl⟩⟩
  · obtain ⟨rfl, rfl⟩ : A = some ⟨g, 0, none⟩ ∧ c = cap := by simpa using e
    obtain ⟨v', w', h2, h3, h4, _, h6⟩ := run_append_own_at (P := P) w w.heap.size T ty E i z size bytes st.und hi hz hsz hby st.zsz st.pos (.slice none 0 0) 0 [] (World.ownsRow_nil _ _ _ _) ⟨g, 0, none⟩ m c xs hl (fun j u hj => by
      have hjl := (List.getElem?_eq_some_iff.1 hj).1
      rw [Addr.add_mid, Nat.zero_add, hown.cellAt j (by omega)]; exact hj) h1 (by omega) (by rw [Nat.zero_add]; exact hb) (Nat.le_refl _)
    exact ⟨v', w', h2, by simpa using h3, h4⟩
theorem step_clone {P : Program} {ops : Array Oper} {o : Oper} {a : Act} {w : World} {K : Act → World → Prop} {Q : Exit → Act → World → Prop} {X : Prop} (hgd : o.guard = none) (s x : Operand) (T : TypeId)
    (ho : o.op = .call { callee := .builtin .append, args := #[s, x], argTypes := #[T, T] }) {E : TypeId} {z : Value} {size bytes : Nat} (st : SlTy P T E z size bytes) {A : Option Addr} {m c : Nat} {xs : List Value} (hown : w.ownsRow 0 E size (.slice A m c) m xs ∧ ∀ u ∈ xs, u.oneCell' = true)
    (hs : a.eval s = .slice none 0 0) (hx : a.eval x = .slice A m c) (hb : m * bytes ≤ 140737488355328) (hm : m ≤ maxLen)
    (h : ∀ v' w', w'.ownsRow w.heap.size E size v' m xs → w.grownBy w' none → K (a.put o.dst v') w') : if Region.wanted o (yielded ops a.tmps) = true then Oper.wp P o a w K Q else X := by
  have hw : Region.wanted o (yielded ops a.tmps) = true := by simp [Region.wanted, hgd]
  rw [if_pos hw]
  obtain ⟨v', w', h1, h2, h3⟩ := run_clone w st o.type hown.1 hown.2 hb hm
  unfold Oper.wp execOp
  simp only [ho, resolve, invoke, builtin, Sem.run_bind, Sem.run_pure, Result.andThen_ok, List.map_toArray, List.map_cons, List.map_nil, hs, hx, h1]
  exact h v' w' h2 h3

theorem slSec : SlTy Try.prog 87 94 (.agg secZC) 64 64 := ⟨Try.underlying87, by kernel_rfl, secZC_size, by omega⟩
theorem slWait : SlTy Try.prog 88 96 (.agg waitZC) 65 72 := ⟨Try.underlying88, by kernel_rfl, waitZC_size, by omega⟩
theorem slBool : SlTy Try.prog 23 4 (.bool false) 1 1 := ⟨Try.underlying23, by kernel_rfl, rfl, by omega⟩
theorem rows_one {α : Type} {f : α → List Value} (hf : ∀ x, ∀ u ∈ f x, u.oneCell' = true) (xs : List α) : ∀ u ∈ (xs.map f).flatten, u.oneCell' = true := by
  intro u hu
  obtain ⟨l, hl, hul⟩ := List.mem_flatten.1 hu
  obtain ⟨x, _, rfl⟩ := List.mem_map.1 hl
  exact hf x u hul
theorem bools_one (xs : List Bool) : ∀ u ∈ xs.map Value.bool, u.oneCell' = true := by
  intro u hu
  obtain ⟨x, _, rfl⟩ := List.mem_map.1 hu
  rfl
theorem undrew {w w' : World} {r : Option Nat} (h : w.drew.grownBy w' r) : w.grownBy w' r := ⟨h.os, h.tape, h.output, h.size, h.block⟩
theorem own_form {w : World} {b : Nat} {e : TypeId} {size : Nat} {v : Value} {n : Nat} {xs : List Value} (h : w.ownsRow b e size v n xs) : ∃ A c, v = .slice A n c := by
  rcases h.2 with ⟨rfl, rfl⟩ | ⟨g, cap, cur, rfl, _⟩
  · exact ⟨none, 0, rfl⟩
  · exact ⟨_, cap, rfl⟩
theorem own_base {w : World} {b b2 : Nat} {e : TypeId} {size : Nat} {v : Value} {n : Nat} {xs : List Value} (h : w.ownsRow b e size v n xs) (hb : b2 ≤ b) : w.ownsRow b2 e size v n xs := by
  rcases h with ⟨h1, h2 | ⟨g, cap, cur, rfl, h3, h4⟩⟩
  · exact ⟨h1, .inl h2⟩
  · exact ⟨h1, .inr ⟨g, cap, cur, rfl, Nat.le_trans hb h3, h4⟩⟩
theorem grown_below {w w' : World} (h : w.grownBy w' none) : Below w.heap.size w w' := ⟨h.os, h.tape, h.output, h.size, fun k hk => h.block k hk (by simp)⟩

set_option maxRecDepth 100000 in
set_option maxHeartbeats 8000000 in
theorem copy_any {F : Nat → Prop} {w : World} {p n : Nat} {st : DSt} (h : Hid (DrvAt F w p n st)) (hcl : st.cache.length < 1000000) :
    Calls Try.prog 26 #[.pointer (some ⟨p, 0, none⟩)] w fun e w' => ∃ p' F', e = .returned (.pointer (some ⟨p', 0, none⟩)) ∧ DrvAt F' w' p' n st ∧ (∀ b, F' b → w.heap.size ≤ b) ∧ Below w.heap.size w w' := by
  obtain ⟨sb, sc, rb, rc, A, cc, mb, H⟩ := h.out.box
  go_enter Try.func26, Try.ntmps26
  go_wp2_with fail
  refine (none_any H).mono ?_
  rintro e w1 ⟨rfl, h1⟩
  clear H
  obtain ⟨sb, sc, rb, rc, A, cc, mb, hB, f1, f2, f3, f4, f5, lt⟩ := h.out.below h1
  obtain ⟨k0, k1, k2, k3, k4⟩ := drv_cells hB.box
  have h1s := h1.size
  have HB := Lib.hid hB
  have H1 := Lib.hid h1
  have m3 := @run_makeMap Try.prog
  have k4a : ∀ o, (w1.alloc o).cell? ⟨p, 4, none⟩ = some (.bool st.dead) := fun o => cell_alloc2 k4 o
  obtain ⟨mq, hmq⟩ : ∃ mq, w1.heap.size = mq := ⟨_, rfl⟩
  obtain ⟨W, hW⟩ : ∃ W, (w1.alloc (.map #[] 0)).alloc (.cells #[.slice none 0 0, .slice none 0 0, .slice none 0 0, .map (some mq), .bool st.dead] 91) = W := ⟨_, rfl⟩
  obtain ⟨q, hq⟩ : ∃ q, mq + 1 = q := ⟨_, rfl⟩
  have a1 : Below w1.heap.size w1 W := by rw [← hW]; exact ((Below.refl _ _).alloc (Nat.le_refl _) _).alloc (by simp) _
  have X1 : BoxAt W q #[.slice none 0 0, .slice none 0 0, .slice none 0 0, .map (some mq), .bool st.dead] := by
    rw [← hW, ← hq]
    have := BoxAt.new (w1.alloc (.map #[] 0)) #[.slice none 0 0, .slice none 0 0, .slice none 0 0, .map (some mq), .bool st.dead] 91
    simpa [hmq] using this
  have Mq : MapAt (Value.int .i64) W mq ([] : List (Int × Value)) := by
    rw [← hW, ← hmq]
    exact (MapAt.new (Value.int .i64) w1).alloc _
  have hpq : p ≠ q := by have := lt p f1; omega
  have A1 := Lib.hid a1
  have HX := Lib.hid X1
  have HM := Lib.hid Mq
  have hpl : p < w1.heap.size := lt p f1
  have hmqq : mq ≠ q := by omega
  have hqs : w1.heap.size ≤ q := by omega
  have h600 := hB.n600
  have hq0 : q < W.heap.size := X1.lt
  have hqa := hq0
  clear hB h a1 X1 Mq h1 f1 f2 f3 f4 f5 lt
  go_wp2_with fail
  clear m3 hW k4a
  have kd0 : W.cell? ⟨p, 0, none⟩ = some (.slice (some ⟨sb, 0, none⟩) n sc) := by rw [A1.out.cell (p := ⟨p, 0, none⟩) hpl]; exact k0
  have kq0 : W.cell? ⟨q, 0, none⟩ = some (.slice none 0 0) := HX.out.cell 0
  have kf0 : W.frozen? ⟨q, 0, none⟩ = false := HX.out.frozen 0
  have KA0 : ∀ w', World.grownBy (World.drew W) w' none → w'.cell? ⟨p, 0, none⟩ = some (.slice (some ⟨sb, 0, none⟩) n sc) := fun w' hg => cell_far2 (w := World.drew W) kd0 hg (by simp)
  have KQ0 : ∀ w', World.grownBy (World.drew W) w' none → w'.cell? ⟨q, 0, none⟩ = some (.slice none 0 0) ∧ w'.frozen? ⟨q, 0, none⟩ = false := fun w' hg => ⟨cell_far2 (w := World.drew W) kq0 hg (by simp), frozen_far2 (w := World.drew W) kq0 kf0 hg (by simp)⟩
  have KS0 : ∀ (w' : World) (v : Value), w'.cell? ⟨p, 0, none⟩ = some (.slice (some ⟨sb, 0, none⟩) n sc) → (w'.setCell ⟨q, 0, none⟩ v).cell? ⟨p, 0, none⟩ = some (.slice (some ⟨sb, 0, none⟩) n sc) := fun w' v h => cell_setCell_ne h hpq
  have KO0 := And.intro (World.ownsRow.drew (ownsRow_keep (w' := W) HB.out.so (fun k hk => A1.out.block k (HB.out.so.lt k hk).2))) (rows_one (f := secCells) (fun x u hu => secCells_one u hu) st.stored)
  have KK0 := Lib.hid KQ0
  clear KQ0
  refine wp_region_held_drew (S := (fun w' => w'.cell? ⟨p, 0, none⟩ = some (.slice (some ⟨sb, 0, none⟩) n sc))) (by kernel_rfl) (by first | exact kd0 | exact KA0 _ hg0 | exact KS0 _ _ (KA0 _ hg0)) (fun hHeld => ?_)
  refine wpAnyH_take (i := 0) (v := ?_) rfl (by kernel_rfl) (by kernel_rfl) (by kernel_rfl) (fun _ _ _ h => h) (Or.inl ⟨by rfl, ?_⟩) (by assumption) ?_
  rotate_left
  · (intro wq hSw; (try dsimp only at hSw); (try simp only [List.getElem_toArray, List.getElem_cons_succ, List.getElem_cons_zero]); go_simp); try with_reducible rfl
  try simp only [List.getElem_toArray, List.getElem_cons_succ, List.getElem_cons_zero, Act.put, List.setIfInBounds_toArray, List.set_cons_zero, List.set_cons_succ]
  refine wpAnyH_take (i := 1) (v := ?_) rfl (by kernel_rfl) (by kernel_rfl) (by kernel_rfl) (fun _ _ _ h => h) (Or.inl ⟨by rfl, ?_⟩) (by assumption) ?_
  rotate_left
  · (intro wq hSw; (try dsimp only at hSw); (try simp only [List.getElem_toArray, List.getElem_cons_succ, List.getElem_cons_zero]); go_simp); try with_reducible rfl
  try simp only [List.getElem_toArray, List.getElem_cons_succ, List.getElem_cons_zero, Act.put, List.setIfInBounds_toArray, List.set_cons_zero, List.set_cons_succ]
  refine wpAnyH_take (i := 2) (v := ?_) rfl (by kernel_rfl) (by kernel_rfl) (by kernel_rfl) (fun _ _ _ h => h) (Or.inl ⟨by rfl, ?_⟩) (by assumption) ?_
  rotate_left
  · (intro wq hSw; (try dsimp only at hSw); (try simp only [List.getElem_toArray, List.getElem_cons_succ, List.getElem_cons_zero]); go_simp); try with_reducible rfl
  try simp only [List.getElem_toArray, List.getElem_cons_succ, List.getElem_cons_zero, Act.put, List.setIfInBounds_toArray, List.set_cons_zero, List.set_cons_succ]
  refine wpAnyH_take (i := 3) (v := ?_) rfl (by kernel_rfl) (by kernel_rfl) (by kernel_rfl) (fun _ _ _ h => h) (Or.inl ⟨by rfl, ?_⟩) (by assumption) ?_
  rotate_left
  · (intro wq hSw; (try dsimp only at hSw); (try simp only [List.getElem_toArray, List.getElem_cons_succ, List.getElem_cons_zero]); go_simp); try with_reducible rfl
  try simp only [List.getElem_toArray, List.getElem_cons_succ, List.getElem_cons_zero, Act.put, List.setIfInBounds_toArray, List.set_cons_zero, List.set_cons_succ]
  refine wpAnyH_take (i := 5) (v := ?_) rfl (by kernel_rfl) (by kernel_rfl) (by kernel_rfl) (fun _ _ _ h => h) (Or.inl ⟨by rfl, ?_⟩) (by assumption) ?_
  rotate_left
  · (intro wq hSw; (try dsimp only at hSw); (try simp only [List.getElem_toArray, List.getElem_cons_succ, List.getElem_cons_zero]); go_simp); try with_reducible rfl
  try simp only [List.getElem_toArray, List.getElem_cons_succ, List.getElem_cons_zero, Act.put, List.setIfInBounds_toArray, List.set_cons_zero, List.set_cons_succ]
  refine wpAnyH_take (i := 6) (v := ?_) rfl (by kernel_rfl) (by kernel_rfl) (by kernel_rfl) (fun _ _ _ h => h) (Or.inl ⟨by rfl, ?_⟩) (by assumption) ?_
  rotate_left
  · (intro wq hSw; (try dsimp only at hSw); (try simp only [List.getElem_toArray, List.getElem_cons_succ, List.getElem_cons_zero]); go_simp); try with_reducible rfl
  try simp only [List.getElem_toArray, List.getElem_cons_succ, List.getElem_cons_zero, Act.put, List.setIfInBounds_toArray, List.set_cons_zero, List.set_cons_succ]
  refine wpAnyH_take (i := 7) (v := ?_) rfl (by kernel_rfl) (by kernel_rfl) (by kernel_rfl) (fun _ _ _ h => h) (Or.inl ⟨by rfl, ?_⟩) (by assumption) ?_
  rotate_left
  · (intro wq hSw; (try dsimp only at hSw); (try simp only [List.getElem_toArray, List.getElem_cons_succ, List.getElem_cons_zero]); go_simp); try with_reducible rfl
  try simp only [List.getElem_toArray, List.getElem_cons_succ, List.getElem_cons_zero, Act.put, List.setIfInBounds_toArray, List.set_cons_zero, List.set_cons_succ]
  refine wpAnyH_take (i := 8) (v := ?_) rfl (by kernel_rfl) (by kernel_rfl) (by kernel_rfl) (fun _ _ _ h => h) (Or.inl ⟨by rfl, ?_⟩) (by assumption) ?_
  rotate_left
  · (intro wq hSw; (try dsimp only at hSw); (try simp only [List.getElem_toArray, List.getElem_cons_succ, List.getElem_cons_zero]); go_simp); try with_reducible rfl
  try simp only [List.getElem_toArray, List.getElem_cons_succ, List.getElem_cons_zero, Act.put, List.setIfInBounds_toArray, List.set_cons_zero, List.set_cons_succ]
  refine wpAnyH_ready (rs := [4]) (by kernel_rfl) (by simp) ?_
  refine AllReadyH.cons rfl (fun K hK => ?_) AllReadyH.nil
  try simp only [List.getElem_toArray, List.getElem_cons_succ, List.getElem_cons_zero]
  go_simp
  refine hK.out _ _ (by first | exact kd0 | exact KA0 _ hg0 | exact KS0 _ _ (KA0 _ hg0)) (fun hHeld => ?_)
  clear hK K
  try simp only [List.getElem_toArray, List.getElem_cons_succ, List.getElem_cons_zero, Act.put, List.setIfInBounds_toArray, List.set_cons_zero, List.set_cons_succ]
  refine wpAnyH_ready (rs := [9]) (by kernel_rfl) (by simp) ?_
  refine AllReadyH.cons rfl (fun K hK => ?_) AllReadyH.nil
  refine step_clone (by rfl) _ _ 87 (by rfl) slSec KO0 (by rfl) (by rfl) (by omega) (by unfold maxLen; omega) ?_
  intro v0 w40 own0 hg0
  obtain ⟨B0, C0, rfl⟩ := own_form own0
  obtain ⟨kz0, zz0⟩ := KK0.out w40 hg0
  have gg0 := undrew hg0
  refine hK.out _ _ (by first | exact kd0 | exact KA0 _ hg0 | exact KS0 _ _ (KA0 _ hg0)) (fun hHeld => ?_)
  clear hK K
  try simp only [List.getElem_toArray, List.getElem_cons_succ, List.getElem_cons_zero, Act.put, List.setIfInBounds_toArray, List.set_cons_zero, List.set_cons_succ]
  refine wpAnyH_take (i := 10) (v := ?_) rfl (by kernel_rfl) (by kernel_rfl) (by kernel_rfl) (fun _ _ _ h => h) (Or.inl ⟨by rfl, ?_⟩) (by assumption) ?_
  rotate_left
  · (intro wq hSw; (try dsimp only at hSw); (try simp only [List.getElem_toArray, List.getElem_cons_succ, List.getElem_cons_zero]); go_simp); try with_reducible rfl
  try simp only [List.getElem_toArray, List.getElem_cons_succ, List.getElem_cons_zero, Act.put, List.setIfInBounds_toArray, List.set_cons_zero, List.set_cons_succ]
  refine wpAnyH_take (i := 11) (v := ?_) rfl (by kernel_rfl) (by kernel_rfl) (by kernel_rfl) (fun _ _ _ h => h) (Or.inl ⟨by rfl, ?_⟩) (by assumption) ?_
  rotate_left
  · (intro wq hSw; (try dsimp only at hSw); (try simp only [List.getElem_toArray, List.getElem_cons_succ, List.getElem_cons_zero]); go_simp); try with_reducible rfl
  try simp only [List.getElem_toArray, List.getElem_cons_succ, List.getElem_cons_zero, Act.put, List.setIfInBounds_toArray, List.set_cons_zero, List.set_cons_succ]
  refine wpAnyH_ready (rs := [12]) (by kernel_rfl) (by simp) ?_
  refine AllReadyH.cons rfl (fun K hK => ?_) AllReadyH.nil
  try simp only [List.getElem_toArray, List.getElem_cons_succ, List.getElem_cons_zero]
  go_simp
  refine hK.out _ _ (by first | exact kd0 | exact KA0 _ hg0 | exact KS0 _ _ (KA0 _ hg0)) (fun hHeld => ?_)
  clear hK K
  try simp only [List.getElem_toArray, List.getElem_cons_succ, List.getElem_cons_zero, Act.put, List.setIfInBounds_toArray, List.set_cons_zero, List.set_cons_succ]
  refine wpAnyH_done (by kernel_rfl) ?_ _
  obtain ⟨Wa, hWa⟩ : ∃ x, w40.setCell ⟨q, 0, none⟩ (.slice B0 n C0) = x := ⟨_, rfl⟩
  have Aa : Hid (Below w1.heap.size w1 Wa) := Lib.hid (by rw [← hWa]; exact (A1.out.trans ((grown_below gg0).mono A1.out.size)).setCell hqs _)
  have Xa : Hid (BoxAt Wa q #[.slice B0 n C0, .slice none 0 0, .slice none 0 0, .map (some mq), .bool st.dead]) := Lib.hid (by rw [← hWa]; exact (HX.out.keep (gg0.block q HX.out.lt (by simp))).set 0 (.slice B0 n C0))
  have Ma : Hid (MapAt (Value.int .i64) Wa mq ([] : List (Int × Value))) := Lib.hid (by rw [← hWa]; exact (HM.out.keep (gg0.block mq HM.out.lt (by simp))).keep (Below.heap_setCell _ _ _ _ hmqq))
  have P0a : Hid (Wa.ownsRow W.heap.size _ _ (.slice B0 n C0) _ _) := Lib.hid (by rw [← hWa]; exact ownsRow_keep own0 (fun k hk => Below.heap_setCell _ _ _ _ (by have h1 := (own0.lt k hk).1; have h2 := HX.out.lt; show k ≠ q; simp at h1; omega)))
  have G0 : Hid (∀ k, Value.ownBlock (.slice B0 n C0) = some k → W.heap.size ≤ k ∧ k < Wa.heap.size) := Lib.hid (fun k hk => P0a.out.lt k hk)
  have hqa : q < Wa.heap.size := Xa.out.lt
  clear kd0 kq0 kf0 KA0 KS0 KO0 KK0 hg0 gg0 kz0 zz0 own0 hHeld
  try rw [hWa]
  go_wp2_with fail
  try rw [hWa]
  clear hWa
  have kd1 : Wa.cell? ⟨p, 1, none⟩ = some (.slice (some ⟨rb, 0, none⟩) n rc) := by rw [Aa.out.cell (p := ⟨p, 1, none⟩) hpl]; exact k1
  have kq1 : Wa.cell? ⟨q, 1, none⟩ = some (.slice none 0 0) := Xa.out.cell 1
  have kf1 : Wa.frozen? ⟨q, 1, none⟩ = false := Xa.out.frozen 1
  have KA1 : ∀ w', World.grownBy (World.drew Wa) w' none → w'.cell? ⟨p, 1, none⟩ = some (.slice (some ⟨rb, 0, none⟩) n rc) := fun w' hg => cell_far2 (w := World.drew Wa) kd1 hg (by simp)
  have KQ1 : ∀ w', World.grownBy (World.drew Wa) w' none → w'.cell? ⟨q, 1, none⟩ = some (.slice none 0 0) ∧ w'.frozen? ⟨q, 1, none⟩ = false := fun w' hg => ⟨cell_far2 (w := World.drew Wa) kq1 hg (by simp), frozen_far2 (w := World.drew Wa) kq1 kf1 hg (by simp)⟩
  have KS1 : ∀ (w' : World) (v : Value), w'.cell? ⟨p, 1, none⟩ = some (.slice (some ⟨rb, 0, none⟩) n rc) → (w'.setCell ⟨q, 1, none⟩ v).cell? ⟨p, 1, none⟩ = some (.slice (some ⟨rb, 0, none⟩) n rc) := fun w' v h => cell_setCell_ne h hpq
  have KO1 := And.intro (World.ownsRow.drew (ownsRow_keep (w' := Wa) HB.out.ro (fun k hk => Aa.out.block k (HB.out.ro.lt k hk).2))) (bools_one st.rotten)
  have KK1 := Lib.hid KQ1
  clear KQ1
  refine wp_region_held_drew (S := (fun w' => w'.cell? ⟨p, 1, none⟩ = some (.slice (some ⟨rb, 0, none⟩) n rc))) (by kernel_rfl) (by first | exact kd1 | exact KA1 _ hg1 | exact KS1 _ _ (KA1 _ hg1)) (fun hHeld => ?_)
  refine wpAnyH_take (i := 0) (v := ?_) rfl (by kernel_rfl) (by kernel_rfl) (by kernel_rfl) (fun _ _ _ h => h) (Or.inl ⟨by rfl, ?_⟩) (by assumption) ?_
  rotate_left
  · (intro wq hSw; (try dsimp only at hSw); (try simp only [List.getElem_toArray, List.getElem_cons_succ, List.getElem_cons_zero]); go_simp); try with_reducible rfl
  try simp only [List.getElem_toArray, List.getElem_cons_succ, List.getElem_cons_zero, Act.put, List.setIfInBounds_toArray, List.set_cons_zero, List.set_cons_succ]
  refine wpAnyH_take (i := 1) (v := ?_) rfl (by kernel_rfl) (by kernel_rfl) (by kernel_rfl) (fun _ _ _ h => h) (Or.inl ⟨by rfl, ?_⟩) (by assumption) ?_
  rotate_left
  · (intro wq hSw; (try dsimp only at hSw); (try simp only [List.getElem_toArray, List.getElem_cons_succ, List.getElem_cons_zero]); go_simp); try with_reducible rfl
  try simp only [List.getElem_toArray, List.getElem_cons_succ, List.getElem_cons_zero, Act.put, List.setIfInBounds_toArray, List.set_cons_zero, List.set_cons_succ]
  refine wpAnyH_take (i := 2) (v := ?_) rfl (by kernel_rfl) (by kernel_rfl) (by kernel_rfl) (fun _ _ _ h => h) (Or.inl ⟨by rfl, ?_⟩) (by assumption) ?_
  rotate_left
  · (intro wq hSw; (try dsimp only at hSw); (try simp only [List.getElem_toArray, List.getElem_cons_succ, List.getElem_cons_zero]); go_simp); try with_reducible rfl
  try simp only [List.getElem_toArray, List.getElem_cons_succ, List.getElem_cons_zero, Act.put, List.setIfInBounds_toArray, List.set_cons_zero, List.set_cons_succ]
  refine wpAnyH_take (i := 3) (v := ?_) rfl (by kernel_rfl) (by kernel_rfl) (by kernel_rfl) (fun _ _ _ h => h) (Or.inl ⟨by rfl, ?_⟩) (by assumption) ?_
  rotate_left
  · (intro wq hSw; (try dsimp only at hSw); (try simp only [List.getElem_toArray, List.getElem_cons_succ, List.getElem_cons_zero]); go_simp); try with_reducible rfl
  try simp only [List.getElem_toArray, List.getElem_cons_succ, List.getElem_cons_zero, Act.put, List.setIfInBounds_toArray, List.set_cons_zero, List.set_cons_succ]
  refine wpAnyH_take (i := 5) (v := ?_) rfl (by kernel_rfl) (by kernel_rfl) (by kernel_rfl) (fun _ _ _ h => h) (Or.inl ⟨by rfl, ?_⟩) (by assumption) ?_
  rotate_left
  · (intro wq hSw; (try dsimp only at hSw); (try simp only [List.getElem_toArray, List.getElem_cons_succ, List.getElem_cons_zero]); go_simp); try with_reducible rfl
  try simp only [List.getElem_toArray, List.getElem_cons_succ, List.getElem_cons_zero, Act.put, List.setIfInBounds_toArray, List.set_cons_zero, List.set_cons_succ]
  refine wpAnyH_take (i := 6) (v := ?_) rfl (by kernel_rfl) (by kernel_rfl) (by kernel_rfl) (fun _ _ _ h => h) (Or.inl ⟨by rfl, ?_⟩) (by assumption) ?_
  rotate_left
  · (intro wq hSw; (try dsimp only at hSw); (try simp only [List.getElem_toArray, List.getElem_cons_succ, List.getElem_cons_zero]); go_simp); try with_reducible rfl
  try simp only [List.getElem_toArray, List.getElem_cons_succ, List.getElem_cons_zero, Act.put, List.setIfInBounds_toArray, List.set_cons_zero, List.set_cons_succ]
  refine wpAnyH_take (i := 7) (v := ?_) rfl (by kernel_rfl) (by kernel_rfl) (by kernel_rfl) (fun _ _ _ h => h) (Or.inl ⟨by rfl, ?_⟩) (by assumption) ?_
  rotate_left
  · (intro wq hSw; (try dsimp only at hSw); (try simp only [List.getElem_toArray, List.getElem_cons_succ, List.getElem_cons_zero]); go_simp); try with_reducible rfl
  try simp only [List.getElem_toArray, List.getElem_cons_succ, List.getElem_cons_zero, Act.put, List.setIfInBounds_toArray, List.set_cons_zero, List.set_cons_succ]
  refine wpAnyH_take (i := 8) (v := ?_) rfl (by kernel_rfl) (by kernel_rfl) (by kernel_rfl) (fun _ _ _ h => h) (Or.inl ⟨by rfl, ?_⟩) (by assumption) ?_
  rotate_left
  · (intro wq hSw; (try dsimp only at hSw); (try simp only [List.getElem_toArray, List.getElem_cons_succ, List.getElem_cons_zero]); go_simp); try with_reducible rfl
  try simp only [List.getElem_toArray, List.getElem_cons_succ, List.getElem_cons_zero, Act.put, List.setIfInBounds_toArray, List.set_cons_zero, List.set_cons_succ]
  refine wpAnyH_ready (rs := [4]) (by kernel_rfl) (by simp) ?_
  refine AllReadyH.cons rfl (fun K hK => ?_) AllReadyH.nil
  try simp only [List.getElem_toArray, List.getElem_cons_succ, List.getElem_cons_zero]
  go_simp
  refine hK.out _ _ (by first | exact kd1 | exact KA1 _ hg1 | exact KS1 _ _ (KA1 _ hg1)) (fun hHeld => ?_)
  clear hK K
  try simp only [List.getElem_toArray, List.getElem_cons_succ, List.getElem_cons_zero, Act.put, List.setIfInBounds_toArray, List.set_cons_zero, List.set_cons_succ]
  refine wpAnyH_ready (rs := [9]) (by kernel_rfl) (by simp) ?_
  refine AllReadyH.cons rfl (fun K hK => ?_) AllReadyH.nil
  refine step_clone (by rfl) _ _ 23 (by rfl) slBool KO1 (by rfl) (by rfl) (by omega) (by unfold maxLen; omega) ?_
  intro v1 w41 own1 hg1
  obtain ⟨B1, C1, rfl⟩ := own_form own1
  obtain ⟨kz1, zz1⟩ := KK1.out w41 hg1
  have gg1 := undrew hg1
  refine hK.out _ _ (by first | exact kd1 | exact KA1 _ hg1 | exact KS1 _ _ (KA1 _ hg1)) (fun hHeld => ?_)
  clear hK K
  try simp only [List.getElem_toArray, List.getElem_cons_succ, List.getElem_cons_zero, Act.put, List.setIfInBounds_toArray, List.set_cons_zero, List.set_cons_succ]
  refine wpAnyH_take (i := 10) (v := ?_) rfl (by kernel_rfl) (by kernel_rfl) (by kernel_rfl) (fun _ _ _ h => h) (Or.inl ⟨by rfl, ?_⟩) (by assumption) ?_
  rotate_left
  · (intro wq hSw; (try dsimp only at hSw); (try simp only [List.getElem_toArray, List.getElem_cons_succ, List.getElem_cons_zero]); go_simp); try with_reducible rfl
  try simp only [List.getElem_toArray, List.getElem_cons_succ, List.getElem_cons_zero, Act.put, List.setIfInBounds_toArray, List.set_cons_zero, List.set_cons_succ]
  refine wpAnyH_take (i := 11) (v := ?_) rfl (by kernel_rfl) (by kernel_rfl) (by kernel_rfl) (fun _ _ _ h => h) (Or.inl ⟨by rfl, ?_⟩) (by assumption) ?_
  rotate_left
  · (intro wq hSw; (try dsimp only at hSw); (try simp only [List.getElem_toArray, List.getElem_cons_succ, List.getElem_cons_zero]); go_simp); try with_reducible rfl
  try simp only [List.getElem_toArray, List.getElem_cons_succ, List.getElem_cons_zero, Act.put, List.setIfInBounds_toArray, List.set_cons_zero, List.set_cons_succ]
  refine wpAnyH_ready (rs := [12]) (by kernel_rfl) (by simp) ?_
  refine AllReadyH.cons rfl (fun K hK => ?_) AllReadyH.nil
  try simp only [List.getElem_toArray, List.getElem_cons_succ, List.getElem_cons_zero]
  go_simp
  refine hK.out _ _ (by first | exact kd1 | exact KA1 _ hg1 | exact KS1 _ _ (KA1 _ hg1)) (fun hHeld => ?_)
  clear hK K
  try simp only [List.getElem_toArray, List.getElem_cons_succ, List.getElem_cons_zero, Act.put, List.setIfInBounds_toArray, List.set_cons_zero, List.set_cons_succ]
  refine wpAnyH_done (by kernel_rfl) ?_ _
  obtain ⟨Wb, hWb⟩ : ∃ x, w41.setCell ⟨q, 1, none⟩ (.slice B1 n C1) = x := ⟨_, rfl⟩
  have Ab : Hid (Below w1.heap.size w1 Wb) := Lib.hid (by rw [← hWb]; exact (Aa.out.trans ((grown_below gg1).mono Aa.out.size)).setCell hqs _)
  have Xb : Hid (BoxAt Wb q #[.slice B0 n C0, .slice B1 n C1, .slice none 0 0, .map (some mq), .bool st.dead]) := Lib.hid (by rw [← hWb]; exact (Xa.out.keep (gg1.block q Xa.out.lt (by simp))).set 1 (.slice B1 n C1))
  have Mb : Hid (MapAt (Value.int .i64) Wb mq ([] : List (Int × Value))) := Lib.hid (by rw [← hWb]; exact (Ma.out.keep (gg1.block mq Ma.out.lt (by simp))).keep (Below.heap_setCell _ _ _ _ hmqq))
  have P0b := Lib.hid (ownsRow_keep (w' := Wb) P0a.out (fun k hk => by rw [← hWb]; exact (Below.heap_setCell _ _ _ _ (by have := (P0a.out.lt k hk).1; have := hq0; have := hqa; show k ≠ q; omega)).trans (gg1.block k (P0a.out.lt k hk).2 (by simp))))
  have P1b : Hid (Wb.ownsRow Wa.heap.size _ _ (.slice B1 n C1) _ _) := Lib.hid (by rw [← hWb]; exact ownsRow_keep own1 (fun k hk => Below.heap_setCell _ _ _ _ (by have h1 := (own1.lt k hk).1; have h2 := Xa.out.lt; show k ≠ q; simp at h1; omega)))
  have G1 : Hid (∀ k, Value.ownBlock (.slice B1 n C1) = some k → Wa.heap.size ≤ k ∧ k < Wb.heap.size) := Lib.hid (fun k hk => P1b.out.lt k hk)
  have hqb : q < Wb.heap.size := Xb.out.lt
  clear kd1 kq1 kf1 KA1 KS1 KO1 KK1 hg1 gg1 kz1 zz1 own1 hHeld
  try rw [hWb]
  go_wp2_with fail
  try rw [hWb]
  clear hWb
  have kd2 : Wb.cell? ⟨p, 2, none⟩ = some (.slice A st.cache.length cc) := by rw [Ab.out.cell (p := ⟨p, 2, none⟩) hpl]; exact k2
  have kq2 : Wb.cell? ⟨q, 2, none⟩ = some (.slice none 0 0) := Xb.out.cell 2
  have kf2 : Wb.frozen? ⟨q, 2, none⟩ = false := Xb.out.frozen 2
  have KA2 : ∀ w', World.grownBy (World.drew Wb) w' none → w'.cell? ⟨p, 2, none⟩ = some (.slice A st.cache.length cc) := fun w' hg => cell_far2 (w := World.drew Wb) kd2 hg (by simp)
  have KQ2 : ∀ w', World.grownBy (World.drew Wb) w' none → w'.cell? ⟨q, 2, none⟩ = some (.slice none 0 0) ∧ w'.frozen? ⟨q, 2, none⟩ = false := fun w' hg => ⟨cell_far2 (w := World.drew Wb) kq2 hg (by simp), frozen_far2 (w := World.drew Wb) kq2 kf2 hg (by simp)⟩
  have KS2 : ∀ (w' : World) (v : Value), w'.cell? ⟨p, 2, none⟩ = some (.slice A st.cache.length cc) → (w'.setCell ⟨q, 2, none⟩ v).cell? ⟨p, 2, none⟩ = some (.slice A st.cache.length cc) := fun w' v h => cell_setCell_ne h hpq
  have KO2 := And.intro (World.ownsRow.drew (ownsRow_keep (w' := Wb) HB.out.co (fun k hk => Ab.out.block k (HB.out.co.lt k hk).2))) (rows_one (f := waitCells) (fun x u hu => waitCells_one u hu) st.cache)
  have KK2 := Lib.hid KQ2
  clear KQ2
  refine wp_region_held_drew (S := (fun w' => w'.cell? ⟨p, 2, none⟩ = some (.slice A st.cache.length cc))) (by kernel_rfl) (by first | exact kd2 | exact KA2 _ hg2 | exact KS2 _ _ (KA2 _ hg2)) (fun hHeld => ?_)
  refine wpAnyH_take (i := 0) (v := ?_) rfl (by kernel_rfl) (by kernel_rfl) (by kernel_rfl) (fun _ _ _ h => h) (Or.inl ⟨by rfl, ?_⟩) (by assumption) ?_
  rotate_left
  · (intro wq hSw; (try dsimp only at hSw); (try simp only [List.getElem_toArray, List.getElem_cons_succ, List.getElem_cons_zero]); go_simp); try with_reducible rfl
  try simp only [List.getElem_toArray, List.getElem_cons_succ, List.getElem_cons_zero, Act.put, List.setIfInBounds_toArray, List.set_cons_zero, List.set_cons_succ]
  refine wpAnyH_take (i := 1) (v := ?_) rfl (by kernel_rfl) (by kernel_rfl) (by kernel_rfl) (fun _ _ _ h => h) (Or.inl ⟨by rfl, ?_⟩) (by assumption) ?_
  rotate_left
  · (intro wq hSw; (try dsimp only at hSw); (try simp only [List.getElem_toArray, List.getElem_cons_succ, List.getElem_cons_zero]); go_simp); try with_reducible rfl
  try simp only [List.getElem_toArray, List.getElem_cons_succ, List.getElem_cons_zero, Act.put, List.setIfInBounds_toArray, List.set_cons_zero, List.set_cons_succ]
  refine wpAnyH_take (i := 2) (v := ?_) rfl (by kernel_rfl) (by kernel_rfl) (by kernel_rfl) (fun _ _ _ h => h) (Or.inl ⟨by rfl, ?_⟩) (by assumption) ?_
  rotate_left
  · (intro wq hSw; (try dsimp only at hSw); (try simp only [List.getElem_toArray, List.getElem_cons_succ, List.getElem_cons_zero]); go_simp); try with_reducible rfl
  try simp only [List.getElem_toArray, List.getElem_cons_succ, List.getElem_cons_zero, Act.put, List.setIfInBounds_toArray, List.set_cons_zero, List.set_cons_succ]
  refine wpAnyH_take (i := 3) (v := ?_) rfl (by kernel_rfl) (by kernel_rfl) (by kernel_rfl) (fun _ _ _ h => h) (Or.inl ⟨by rfl, ?_⟩) (by assumption) ?_
  rotate_left
  · (intro wq hSw; (try dsimp only at hSw); (try simp only [List.getElem_toArray, List.getElem_cons_succ, List.getElem_cons_zero]); go_simp); try with_reducible rfl
  try simp only [List.getElem_toArray, List.getElem_cons_succ, List.getElem_cons_zero, Act.put, List.setIfInBounds_toArray, List.set_cons_zero, List.set_cons_succ]
  refine wpAnyH_take (i := 5) (v := ?_) rfl (by kernel_rfl) (by kernel_rfl) (by kernel_rfl) (fun _ _ _ h => h) (Or.inl ⟨by rfl, ?_⟩) (by assumption) ?_
  rotate_left
  · (intro wq hSw; (try dsimp only at hSw); (try simp only [List.getElem_toArray, List.getElem_cons_succ, List.getElem_cons_zero]); go_simp); try with_reducible rfl
  try simp only [List.getElem_toArray, List.getElem_cons_succ, List.getElem_cons_zero, Act.put, List.setIfInBounds_toArray, List.set_cons_zero, List.set_cons_succ]
  refine wpAnyH_take (i := 6) (v := ?_) rfl (by kernel_rfl) (by kernel_rfl) (by kernel_rfl) (fun _ _ _ h => h) (Or.inl ⟨by rfl, ?_⟩) (by assumption) ?_
  rotate_left
  · (intro wq hSw; (try dsimp only at hSw); (try simp only [List.getElem_toArray, List.getElem_cons_succ, List.getElem_cons_zero]); go_simp); try with_reducible rfl
  try simp only [List.getElem_toArray, List.getElem_cons_succ, List.getElem_cons_zero, Act.put, List.setIfInBounds_toArray, List.set_cons_zero, List.set_cons_succ]
  refine wpAnyH_take (i := 7) (v := ?_) rfl (by kernel_rfl) (by kernel_rfl) (by kernel_rfl) (fun _ _ _ h => h) (Or.inl ⟨by rfl, ?_⟩) (by assumption) ?_
  rotate_left
  · (intro wq hSw; (try dsimp only at hSw); (try simp only [List.getElem_toArray, List.getElem_cons_succ, List.getElem_cons_zero]); go_simp); try with_reducible rfl
  try simp only [List.getElem_toArray, List.getElem_cons_succ, List.getElem_cons_zero, Act.put, List.setIfInBounds_toArray, List.set_cons_zero, List.set_cons_succ]
  refine wpAnyH_take (i := 8) (v := ?_) rfl (by kernel_rfl) (by kernel_rfl) (by kernel_rfl) (fun _ _ _ h => h) (Or.inl ⟨by rfl, ?_⟩) (by assumption) ?_
  rotate_left
  · (intro wq hSw; (try dsimp only at hSw); (try simp only [List.getElem_toArray, List.getElem_cons_succ, List.getElem_cons_zero]); go_simp); try with_reducible rfl
  try simp only [List.getElem_toArray, List.getElem_cons_succ, List.getElem_cons_zero, Act.put, List.setIfInBounds_toArray, List.set_cons_zero, List.set_cons_succ]
  refine wpAnyH_ready (rs := [4]) (by kernel_rfl) (by simp) ?_
  refine AllReadyH.cons rfl (fun K hK => ?_) AllReadyH.nil
  try simp only [List.getElem_toArray, List.getElem_cons_succ, List.getElem_cons_zero]
  go_simp
  refine hK.out _ _ (by first | exact kd2 | exact KA2 _ hg2 | exact KS2 _ _ (KA2 _ hg2)) (fun hHeld => ?_)
  clear hK K
  try simp only [List.getElem_toArray, List.getElem_cons_succ, List.getElem_cons_zero, Act.put, List.setIfInBounds_toArray, List.set_cons_zero, List.set_cons_succ]
  refine wpAnyH_ready (rs := [9]) (by kernel_rfl) (by simp) ?_
  refine AllReadyH.cons rfl (fun K hK => ?_) AllReadyH.nil
  refine step_clone (by rfl) _ _ 88 (by rfl) slWait KO2 (by rfl) (by rfl) (by omega) (by unfold maxLen; omega) ?_
  intro v2 w42 own2 hg2
  obtain ⟨B2, C2, rfl⟩ := own_form own2
  obtain ⟨kz2, zz2⟩ := KK2.out w42 hg2
  have gg2 := undrew hg2
  refine hK.out _ _ (by first | exact kd2 | exact KA2 _ hg2 | exact KS2 _ _ (KA2 _ hg2)) (fun hHeld => ?_)
  clear hK K
  try simp only [List.getElem_toArray, List.getElem_cons_succ, List.getElem_cons_zero, Act.put, List.setIfInBounds_toArray, List.set_cons_zero, List.set_cons_succ]
  refine wpAnyH_take (i := 10) (v := ?_) rfl (by kernel_rfl) (by kernel_rfl) (by kernel_rfl) (fun _ _ _ h => h) (Or.inl ⟨by rfl, ?_⟩) (by assumption) ?_
  rotate_left
  · (intro wq hSw; (try dsimp only at hSw); (try simp only [List.getElem_toArray, List.getElem_cons_succ, List.getElem_cons_zero]); go_simp); try with_reducible rfl
  try simp only [List.getElem_toArray, List.getElem_cons_succ, List.getElem_cons_zero, Act.put, List.setIfInBounds_toArray, List.set_cons_zero, List.set_cons_succ]
  refine wpAnyH_take (i := 11) (v := ?_) rfl (by kernel_rfl) (by kernel_rfl) (by kernel_rfl) (fun _ _ _ h => h) (Or.inl ⟨by rfl, ?_⟩) (by assumption) ?_
  rotate_left
  · (intro wq hSw; (try dsimp only at hSw); (try simp only [List.getElem_toArray, List.getElem_cons_succ, List.getElem_cons_zero]); go_simp); try with_reducible rfl
  try simp only [List.getElem_toArray, List.getElem_cons_succ, List.getElem_cons_zero, Act.put, List.setIfInBounds_toArray, List.set_cons_zero, List.set_cons_succ]
  refine wpAnyH_ready (rs := [12]) (by kernel_rfl) (by simp) ?_
  refine AllReadyH.cons rfl (fun K hK => ?_) AllReadyH.nil
  try simp only [List.getElem_toArray, List.getElem_cons_succ, List.getElem_cons_zero]
  go_simp
  refine hK.out _ _ (by first | exact kd2 | exact KA2 _ hg2 | exact KS2 _ _ (KA2 _ hg2)) (fun hHeld => ?_)
  clear hK K
  try simp only [List.getElem_toArray, List.getElem_cons_succ, List.getElem_cons_zero, Act.put, List.setIfInBounds_toArray, List.set_cons_zero, List.set_cons_succ]
  refine wpAnyH_done (by kernel_rfl) ?_ _
  obtain ⟨Wc, hWc⟩ : ∃ x, w42.setCell ⟨q, 2, none⟩ (.slice B2 st.cache.length C2) = x := ⟨_, rfl⟩
  have Ac : Hid (Below w1.heap.size w1 Wc) := Lib.hid (by rw [← hWc]; exact (Ab.out.trans ((grown_below gg2).mono Ab.out.size)).setCell hqs _)
  have Xc : Hid (BoxAt Wc q #[.slice B0 n C0, .slice B1 n C1, .slice B2 st.cache.length C2, .map (some mq), .bool st.dead]) := Lib.hid (by rw [← hWc]; exact (Xb.out.keep (gg2.block q Xb.out.lt (by simp))).set 2 (.slice B2 st.cache.length C2))
  have Mc : Hid (MapAt (Value.int .i64) Wc mq ([] : List (Int × Value))) := Lib.hid (by rw [← hWc]; exact (Mb.out.keep (gg2.block mq Mb.out.lt (by simp))).keep (Below.heap_setCell _ _ _ _ hmqq))
  have P0c := Lib.hid (ownsRow_keep (w' := Wc) P0b.out (fun k hk => by rw [← hWc]; exact (Below.heap_setCell _ _ _ _ (by have := (P0b.out.lt k hk).1; have := hq0; have := hqa; show k ≠ q; omega)).trans (gg2.block k (P0b.out.lt k hk).2 (by simp))))
  have P1c := Lib.hid (ownsRow_keep (w' := Wc) P1b.out (fun k hk => by rw [← hWc]; exact (Below.heap_setCell _ _ _ _ (by have := (P1b.out.lt k hk).1; have := hq0; have := hqa; show k ≠ q; omega)).trans (gg2.block k (P1b.out.lt k hk).2 (by simp))))
  have P2c : Hid (Wc.ownsRow Wb.heap.size _ _ (.slice B2 st.cache.length C2) _ _) := Lib.hid (by rw [← hWc]; exact ownsRow_keep own2 (fun k hk => Below.heap_setCell _ _ _ _ (by have h1 := (own2.lt k hk).1; have h2 := Xb.out.lt; show k ≠ q; simp at h1; omega)))
  have G2 : Hid (∀ k, Value.ownBlock (.slice B2 st.cache.length C2) = some k → Wb.heap.size ≤ k ∧ k < Wc.heap.size) := Lib.hid (fun k hk => P2c.out.lt k hk)
  have hqc : q < Wc.heap.size := Xc.out.lt
  clear kd2 kq2 kf2 KA2 KS2 KO2 KK2 hg2 gg2 kz2 zz2 own2 hHeld
  try rw [hWc]
  clear hWc

  obtain ⟨es, hm1, hm2⟩ := HB.out.ma
  have kc3 : Wc.cell? ⟨p, 3, none⟩ = some (.map (some mb)) := by rw [Ac.out.cell (p := ⟨p, 3, none⟩) hpl]; exact k3
  have hbl := HB.out.blocks
  have hmc : Hid (MapAt (Value.int .i64) Wc mb es) := Lib.hid (hm1.keep (Ac.out.block mb hbl.2.2.2.1))
  have hmbq : mb ≠ mq := by have := hbl.2.2.2.1; omega
  have hmnd := hm1.1
  have HL := Lib.hid (fun k v (h : (k, v) ∈ es) => look_of_mem hmnd h)
  have HND := Lib.hid hmnd
  have HM2 := Lib.hid hm2
  clear hm1 hm2 hmnd hbl k0 k1 k2 k3 k4
  go_wp2_with (refine wpList_range mapTy rfl rfl (by exact rfl) hmc.out ?_; intro y hit hys)
  have hit := Lib.hid hit
  have hK0 : Hid (Keep (fun k => k = mq) Wc y.to) := Lib.hid (Keep.of_below y.ok)
  have hM0 : Hid (MapAt (Value.int .i64) y.to mq ([] : List (Int × Value))) := Lib.hid (Mc.out.below y.ok)
  have hmb1 : mb < Wc.heap.size := by have := hmc.out.lt; omega
  have hmq1 : mq < Wc.heap.size := by have := Mc.out.lt; omega
  go_frame
  go_loopg [4, 5] es.length (fun g x4 x5 wr => ∃ (left es2 : List (Int × Value)), left.length = g ∧ Hid (IterAt (Value.int .i64) wr Wc.heap.size mb left) ∧ Hid (MapAt (Value.int .i64) wr mq es2) ∧ Hid (Keep (fun k => k = mq) Wc wr) ∧ Wc.heap.size < wr.heap.size ∧ Hid ((left.map (·.1)).Nodup ∧ (∀ k v, (k, v) ∈ left → mlook es k = some v) ∧ ∀ k, mlook es2 k = if k ∈ left.map (·.1) then none else mlook es k))
  case atStart => exact ⟨es, [], rfl, hit, hM0, hK0, hys, Lib.hid ⟨HND.out, HL.out, fun k => by
    by_cases h : k ∈ es.map (·.1)
    · simp [h, mlook]
    · rw [if_neg h]
      symm
      exact look_none.2 (fun p hp e => h (List.mem_map.2 ⟨p, hp, e⟩))⟩⟩
  case round =>
    clear hit hM0 hK0 hys
    obtain ⟨left, es2, rfl, hit, hM, hK, hys, hrelm⟩ := hrel
    go_wp2_with (refine wpList_next rfl rfl rfl hit.out ?hDone ?hMore)
    case hMore =>
      intro k v left' u hperm hit2 hus hent
      have hlen : left'.length < left.length := by have := hperm.length_eq; simp at this; omega
      have hub : Keep (fun k => k = mq) Wc u.to := hK.out.trans (Keep.of_grown u.ok) (fun k hk hlt => by injection hk with hk; omega)
      have hMu : MapAt (Value.int .i64) u.to mq es2 := hM.out.grw u.ok (by intro e; injection e with e; omega)
      have HP := Lib.hid hperm
      obtain ⟨w5, r5, m5, g5, s5⟩ := run_mapUpdate (P := Try.prog) ktInt mapTy hMu k v
      have kq3 : u.to.cell? ⟨q, 3, none⟩ = some (.map (some mq)) := (World.cell?_of_block (hub.block q hqc (by show ¬ q = mq; omega))).trans (Xc.out.cell 3)
      have hK5 : Hid (Keep (fun k => k = mq) Wc w5) := Lib.hid (hub.trans (Keep.of_grown g5) (fun k hk _ => by injection hk))
      have hit5 : Hid (IterAt (Value.int .i64) w5 Wc.heap.size mb left') := Lib.hid (hit2.keep (g5.block mb hit2.lt.2 (by simpa using hmbq)) (g5.block _ hit2.lt.1 (by intro e; injection e with e; omega)))
      have M5 := Lib.hid m5
      have S5 : Wc.heap.size < w5.heap.size := by rw [s5, hus]; exact hys
      have hit2 := Lib.hid hit2
      clear hperm hub hMu m5 g5 s5 hus hK hM
      go_wp2_with fail
      go_roundg left'.length
      case measure => exact hlen
      case rel =>
        obtain ⟨n1, n2, n3⟩ := hrelm.out
        have hpk := HP.out.map (·.1)
        have hnd2 := hpk.nodup_iff.1 n1
        simp only [List.map_cons, List.nodup_cons] at hnd2
        refine ⟨left', _, rfl, hit5, M5, hK5, S5, Lib.hid ⟨hnd2.2, fun k2 v2 h2 => n2 k2 v2 (HP.out.mem_iff.2 (List.mem_cons_of_mem _ h2)), fun j => ?_⟩⟩
        rw [look_put, n3]
        by_cases e : k = j
        · subst e
          rw [if_pos rfl, if_neg hnd2.1, n2 k v (HP.out.mem_iff.2 (by simp))]
        · have hm : j ∈ left.map (·.1) ↔ j ∈ left'.map (·.1) := by
            rw [hpk.mem_iff]
            simp only [List.map_cons, List.mem_cons]
            exact ⟨fun h => h.resolve_left (fun h2 => e h2.symm), .inr⟩
          rw [if_neg e]
          by_cases hj : j ∈ left'.map (·.1)
          · rw [if_pos (hm.2 hj), if_pos hj]
          · rw [if_neg (fun h => hj (hm.1 h)), if_neg hj]
    case hDone =>
      intro hl0
      subst hl0
      go_wp2_with fail
      go_ret
      have hok := HB.out.ok
      have hn1 := HB.out.n1
      obtain ⟨g0, c0', e0, _, _⟩ := P0c.out.form (by omega)
      obtain ⟨rfl, rfl⟩ : B0 = some ⟨g0, 0, none⟩ ∧ C0 = c0' := by simpa using e0
      obtain ⟨g1, c1', e1, _, _⟩ := P1c.out.form (by omega)
      obtain ⟨rfl, rfl⟩ : B1 = some ⟨g1, 0, none⟩ ∧ C1 = c1' := by simpa using e1
      obtain ⟨a0, a0'⟩ := G0.out g0 rfl
      obtain ⟨a1, a1'⟩ := G1.out g1 rfl
      have hwc : Wc.heap.size ≤ wr.heap.size := hK.out.size
      have hs1 : w.heap.size ≤ q := by omega
      have hk : ∀ k, k < Wc.heap.size → k ≠ mq → wr.heap[k]? = Wc.heap[k]? := fun k h1 h2 => hK.out.block k h1 h2
      have l0 := (P0c.out.lt g0 rfl).2
      have l1 := (P1c.out.lt g1 rfl).2
      have hbW : Below w.heap.size w wr := (H1.out.trans (Ac.out.mono h1s)).trans (hK.out.below (B := w.heap.size) (by omega) (by rintro k rfl; omega))
      have hq2 : q ≠ mq := fun e => hmqq e.symm
      refine ⟨q, fun b => w.heap.size ≤ b ∧ b < wr.heap.size, rfl, ⟨g0, C0, g1, C1, B2, C2, mq, ⟨hok, hn1, h600, Xc.out.keep (hk q hqc hq2), ?_, ?_, ?_, ⟨es2, hM.out, fun k => ?_⟩, by omega, by omega, hq2, by omega, by omega, by omega, ?_, ?_, ?_, ?_⟩, ⟨hs1, by omega⟩, ⟨by omega, by omega⟩, ⟨by omega, by omega⟩, ⟨by omega, by omega⟩, fun k hk2 => ?_, fun k hk2 => hk2.2⟩, fun b hb => hb.1, hbW⟩
      · exact own_base (ownsRow_keep P0c.out (by rintro k ⟨⟩; exact hk g0 l0 (by omega))) (Nat.zero_le _)
      · exact own_base (ownsRow_keep P1c.out (by rintro k ⟨⟩; exact hk g1 l1 (by omega))) (Nat.zero_le _)
      · exact own_base (ownsRow_keep P2c.out (fun k hk2 => hk k (P2c.out.lt k hk2).2 (by have := (P2c.out.lt k hk2).1; omega))) (Nat.zero_le _)
      · obtain ⟨_, _, n3⟩ := hrelm.out
        rw [n3 k, if_neg (by simp)]
        exact HM2.out k
      · intro e; have := (G2.out _ e).1; omega
      · intro e; have := (G2.out _ e).1; omega
      · intro e; have := (G2.out _ e).1; omega
      · intro e; have := (G2.out _ e).1; omega
      · obtain ⟨b1, b2⟩ := G2.out k hk2
        exact ⟨by omega, by omega⟩
end Go.Proofs.Ytolmpopjonkfgaa

set_option linter.unusedSimpArgs false
set_option linter.unusedVariables false
namespace Go.Proofs.Ytolmpopjonkfgaa
open Go.RowKit Go.Cib
attribute [local go_sem] cell_set Later.cell Later.frozen Grw.cell Grw.frozen

/-- A builtin's law at a list of operations, as a step of a region that draws its order. -/
theorem step_of_list {P : Program} {ops : Array Oper} {o : Oper} {a : Act} {w : World} {K : Act → World → Prop} {Q : Exit → Act → World → Prop} {X : Prop} (hgd : o.guard = none)
    (h : wpList P ops (fun e a w => e = .normal ∧ K a w) [o] a w) : if Region.wanted o (yielded ops a.tmps) = true then Oper.wp P o a w K Q else X := by
  have hw : Region.wanted o (yielded ops a.tmps) = true := by simp [Region.wanted, hgd]
  rw [if_pos hw]
  unfold wpList at h
  rw [if_pos hw] at h
  rcases h with h | ⟨_, a', w', h, _⟩
  · unfold Oper.wp at h ⊢
    generalize (execOp a.eval o).run P w = r at *
    cases r with
    | ok n w' =>
      cases n <;> simp only [Oper.upon, wpList] at h ⊢
      case value v => exact h.2
      case skip => exact h.2
      case defer d => exact h.2
      case enter f args =>
        refine Calls.mono h fun e w'' he => ?_
        cases e with
        | returned u => exact he.2
        | panicked c => cases he.1
        | outgrown => obtain ⟨_, _, he, _⟩ := he; cases he
      case row row args => exact Rows.mono h fun u w'' he => he.2
    | halt x w' =>
      cases x <;> simp only [Oper.upon] at h ⊢
      case panic v => cases h.1
  · cases h

structure Ev where
  at_ : Int
  b : List Int
  off : Int
  mask : Int
/-- An event. -/
def EvR (S : Nat → Prop) (w : World) (cs : List Value) (e : Ev) : Prop := ∃ A m c, cs = [.int .i64 e.at_, .slice A m c, .int .i64 e.off, .int .u32 e.mask] ∧ RdL U8R 1 S w A m e.b
theorem EvR.stable : Stable EvR := by
  rintro S S' w w' cs e ⟨A, m, c, rfl, h⟩ hk
  exact ⟨A, m, c, rfl, h.stable U8R.stable hk⟩
theorem EvR.one : ∀ S w cs x, EvR S w cs x → ∀ u ∈ cs, u.oneCell' = true := by
  rintro S w cs x ⟨A, m, c, rfl, _⟩ u hu
  simp at hu
  rcases hu with rfl | rfl | rfl | rfl <;> rfl
theorem slEv : SlTy Try.prog 55 124 (.agg #[.int .i64 0, .slice none 0 0, .int .i64 0, .int .u32 0]) 4 48 := ⟨Try.underlying55, by kernel_rfl, rfl, by omega⟩

structure RSt where
  L : List Ev
  wait : List Ev
  gone : Bool

/-- The document's drive of n sectors, at x; its blocks are G. -/
structure RefB (Sb : Nat → Prop) (w : World) (x n : Nat) (vL vW : Value) (rs : RSt) : Prop where
  box : BoxAt w x #[.int .i64 n, vL, vW, .bool rs.gone]
  oL : OwnL EvR 124 4 0 Sb w vL rs.L.length rs.L
  oW : OwnL EvR 124 4 0 Sb w vW rs.wait.length rs.wait
  sx : ∀ b, Sb b → b ≠ x ∧ some b ≠ vL.ownBlock ∧ some b ≠ vW.ownBlock
  lx : vL.ownBlock ≠ some x
  wx : vW.ownBlock ≠ some x
  lw : vL.ownBlock = none ∨ vL.ownBlock ≠ vW.ownBlock
def RefAt (G : Nat → Prop) (w : World) (x n : Nat) (rs : RSt) : Prop := ∃ Sb vL vW, RefB Sb w x n vL vW rs ∧ G x ∧ (∀ b, Sb b → G b) ∧ (∀ k, vL.ownBlock = some k → G k) ∧ (∀ k, vW.ownBlock = some k → G k) ∧ ∀ k, G k → k < w.heap.size

theorem ownL_blocks {X : Type} {R : (Nat → Prop) → World → List Value → X → Prop} {E : TypeId} {s base : Nat} {S : Nat → Prop} {w w' : World} {v : Value} {n : Nat} {xs : List X} (hR : Stable R) (h : OwnL R E s base S w v n xs)
    (hv : ∀ k, v.ownBlock = some k → w'.heap[k]? = w.heap[k]?) (hS : ∀ b, S b → w'.heap[b]? = w.heap[b]?) : OwnL R E s base S w' v n xs := by
  obtain ⟨css, h1, h2, h3, h4, h5⟩ := h
  exact ⟨css, ownsRow_keep h1 hv, h2, h3, h4, fun i cs x hc hx => hR _ _ _ _ _ _ (h5 i cs x hc hx) fun b hb _ => ⟨hb, hS b hb.1⟩⟩
theorem RefAt.keep {F G : Nat → Prop} {w w' : World} {x n : Nat} {rs : RSt} (h : RefAt G w x n rs) (hk : Keep F w w') (hd : ∀ k, G k → ¬ F k) : RefAt G w' x n rs := by
  obtain ⟨Sb, vL, vW, hb, g1, g2, g3, g4, lt⟩ := h
  have hh : ∀ k, G k → w'.heap[k]? = w.heap[k]? := fun k hf => hk.block k (lt k hf) (hd k hf)
  exact ⟨Sb, vL, vW, ⟨hb.box.keep (hh x g1), ownL_blocks EvR.stable hb.oL (fun k hk => hh k (g3 k hk)) (fun b hs => hh b (g2 b hs)), ownL_blocks EvR.stable hb.oW (fun k hk => hh k (g4 k hk)) (fun b hs => hh b (g2 b hs)), hb.sx, hb.lx, hb.wx, hb.lw⟩, g1, g2, g3, g4, fun k hf => Nat.lt_of_lt_of_le (lt k hf) hk.size⟩
theorem RefAt.below {G : Nat → Prop} {w w' : World} {x n : Nat} {rs : RSt} (h : RefAt G w x n rs) (hk : Below w.heap.size w w') : RefAt G w' x n rs := h.keep (Keep.of_below (F := fun _ => False) hk) (fun _ _ h => h)
theorem RefAt.lt {G : Nat → Prop} {w : World} {x n : Nat} {rs : RSt} (h : RefAt G w x n rs) {k : Nat} (hk : G k) : k < w.heap.size := by
  obtain ⟨Sb, vL, vW, hb, _, _, _, _, lt⟩ := h; exact lt k hk
/-- A call changed the document's drive. -/
def RUpd (G : Nat → Prop) (w w' : World) (x n : Nat) (rs' : RSt) : Prop := ∃ G', RefAt G' w' x n rs' ∧ (∀ k, G' k → k < w.heap.size → G k) ∧ Keep G w w'

def RSt.new : RSt := ⟨[], [], false⟩
set_option maxRecDepth 100000 in
theorem rnew_good (n : Nat) (h1 : 1 ≤ n) (h2 : n ≤ 600) (w : World) :
    Calls Try.prog 24 #[.int .i64 n] w fun e w' => ∃ x G, e = .returned (.pointer (some ⟨x, 0, none⟩)) ∧ RefAt G w' x n RSt.new ∧ (∀ b, G b → w.heap.size ≤ b) ∧ Below w.heap.size w w' := by
  go_enter Try.func24, Try.ntmps24
  go_wp2_with fail
  go_ret
  have hb := BoxAt.new w #[.int .i64 n, .slice none 0 0, .slice none 0 0, .bool false] 57
  refine ⟨w.heap.size, fun b => b = w.heap.size, rfl, ⟨fun _ => False, .slice none 0 0, .slice none 0 0, ⟨hb, OwnL.nil_, OwnL.nil_, fun _ h => h.elim, by simp [Value.ownBlock], by simp [Value.ownBlock], .inl rfl⟩, rfl, fun _ h => h.elim, by simp [Value.ownBlock], by simp [Value.ownBlock], ?_⟩, ?_, (Below.refl _ _).alloc (Nat.le_refl _) _⟩
  · rintro k rfl; exact hb.lt
  · rintro k rfl; exact Nat.le_refl _

theorem ref_cells {Sb : Nat → Prop} {w : World} {x n : Nat} {vL vW : Value} {rs : RSt} (h : RefB Sb w x n vL vW rs) : w.cell? ⟨x, 0, none⟩ = some (.int .i64 n) ∧ w.cell? ⟨x, 1, none⟩ = some vL ∧ w.cell? ⟨x, 2, none⟩ = some vW ∧ w.cell? ⟨x, 3, none⟩ = some (.bool rs.gone) :=
  ⟨h.box.cell 0, h.box.cell 1, h.box.cell 2, h.box.cell 3⟩
/-- All events let go, the mark set anew. -/
theorem RefAt.blank {G : Nat → Prop} {w : World} {x n : Nat} {rs : RSt} (h : RefAt G w x n rs) (d : Bool) : RUpd G w (((w.setCell ⟨x, 3, none⟩ (.bool d)).setCell ⟨x, 1, none⟩ (.slice none 0 0)).setCell ⟨x, 2, none⟩ (.slice none 0 0)) x n ⟨[], [], d⟩ := by
  obtain ⟨Sb, vL, vW, hb, g1, g2, g3, g4, lt⟩ := h
  have hx := ((hb.box.set 3 (.bool d)).set 1 (.slice none 0 0)).set 2 (.slice none 0 0)
  have hK : Keep G w (((w.setCell ⟨x, 3, none⟩ (.bool d)).setCell ⟨x, 1, none⟩ (.slice none 0 0)).setCell ⟨x, 2, none⟩ (.slice none 0 0)) := (((Keep.refl G w).setCell (p := ⟨x, 3, none⟩) (fun _ => g1) _).setCell (p := ⟨x, 1, none⟩) (fun _ => g1) _).setCell (p := ⟨x, 2, none⟩) (fun _ => g1) _
  refine ⟨fun b => b = x, ⟨fun _ => False, .slice none 0 0, .slice none 0 0, ⟨hx, OwnL.nil_, OwnL.nil_, fun _ h => h.elim, by simp [Value.ownBlock], by simp [Value.ownBlock], .inl rfl⟩, rfl, fun _ h => h.elim, by simp [Value.ownBlock], by simp [Value.ownBlock], ?_⟩, ?_, hK⟩
  · rintro k rfl; exact hx.lt
  · rintro k rfl _; exact g1

set_option maxRecDepth 100000 in
theorem rfail_any {G : Nat → Prop} {w : World} {x n : Nat} {rs : RSt} (h : Hid (RefAt G w x n rs)) :
    Calls Try.prog 65 #[.pointer (some ⟨x, 0, none⟩)] w fun e w' => e = .returned (.tuple #[]) ∧ RUpd G w w' x n ⟨[], [], true⟩ := by
  obtain ⟨Sb, vL, vW, hb, _⟩ := h.out
  obtain ⟨k0, k1, k2, k3⟩ := ref_cells hb
  have z1 := hb.box.frozen 1; have z2 := hb.box.frozen 2; have z3 := hb.box.frozen 3
  clear hb
  go_enter Try.func65, Try.ntmps65
  go_wp2_with fail
  go_end0
  exact ⟨rfl, h.out.blank true⟩
set_option maxRecDepth 100000 in
theorem rreplace_any {G : Nat → Prop} {w : World} {x n : Nat} {rs : RSt} (h : Hid (RefAt G w x n rs)) :
    Calls Try.prog 66 #[.pointer (some ⟨x, 0, none⟩)] w fun e w' => e = .returned (.tuple #[]) ∧ RUpd G w w' x n ⟨[], [], false⟩ := by
  obtain ⟨Sb, vL, vW, hb, _⟩ := h.out
  obtain ⟨k0, k1, k2, k3⟩ := ref_cells hb
  have z1 := hb.box.frozen 1; have z2 := hb.box.frozen 2; have z3 := hb.box.frozen 3
  clear hb
  go_enter Try.func66, Try.ntmps66
  go_wp2_with fail
  go_end0
  exact ⟨rfl, h.out.blank false⟩

set_option maxRecDepth 100000 in
theorem rhas_any {G : Nat → Prop} {w : World} {x n : Nat} {rs : RSt} (h : Hid (RefAt G w x n rs)) (z : Int) :
    Calls Try.prog 89 #[.pointer (some ⟨x, 0, none⟩), .int .i64 z] w fun e w' => e = .returned (.bool (decide (0 ≤ z ∧ z < n))) ∧ Below w.heap.size w w' := by
  obtain ⟨Sb, vL, vW, hb, _⟩ := h.out
  obtain ⟨k0, k1, k2, k3⟩ := ref_cells hb
  clear hb
  by_cases h0 : 0 ≤ z
  · go_enter Try.func89, Try.ntmps89
    go_wp2_with fail
    go_ret
    exact ⟨ret_bool2 (by simp [h0] <;> omega), Below.refl _ _⟩
  · go_enter Try.func89, Try.ntmps89
    go_wp2_with fail
    go_ret
    exact ⟨ret_bool2 (by simp [h0] <;> omega), Below.refl _ _⟩
end Go.Proofs.Ytolmpopjonkfgaa

set_option linter.unusedSimpArgs false
set_option linter.unusedVariables false
namespace Go.Proofs.Ytolmpopjonkfgaa
open Go.RowKit Go.Cib
attribute [local go_sem] cell_set Later.cell Later.frozen Grw.cell Grw.frozen
attribute [local go_sem ↓] shut_build shut_slice

theorem slU8 : SlTy Try.prog 27 5 (.int .u8 0) 1 1 := ⟨Try.underlying27, by kernel_rfl, rfl, by omega⟩

theorem ownL_wide {X : Type} {R : (Nat → Prop) → World → List Value → X → Prop} {E : TypeId} {s base : Nat} {S T : Nat → Prop} {w : World} {v : Value} {n : Nat} {xs : List X} (hR : Stable R) (h : OwnL R E s base S w v n xs) (hS : ∀ b, S b → T b) : OwnL R E s base T w v n xs := by
  obtain ⟨css, h1, h2, h3, h4, h5⟩ := h
  exact ⟨css, h1, h2, h3, h4, fun i cs x hc hx => hR _ _ _ _ _ _ (h5 i cs x hc hx) fun b hb _ => ⟨⟨hS b hb.1, hb.2⟩, rfl⟩⟩
theorem rwrite_post {G Sb : Nat → Prop} {w w1 w8 u : World} {x n : Nat} {vL vW vN : Value} {rs : RSt} {e : Ev} (hB : RefB Sb w1 x n vL vW rs) (g1 : G x) (g2 : ∀ b, Sb b → G b) (g3 : ∀ k, vL.ownBlock = some k → G k) (g4 : ∀ k, vW.ownBlock = some k → G k) (lt : ∀ k, G k → k < w1.heap.size)
    (h1 : Below w.heap.size w w1) (h8 : Below w1.heap.size w1 w8) (hu : w8.grownBy u vW.ownBlock) (hs : w8.heap.size < u.heap.size)
    (own : OwnL EvR 124 4 0 (fun b => Sb b ∨ (w1.heap.size ≤ b ∧ b < w8.heap.size)) u vN (rs.wait.length + 1) (rs.wait ++ [e])) (hat : vN.ownBlock = vW.ownBlock ∨ vN.ownBlock = some (w8.heap.size + 1)) :
    RUpd G w (u.setCell ⟨x, 2, none⟩ vN) x n { rs with wait := rs.wait ++ [e] } := by
  have s8 := h8.size
  have hk : ∀ k, k < w1.heap.size → some k ≠ vW.ownBlock → u.heap[k]? = w1.heap[k]? := fun k hk hn => (hu.block k (by omega) hn).trans (h8.block k hk)
  have hset : ∀ k, k ≠ x → (u.setCell ⟨x, 2, none⟩ vN).heap[k]? = u.heap[k]? := fun k hk => Below.heap_setCell _ _ _ _ hk
  have hx : x < w1.heap.size := lt x g1
  have hN : ∀ k, vN.ownBlock = some k → (vW.ownBlock = some k) ∨ k = w8.heap.size + 1 := fun k hk => by
    rcases hat with h | h
    · exact .inl (h ▸ hk)
    · rw [h] at hk; injection hk with hk; exact .inr hk.symm
  have hNx : vN.ownBlock ≠ some x := fun e => by
    rcases hN x e with h | h
    · exact hB.wx h
    · omega
  have hlen : (rs.wait ++ [e]).length = rs.wait.length + 1 := by simp
  refine ⟨fun b => G b ∨ (w1.heap.size ≤ b ∧ b < u.heap.size), ⟨fun b => Sb b ∨ (w1.heap.size ≤ b ∧ b < w8.heap.size), vL, vN, ⟨?_, ?_, ?_, ?_, hB.lx, hNx, ?_⟩, .inl g1, ?_, fun k hk => .inl (g3 k hk), ?_, ?_⟩, ?_, ?_⟩
  · exact (hB.box.keep (hk x hx (fun e => hB.wx e.symm))).set 2 vN
  · refine ownL_wide EvR.stable (ownL_blocks EvR.stable hB.oL (fun k hk2 => ?_) (fun b hs2 => ?_)) (fun b hb => .inl hb)
    · refine (hset k (fun e => hB.lx (e ▸ hk2))).trans (hk k (lt k (g3 k hk2)) (fun e => ?_))
      rcases hB.lw with h | h
      · rw [h] at hk2; cases hk2
      · exact h (hk2.trans e)
    · exact (hset b (hB.sx b hs2).1).trans (hk b (lt b (g2 b hs2)) (hB.sx b hs2).2.2)
  · show OwnL EvR _ 4 0 _ _ vN (rs.wait ++ [e]).length (rs.wait ++ [e])
    rw [hlen]
    refine ownL_blocks EvR.stable own (fun k hk2 => hset k (fun e => hNx (e ▸ hk2))) (fun b hs2 => hset b ?_)
    rcases hs2 with h | h
    · exact (hB.sx b h).1
    · omega
  · rintro b (h | h)
    · refine ⟨(hB.sx b h).1, (hB.sx b h).2.1, fun e => ?_⟩
      have := lt b (g2 b h)
      rcases hN b e.symm with h2 | h2
      · exact (hB.sx b h).2.2 h2.symm
      · omega
    · refine ⟨by omega, fun e => ?_, fun e => ?_⟩
      · have := lt b (g3 b e.symm); omega
      · rcases hN b e.symm with h2 | h2
        · have := lt b (g4 b h2); omega
        · omega
  · rcases hB.lw with h | h
    · exact .inl h
    · right
      intro e
      cases hv : vL.ownBlock with
      | none => rw [hv] at e; rcases hat with h2 | h2 <;> rw [← e] at h2
                · exact h (hv.trans h2)
                · cases h2
      | some k =>
        have hk3 := hN k (e ▸ hv)
        have := lt k (g3 k hv)
        rcases hk3 with h2 | h2
        · exact h (hv.trans h2.symm)
        · omega
  · rintro b (h | h)
    · exact .inl (g2 b h)
    · exact .inr ⟨h.1, by omega⟩
  · intro k hk2
    rcases hN k hk2 with h2 | h2
    · exact .inl (g4 k h2)
    · right
      have := (own.lt k hk2).2
      exact ⟨by omega, this⟩
  · rintro k (h | h)
    · have := lt k h; simp; omega
    · simpa using h.2
  · rintro k (h | h) hlk
    · exact h
    · have := h1.size; omega
  · refine (Keep.of_below (F := G) h1).trans (G := G) ?_ (fun k h _ => h)
    exact ⟨hu.os.trans h8.os, hu.tape.trans h8.tape, hu.output.trans h8.output, by simp; omega, fun k hk2 hg => (hset k (fun e => hg (e ▸ g1))).trans (hk k hk2 (fun e => hg (g4 k e.symm)))⟩

set_option maxRecDepth 100000 in
set_option maxHeartbeats 8000000 in
theorem rwrite_good {G : Nat → Prop} {w : World} {x n : Nat} {rs : RSt} (h : Hid (RefAt G w x n rs)) (hd : rs.gone = false) (z : Nat) (hz : z < n) {S0 : Nat → Prop} {A : Option Addr} {c : Nat} {bs : List Int} (hb : Hid (RdL U8R 1 S0 w A 64 bs)) (hcl : rs.wait.length < 1000000) :
    Calls Try.prog 62 #[.pointer (some ⟨x, 0, none⟩), .int .i64 z, .slice A 64 c] w fun e w' => e = .returned (.int .i64 0) ∧ RUpd G w w' x n { rs with wait := rs.wait ++ [⟨z, bs, 0, 0⟩] } := by
  obtain ⟨Sb, vL, vW, hB, _⟩ := h.out
  obtain ⟨k0, k1, k2, k3⟩ := ref_cells hB
  rw [hd] at k3
  clear hB
  go_enter Try.func62, Try.ntmps62
  go_wp2_with fail
  refine (rhas_any h z).mono ?_
  rintro e w1 ⟨rfl, h1⟩
  have e1 : decide (0 ≤ (z : Int) ∧ (z : Int) < n) = true := by simp; omega
  rw [e1]
  clear e1 k0 k1 k2 k3
  have U1 := Lib.hid h1
  obtain ⟨Sb, vL, vW, hB, g1, g2, g3, g4, lt⟩ := h.out.below h1
  have R1 := Lib.hid (hb.out.below U8R.stable h1)
  obtain ⟨k0, k1, k2, k3⟩ := ref_cells hB
  have z2 := hB.box.frozen 2
  have HB := Lib.hid hB
  obtain ⟨AW, cW, rfl, hWc⟩ := hB.oW.form
  have B0 : Below w1.heap.size w1 (w1.alloc (.cells #[] 5)).drew := ((Below.refl _ _).alloc (Nat.le_refl _) _).drew
  have own0 : OwnL U8R 5 1 w1.heap.size (fun _ => False) (w1.alloc (.cells #[] 5)).drew (.slice (some ⟨w1.heap.size, 0, none⟩) 0 0) 0 [] := (OwnL.made (R := U8R) (E := 5) (s := 1) (S := fun _ => False) (base := w1.heap.size) (w := w1) #[] 0 (Nat.le_refl _) (by decide) (by simp)).keep U8R.stable ((Below.refl _ _).drew)
  have rd8 := R1.out.below U8R.stable B0
  have k2a : ∀ o, (w1.alloc o).cell? ⟨x, 2, none⟩ = some (.slice AW rs.wait.length cW) := fun o => cell_alloc2 k2 o
  have g8 : ∀ w8, (w1.alloc (.cells #[] 5)).drew.grownBy w8 (Value.slice (some ⟨w1.heap.size, 0, none⟩) 0 0).ownBlock → Below w1.heap.size w1 w8 := fun w8 hg => B0.trans ⟨hg.os, hg.tape, hg.output, hg.size, fun k hk => hg.block k (by simp; omega) (by simp [Value.ownBlock]; omega)⟩
  have KK8 := Lib.hid (fun w8 hg => (((g8 w8 hg).cell (p := ⟨x, 2, none⟩) (lt x g1)).trans k2))
  have KK8a := Lib.hid (fun w8 hg (o : Obj) => cell_alloc2 (((g8 w8 hg).cell (p := ⟨x, 2, none⟩) (lt x g1)).trans k2) o)
  have hxW : some x ≠ (Value.slice AW rs.wait.length cW).ownBlock := fun e => hB.wx e.symm
  have KO8 := Lib.hid (fun w8 (hg : (w1.alloc (.cells #[] 5)).drew.grownBy w8 (Value.slice (some ⟨w1.heap.size, 0, none⟩) 0 0).ownBlock) => ownL_wide (T := fun b => Sb b ∨ (w1.heap.size ≤ b ∧ b < w8.heap.size)) EvR.stable (ownL_blocks EvR.stable hB.oW (fun k hk => (g8 w8 hg).block k (lt k (g4 k hk))) (fun b hs => (g8 w8 hg).block b (lt b (g2 b hs)))) (fun b hb => .inl hb))
  have KE := Lib.hid (fun A8 c8 w8 (own8 : OwnL U8R 5 1 w1.heap.size (fun _ => False) w8 (.slice A8 (0 + 64) c8) (0 + 64) ([] ++ bs)) (hg : (w1.alloc (.cells #[] 5)).drew.grownBy w8 (Value.slice (some ⟨w1.heap.size, 0, none⟩) 0 0).ownBlock) =>
    (show EvR (Go.Cib.Rest (fun b => Sb b ∨ (w1.heap.size ≤ b ∧ b < w8.heap.size)) (.slice AW rs.wait.length cW)) w8 [.int .i64 z, .slice A8 64 c8, .int .i64 0, .int .u32 0] ⟨z, bs, 0, 0⟩ from by
      obtain ⟨A', c', e, _, hr⟩ := own8.rd (S' := (w1.heap.size ≤ ·)) (fun k hk => hk) (fun _ _ h => h)
      obtain ⟨rfl, rfl⟩ : A8 = A' ∧ c8 = c' := by simpa using e
      obtain ⟨b, o, rfl, h1, h2, h3⟩ := u8_exact hr (by omega)
      refine ⟨_, 64, c8, rfl, (h3.weaken U8R.stable (S' := Go.Cib.Rest (fun b => Sb b ∨ (w1.heap.size ≤ b ∧ b < w8.heap.size)) (.slice AW rs.wait.length cW)) ?_)⟩
      rintro b' rfl
      exact ⟨.inr ⟨h1, h2⟩, fun e => by have := lt b' (g4 b' e.symm); omega⟩))
  have KF := Lib.hid (fun w8 (hg : (w1.alloc (.cells #[] 5)).drew.grownBy w8 (Value.slice (some ⟨w1.heap.size, 0, none⟩) 0 0).ownBlock) (u : Grw (Value.slice AW rs.wait.length cW).ownBlock w8) =>
    (show u.to.cell? ⟨x, 2, none⟩ = some (.slice AW rs.wait.length cW) ∧ u.to.frozen? ⟨x, 2, none⟩ = false from
      ⟨cell_far2 (((g8 w8 hg).cell (p := ⟨x, 2, none⟩) (lt x g1)).trans k2) u.ok hxW, frozen_far2 (((g8 w8 hg).cell (p := ⟨x, 2, none⟩) (lt x g1)).trans k2) (((g8 w8 hg).frozen (p := ⟨x, 2, none⟩) (lt x g1)).trans z2) u.ok hxW⟩))
  clear hB h hb h1
  go_wp2_with fail
  go_region_law (first | (refine step_of_list (by rfl) (wpList_appL U8R.stable U8R.one slU8 (by rfl) (by rfl) (base := w1.heap.size) (S := fun _ => False) (by rfl) own0 (by rfl) rd8 (fun _ _ hy => hy) (by decide) (by decide) (by simp) ?_); intro A8 c8 w8 hc8 own8 hg8 hat8; refine And.intro rfl ?_; have k28 := KK8.out w8 hg8; have k28a := KK8a.out w8 hg8; have own9 := KO8.out w8 hg8) | (refine step_of_list (by rfl) (wpList_push1 EvR.stable EvR.one slEv (by rfl) (by rfl) (base := 0) (S := fun b => Sb b ∨ (w1.heap.size ≤ b ∧ b < w8.heap.size)) (cs := #[.int .i64 z, .slice A8 64 c8, .int .i64 0, .int .u32 0]) (y := ⟨z, bs, 0, 0⟩) (by rfl) (by rfl) own9 (by rfl) (KE.out A8 c8 w8 own8 hg8) (by unfold maxLen; omega) (by omega) (Nat.zero_le _) ?_); intro A11 c11 u11 hc11 own11 hlt11 hb11 hat11; refine And.intro rfl ?_; obtain ⟨k30, k31⟩ := KF.out w8 hg8 u11))
  all_goals go_wp2_with fail
  all_goals go_ret
  all_goals exact ⟨rfl, rwrite_post HB.out g1 g2 g3 g4 lt U1.out (g8 w8 hg8) u11.ok hlt11 own11 hat11⟩
end Go.Proofs.Ytolmpopjonkfgaa
