/-
  DriveRots, walked.
-/
import Derived.Test.YtolmpopjonkfgaaDrvO
import Derived.Test.YtolmpopjonkfgaaOpenPut
set_option linter.unusedSimpArgs false
set_option linter.unusedVariables false
namespace Go.Proofs.Ytolmpopjonkfgaa
open Go.RowKit Go.Cib
attribute [local go_sem] cell_set Later.cell Later.frozen Grw.cell Grw.frozen

set_option maxRecDepth 100000 in
theorem rots_bad (n a off mask c : Int) (w : World) (h : ¬ (2 ≤ n ∧ n ≤ 20 ∧ 0 ≤ a ∧ a < n ∧ 0 ≤ off ∧ off ≤ 60 ∧ ¬ mask = 0)) :
    Calls Try.prog 5 #[.int .i64 n, .int .i64 a, .int .i64 off, .int .u32 mask, .int .u8 c] w fun e w' => e = .returned (.bool true) ∧ Below w.heap.size w w' := by
  have hfin : ∀ w', Below w.heap.size w w' → Calls Try.prog 10 #[] w' fun e w'' => e = .returned (.bool true) ∧ Below w.heap.size w w'' := fun w' h => (stores_any w').mono fun e w'' ⟨h1, h2⟩ => ⟨h1, h.trans (h2.mono h.size)⟩
  have HF := Lib.hid hfin
  clear hfin
  by_cases h0 : n < 2
  · have d0 : decide (n < 2) = true := by simpa using h0
    go_enter Try.func5, Try.ntmps5
    go_wp2_with fail
    refine (HF.out _ (Below.refl _ _)).mono ?_
    rintro e w' ⟨rfl, hb⟩
    go_wp2_with fail
    go_ret
    exact ⟨rfl, hb⟩
  have d0 : decide (n < 2) = false := by simpa using h0
  by_cases h1 : 20 < n
  · have d1 : decide (20 < n) = true := by simpa using h1
    go_enter Try.func5, Try.ntmps5
    go_wp2_with fail
    refine (HF.out _ (Below.refl _ _)).mono ?_
    rintro e w' ⟨rfl, hb⟩
    go_wp2_with fail
    go_ret
    exact ⟨rfl, hb⟩
  have d1 : decide (20 < n) = false := by simpa using h1
  by_cases h2 : a < 0
  · have d2 : decide (a < 0) = true := by simpa using h2
    go_enter Try.func5, Try.ntmps5
    go_wp2_with fail
    refine (HF.out _ (Below.refl _ _)).mono ?_
    rintro e w' ⟨rfl, hb⟩
    go_wp2_with fail
    go_ret
    exact ⟨rfl, hb⟩
  have d2 : decide (a < 0) = false := by simpa using h2
  by_cases h3 : n ≤ a
  · have d3 : decide (n ≤ a) = true := by simpa using h3
    go_enter Try.func5, Try.ntmps5
    go_wp2_with fail
    refine (HF.out _ (Below.refl _ _)).mono ?_
    rintro e w' ⟨rfl, hb⟩
    go_wp2_with fail
    go_ret
    exact ⟨rfl, hb⟩
  have d3 : decide (n ≤ a) = false := by simpa using h3
  by_cases h4 : off < 0
  · have d4 : decide (off < 0) = true := by simpa using h4
    go_enter Try.func5, Try.ntmps5
    go_wp2_with fail
    refine (HF.out _ (Below.refl _ _)).mono ?_
    rintro e w' ⟨rfl, hb⟩
    go_wp2_with fail
    go_ret
    exact ⟨rfl, hb⟩
  have d4 : decide (off < 0) = false := by simpa using h4
  by_cases h5 : 60 < off
  · have d5 : decide (60 < off) = true := by simpa using h5
    go_enter Try.func5, Try.ntmps5
    go_wp2_with fail
    refine (HF.out _ (Below.refl _ _)).mono ?_
    rintro e w' ⟨rfl, hb⟩
    go_wp2_with fail
    go_ret
    exact ⟨rfl, hb⟩
  have d5 : decide (60 < off) = false := by simpa using h5
  have d9 : (mask == 0) = true := by simp; omega
  go_enter Try.func5, Try.ntmps5
  go_wp2_with fail
  refine (HF.out _ (Below.refl _ _)).mono ?_
  rintro e w' ⟨rfl, hb⟩
  go_wp2_with fail
  go_ret
  exact ⟨rfl, hb⟩

theorem full_box (z : Int) (w : World) :
    Calls Try.prog 13 #[.int .u8 z] w fun e w' => ∃ b, e = .returned (.slice (some ⟨b, 0, none⟩) 64 64) ∧ w.heap.size ≤ b ∧ BoxAt w' b ((rep z).map (Value.int .u8)).toArray ∧ Below w.heap.size w w' := by
  go_enter Try.func13, Try.ntmps13
  have hmk := make64 w
  have b0 := BoxAt.new w ((List.replicate 64 (0 : Int)).map (Value.int .u8)).toArray 5
  obtain ⟨w1, hw1⟩ : ∃ w1, w.alloc (.cells ((List.replicate 64 (0 : Int)).map (Value.int .u8)).toArray 5) = w1 := ⟨_, rfl⟩
  have h1 : Below w.heap.size w w1 := by rw [← hw1]; exact (Below.refl _ _).alloc (Nat.le_refl _) _
  rw [hw1] at hmk b0
  have B0 := Lib.hid b0; clear b0 hw1
  go_wp2_with fail
  clear hmk
  go_loopw [4] (fun vi wr => ∃ k : Nat, k ≤ 64 ∧ vi = .int .i64 k ∧ Below w.heap.size w wr ∧ Hid (BoxAt wr w.heap.size ((fillTo z k).map (Value.int .u8)).toArray)) (fun vi _ => 64 - (intOf vi).toNat)
  case atStart => exact ⟨0, Nat.zero_le _, rfl, h1, B0⟩
  case round =>
    obtain ⟨k, hk, rfl, hb, hbox⟩ := hrel
    by_cases hlt : k < 64
    · have k0 : wr.cell? ⟨w.heap.size, k, none⟩ = some (.int .u8 ((fillTo z k)[k]'(by simp [fillTo]; omega))) := by rw [hbox.out.cell]; simp [show k < (fillTo z k).length by simp [fillTo]; omega]
      have k1 := hbox.out.frozen k
      go_wp2_with fail
      refine ⟨⟨k + 1, by omega, by go_num, hb.setCell (Nat.le_refl _) _, Lib.hid ?_⟩, by simp [intOf]; omega⟩
      rw [← fillTo_set z hlt]
      exact hbox.out.set k _
    · obtain rfl : k = 64 := by omega
      go_wp2_with fail
      go_ret
      have h2 := hbox.out
      have e : fillTo z 64 = rep z := by simp [fillTo, rep]
      rw [e] at h2
      exact ⟨_, rfl, Nat.le_refl _, h2, hb⟩

/-- All sectors the same, none spoilt, nothing waits. -/
def flat (n : Nat) (c : Int) : DSt := ⟨List.replicate n (rep c), List.replicate n false, [], false⟩
theorem freshL_false (keep : Nat → Bool) : ∀ (c : List (Int × List Int)) (i : Nat) (xs : List Bool), (∀ r ∈ xs, r = false) → ∀ r ∈ freshL keep i c xs, r = false
  | [], i, xs, h, r, hr => h r hr
  | q :: c, i, xs, h, r, hr => by
    refine freshL_false keep c (i + 1) _ ?_ r hr
    intro y hy
    split at hy
    · rcases List.mem_or_eq_of_mem_set hy with h1 | h1
      · exact h y h1
      · exact h1
    · exact h y hy
theorem flat_of {st : DSt} {n : Nat} {c : Int} (hok : st.ok n) (hd : st.dead = false) (hs : ∀ k, k < n → st.seen k = rep c) (hr : ∀ r ∈ st.rotten, r = false) : st.settle (fun _ => true) = flat n c := by
  have hok2 := hok.settle (fun _ => true)
  have e1 : (st.settle fun _ => true).stored = List.replicate n (rep c) := by
    refine List.eq_replicate_iff.2 ⟨hok2.sl, fun x hx => ?_⟩
    obtain ⟨k, hk, rfl⟩ := List.mem_iff_getElem.1 hx
    have h1 := (hok.seen_flush (k := k) (by rw [← hok2.sl]; exact hk)).trans (hs k (by rw [← hok2.sl]; exact hk))
    rw [DSt.seen_nil rfl, List.getElem?_eq_getElem hk] at h1
    exact h1
  have e2 : (st.settle fun _ => true).rotten = List.replicate n false := List.eq_replicate_iff.2 ⟨hok2.rl, freshL_false _ _ _ _ hr⟩
  have e3 : (st.settle fun _ => true) = ⟨(st.settle fun _ => true).stored, (st.settle fun _ => true).rotten, [], st.dead⟩ := rfl
  rw [e3, e1, e2, hd]; rfl
theorem set_same {α : Type} (n a : Nat) (x : α) : (List.replicate n x).set a x = List.replicate n x :=
  List.eq_replicate_iff.2 ⟨by simp, fun y hy => by
    rcases List.mem_or_eq_of_mem_set hy with h | h
    · exact (List.mem_replicate.1 h).2
    · exact h⟩
theorem flat_rot_flush (n a off : Nat) (mask c : Int) (ha : a < n) : ((((flat n c).rot a off mask).write a (rep c)).settle fun _ => true) = flat n c := by
  have e1 := set_same n a (rep c)
  have e2 := set_same n a false
  simp [DSt.rot, DSt.rotAt, DSt.write, DSt.settle, flat, putL, freshL, e1, e2]
theorem rotTo_at (x : List Int) (off : Nat) (mask : Int) : ∀ i j, off + i ≤ j → (rotTo x off mask i)[j]? = x[j]?
  | 0, j, _ => rfl
  | i + 1, j, h => by rw [rotTo, List.getElem?_set_ne (by omega)]; exact rotTo_at x off mask i j (by omega)
theorem rotTo_succ_rep (c : Int) (off : Nat) (mask : Int) (i : Nat) (h : off + i < 64) : (rotTo (rep c) off mask i).set (off + i) (rotV c mask i) = rotTo (rep c) off mask (i + 1) := by
  have hx : (rep c)[off + i]? = some c := by simp [rep, h, -List.reduceReplicate]
  rw [rotTo, rotTo_at _ _ _ _ _ (Nat.le_refl _), hx]; rfl
theorem rotV_eq (v mask : Int) (j : Nat) : rotV v mask j = bits BinOp.xor IntKind.u8 v (mask / 2 ^ (8 * j) % 256) := by
  unfold rotV
  rw [show (8 * (j : Int)).toNat = 8 * j by omega, IntKind.wrap_u8]
theorem seen_rot (n a off : Nat) (mask c : Int) (k : Nat) (hk : k < n) : ((flat n c).rot a off mask).seen k = if k = a then rotTo (rep c) off mask 4 else rep c := by
  rw [DSt.seen_nil rfl]
  by_cases e : k = a
  · subst e; simp [DSt.rot, DSt.rotAt, flat, hk]
  · have e2 : a ≠ k := fun h => e h.symm
    show (((List.replicate n (rep c)).set a _)[k]?).getD [] = _
    rw [List.getElem?_set_ne e2]; simp [hk, e]
theorem rotten_rot (n a off : Nat) (mask c : Int) (k : Nat) (hk : k < n) : ((flat n c).rot a off mask).rotten[k]? = some (decide (k = a)) := by
  by_cases e : k = a
  · subst e; simp [DSt.rot, DSt.rotAt, flat, hk]
  · have e2 : a ≠ k := fun h => e h.symm
    show ((List.replicate n false).set a true)[k]? = _
    rw [List.getElem?_set_ne e2]; simp [hk, e]

set_option maxRecDepth 100000 in
set_option maxHeartbeats 8000000 in
theorem rots_good (n a off : Nat) (mask c : Int) (w : World) (h2 : 2 ≤ n) (h20 : n ≤ 20) (ha : a < n) (hoff : off ≤ 60) (hm : ¬ mask = 0) :
    Calls Try.prog 5 #[.int .i64 n, .int .i64 a, .int .i64 off, .int .u32 mask, .int .u8 c] w fun e w' => e = .returned (.bool true) ∧ Below w.heap.size w w' := by
  have d0 : (2 : Int) ≤ n := by omega
  have d1 : (n : Int) ≤ 20 := by omega
  have d2 : (0 : Int) ≤ a := by omega
  have d3 : (a : Int) < n := by omega
  have d4 : (0 : Int) ≤ off := by omega
  have d5 : (off : Int) ≤ 60 := by omega
  have d6 : (mask == 0) = false := by simpa using hm
  go_enter Try.func5, Try.ntmps5
  go_wp2_with fail
  refine (new_good n (by omega) (by omega) w).mono ?_
  rintro e w1 ⟨p, F1, rfl, D1, hF1, t1⟩
  have O1 := Lib.hid (Own.mk t1 hF1)
  have E1 := Lib.hid D1
  clear D1 hF1 t1
  go_wp2_with fail
  go_loopw [12] (fun vi wr => ∃ (i : Nat) (F : Nat → Prop) (st : DSt), i ≤ n ∧ vi = .int .i64 i ∧ st.cache.length = i ∧ st.dead = false ∧ Hid (∀ k, k < i → st.seen k = rep c) ∧ Hid (∀ r ∈ st.rotten, r = false) ∧ Hid (Own w F wr) ∧ Hid (DrvAt F wr p n st)) (fun vi _ => n - (intOf vi).toNat)
  case atStart => exact ⟨0, F1, DSt.new n, Nat.zero_le _, rfl, rfl, rfl, Lib.hid (fun k hk => by omega), Lib.hid (by simp [DSt.new]), O1, E1⟩
  case round =>
    obtain ⟨i, F, st, hi, rfl, hci, hdd, hse, hro, O, E⟩ := hrel
    by_cases hlt : i < n
    · go_wp2_with fail
      refine (full_at c wr).mono ?_
      rintro e w3 ⟨b3, o3, rfl, l3, l3', R3, t3⟩
      have O3 := Lib.hid (O.out.later t3)
      have E3 := Lib.hid (E.out.below t3)
      have n3 : ¬ F b3 := fun h => by have := E.out.lt h; omega
      clear O t3 l3 l3'
      go_wp2_with fail
      refine (write_good E3 hdd i hlt (Lib.hid R3) n3 (by omega)).mono ?_
      rintro e w4 ⟨rfl, F4, D4, hF4, K4⟩
      have O4 := Lib.hid (O3.out.upd hF4 K4)
      have E4 := Lib.hid D4
      clear O3 E3 R3 n3 hF4 K4 D4
      go_wp2_with fail
      refine ⟨⟨i + 1, F4, st.write (i : Int) (rep c), by omega, by go_num, by simp [DSt.write, hci], hdd, Lib.hid (fun k hk => ?_), Lib.hid hro.out, O4, E4⟩, by simp [intOf]; omega⟩
      rw [DSt.seen_write]
      by_cases e : (i : Int) = (k : Int)
      · simp [e]
      · rw [if_neg e]; exact hse.out k (by omega)
    · obtain rfl : n = i := by omega
      go_wp2_with fail
      refine (flush_good E hdd (by omega)).mono ?_
      rintro e w3 ⟨rfl, F3, D3, hF3, K3⟩
      rw [flat_of E.out.ok hdd hse.out hro.out] at D3
      have O3 := Lib.hid (O.out.upd hF3 K3)
      have E3 := Lib.hid D3
      clear O E D3 hF3 K3 hse hro
      go_wp2_with fail
      refine (rot_good E3 rfl a ha off hoff mask hm (by simp [flat, ha])).mono ?_
      rintro e w4 ⟨rfl, F4, D4, hF4, K4⟩
      have O4 := Lib.hid (O3.out.upd hF4 K4)
      have E4 := Lib.hid D4
      clear O3 E3 D4 hF4 K4
      go_wp2_with fail
      refine (rot_again E4 rfl a ha off hoff mask hm (by rw [rotten_rot _ _ _ _ _ _ ha]; simp)).mono ?_
      rintro e w5 ⟨rfl, t5⟩
      have O5 := Lib.hid (O4.out.later t5)
      have E5 := Lib.hid (E4.out.below t5)
      clear O4 E4 t5
      go_wp2_with fail
      refine (rotten_any E5 rfl a ha (by rw [rotten_rot _ _ _ _ _ _ ha])).mono ?_
      rintro e w6 ⟨rfl, t6⟩
      have O6 := Lib.hid (O5.out.later t6)
      have E6 := Lib.hid (E5.out.below t6)
      clear O5 E5 t6
      rw [show decide (a = a) = true by simp]
      go_wp2_with fail
      go_loopw [13] (fun vi wr => ∃ k : Nat, k ≤ n ∧ vi = .int .i64 k ∧ Hid (Own w F4 wr) ∧ Hid (DrvAt F4 wr p n ((flat n c).rot a off mask))) (fun vi _ => n - (intOf vi).toNat)
      case atStart => exact ⟨0, Nat.zero_le _, rfl, O6, E6⟩
      case round =>
        clear O6 E6
        obtain ⟨k, hk, rfl, O, E⟩ := hrel
        by_cases hkn : k < n
        · have hk2 : (k : Int) < (n : Int) := by omega
          have hse := seen_rot n a off mask c k hkn
          have hro := rotten_rot n a off mask c k hkn
          have HSE := Lib.hid hse
          have HRO := Lib.hid hro
          clear hse hro
          go_wp2_with fail
          refine (full_box c wr).mono ?_
          rintro e w7 ⟨b, rfl, l7, X7, t7⟩
          have O7 := Lib.hid (O.out.later t7)
          have E7 := Lib.hid (E.out.below t7)
          have nb : ¬ F4 b := fun h => by have := E.out.lt h; omega
          have lb : w.heap.size ≤ b := Nat.le_trans O.out.below.size l7
          have Q7 := Lib.hid X7
          clear O E t7 l7 X7
          by_cases hka : k = a
          · have HS2 := Lib.hid (HSE.out.trans (if_pos hka))
            have HR2 := Lib.hid (HRO.out.trans (show some (decide (k = a)) = some true by rw [decide_eq_true hka]))
            clear HSE HRO
            subst hka
            go_wp2_with fail
            go_loopw [15] (fun vi wr => ∃ j : Nat, j ≤ 4 ∧ vi = .int .i64 j ∧ Hid (Own w F4 wr) ∧ Hid (DrvAt F4 wr p n ((flat n c).rot k off mask)) ∧ Hid (BoxAt wr b ((rotTo (rep c) off mask j).map (Value.int .u8)).toArray)) (fun vi _ => 4 - (intOf vi).toNat)
            case atStart => exact ⟨0, Nat.zero_le _, rfl, O7, E7, Q7⟩
            case round =>
              clear O7 E7 Q7
              obtain ⟨j, hj, rfl, O, E, Q⟩ := hrel
              by_cases hj4 : j < 4
              · have hlen : (rotTo (rep c) off mask j).length = 64 := by rw [rotTo_len, rep_len]
                obtain ⟨ov, hov⟩ : ∃ v, (rotTo (rep c) off mask j)[off + j]? = some v := ⟨_, List.getElem?_eq_getElem (by omega)⟩
                have q0 : wr.cell? ⟨b, off + j, none⟩ = some (.int .u8 ov) := by rw [Q.out.cell]; simp [hov]
                have q1 := Q.out.frozen (off + j)
                have hoi : IntKind.i64.wrap ((off : Int) + (j : Int)) = (off : Int) + (j : Int) := by rw [IntKind.wrap_i64]; omega
                have hoj : (0 : Int) ≤ (off : Int) + (j : Int) := by omega
                have hok : (off : Int) + (j : Int) < 64 := by omega
                have hot : ((off : Int) + (j : Int)).toNat = off + j := by omega
                have h8 : IntKind.i64.wrap (8 * (j : Int)) = 8 * (j : Int) := by rw [IntKind.wrap_i64]; omega
                have h81 : (0 : Int) ≤ 8 * (j : Int) := by omega
                have hF : Keep (fun x => x = b) wr (wr.setCell ⟨b, off + j, none⟩ (.int .u8 (rotV c mask j))) := (Keep.refl (fun x => x = b) wr).setCell (p := ⟨b, off + j, none⟩) (fun _ => rfl) _
                have O2 := Lib.hid (Own.mk (O.out.below.trans (hF.below O.out.below.size (by rintro x rfl; exact lb))) O.out.own)
                have E2 := Lib.hid (E.out.keep hF (by rintro x hf rfl; exact nb hf))
                have Q2 := Q.out.set (off + j) (.int .u8 (rotV c mask j))
                have eQ : (((rotTo (rep c) off mask j).map (Value.int .u8)).toArray).setIfInBounds (off + j) (.int .u8 (rotV c mask j)) = ((rotTo (rep c) off mask (j + 1)).map (Value.int .u8)).toArray := by
                  rw [← rotTo_succ_rep c off mask j (by omega), List.map_set]; simp
                rw [eQ] at Q2
                have Q2 := Lib.hid Q2
                rw [rotV_eq] at O2 E2 Q2
                clear hov hlen hF eQ O E Q
                go_wp2_with fail
                exact ⟨⟨j + 1, by omega, by go_num, O2, E2, Q2⟩, by simp [intOf]; omega⟩
              · obtain rfl : j = 4 := by omega
                go_wp2_with fail
                refine (read_at E rfl k hkn).mono ?_
                rintro e w8 ⟨b8, o8, rfl, l8, l8', R8, t8⟩
                rw [HS2.out] at R8
                have O8 := Lib.hid (O.out.later t8)
                have E8 := Lib.hid (E.out.below t8)
                have q8 := (Q.out.below t8).bytes (xs := rotTo (rep c) off mask 4) (S := fun _ => True) trivial
                rw [show (rotTo (rep c) off mask 4).length = 64 by rw [rotTo_len, rep_len]] at q8
                have c8 := conv_run (c := 64) R8 (by omega)
                have c9 := conv_run (c := 64) q8 (by omega)
                clear O E Q t8 l8 l8' q8 R8
                go_wp2_with fail
                refine (rotten_any E8 rfl k hkn HR2.out).mono ?_
                rintro e w9 ⟨rfl, t9⟩
                have O9 := Lib.hid (O8.out.later t9)
                have E9 := Lib.hid (E8.out.below t9)
                clear O8 E8 t9 c8 c9
                go_wp2_with fail
                exact ⟨⟨k + 1, by omega, by go_num, O9, E9⟩, by simp [intOf]; omega⟩
          · have HS2 := Lib.hid (HSE.out.trans (if_neg hka))
            have HR2 := Lib.hid (HRO.out.trans (show some (decide (k = a)) = some false by rw [decide_eq_false hka]))
            clear HSE HRO
            have hka2 : ¬ (k : Int) = (a : Int) := by omega
            go_wp2_with fail
            refine (read_at E7 rfl k hkn).mono ?_
            rintro e w8 ⟨b8, o8, rfl, l8, l8', R8, t8⟩
            rw [HS2.out] at R8
            have O8 := Lib.hid (O7.out.later t8)
            have E8 := Lib.hid (E7.out.below t8)
            have q8 := (Q7.out.below t8).bytes (xs := rep c) (S := fun _ => True) trivial
            rw [show (rep c).length = 64 by exact rep_len c] at q8
            have c8 := conv_run (c := 64) R8 (by omega)
            have c9 := conv_run (c := 64) q8 (by omega)
            clear O7 E7 Q7 t8 l8 l8' q8 R8
            go_wp2_with fail
            refine (rotten_any E8 rfl k hkn HR2.out).mono ?_
            rintro e w9 ⟨rfl, t9⟩
            have O9 := Lib.hid (O8.out.later t9)
            have E9 := Lib.hid (E8.out.below t9)
            clear O8 E8 t9 c8 c9
            go_wp2_with fail
            exact ⟨⟨k + 1, by omega, by go_num, O9, E9⟩, by simp [intOf]; omega⟩
        · obtain rfl : k = n := by omega
          clear hkn hk hlt hi
          go_wp2_with fail
          refine (full_at c wr).mono ?_
          rintro e w7 ⟨b7, o7, rfl, l7, l7', R7, t7⟩
          have O7 := Lib.hid (O.out.later t7)
          have E7 := Lib.hid (E.out.below t7)
          have n7 : ¬ F4 b7 := fun h => by have := E.out.lt h; omega
          clear O E t7 l7 l7'
          go_wp2_with fail
          refine (write_good E7 rfl a ha (Lib.hid R7) n7 (by simp [DSt.rot, DSt.rotAt, flat])).mono ?_
          rintro e w8 ⟨rfl, F8, D8, hF8, K8⟩
          have O8 := Lib.hid (O7.out.upd hF8 K8)
          have E8 := Lib.hid D8
          clear O7 E7 R7 n7 D8 hF8 K8
          have hr8 : (((flat k c).rot a off mask).write (a : Int) (rep c)).rotten[a]? = some true := by
            have := rotten_rot k a off mask c a ha
            rw [decide_eq_true rfl] at this
            exact this
          have HR8 := Lib.hid hr8
          clear hr8
          go_wp2_with fail
          refine (rotten_any E8 rfl a ha HR8.out).mono ?_
          rintro e w9 ⟨rfl, t9⟩
          have O9 := Lib.hid (O8.out.later t9)
          have E9 := Lib.hid (E8.out.below t9)
          clear O8 E8 t9
          go_wp2_with fail
          refine (flush_good E9 rfl (by simp [DSt.rot, DSt.rotAt, flat, DSt.write])).mono ?_
          rintro e wA ⟨rfl, FA, DA, hFA, KA⟩
          rw [flat_rot_flush k a off mask c ha] at DA
          have OA := Lib.hid (O9.out.upd hFA KA)
          have EA := Lib.hid DA
          clear O9 E9 DA hFA KA HR8
          go_wp2_with fail
          refine (rotten_any EA rfl a ha (r := false) (by simp [flat, ha])).mono ?_
          rintro e wB ⟨rfl, tB⟩
          have OB := Lib.hid (OA.out.later tB)
          have EB := Lib.hid (EA.out.below tB)
          clear OA EA tB
          go_wp2_with fail
          refine (rot_good EB rfl a ha off hoff mask hm (by simp [flat, ha])).mono ?_
          rintro e wC ⟨rfl, FC, DC, hFC, KC⟩
          have OC := Lib.hid (OB.out.upd hFC KC)
          have EC := Lib.hid DC
          clear OB EB DC hFC KC
          go_wp2_with fail
          refine (fail_any EC).mono ?_
          rintro e wD ⟨rfl, FD, DD, hFD, KD⟩
          have OD := Lib.hid (OC.out.upd hFD KD)
          have ED := Lib.hid DD
          clear OC EC DD hFD KD
          have hre : readyE true k (a : Int) = 90 := rfl
          go_wp2_with fail
          refine (read_bad ED (a : Int) (by show readyE true k (a : Int) ≠ 0; rw [hre]; decide)).mono ?_
          rintro e wE ⟨rfl, tE⟩
          have OE := Lib.hid (OD.out.later tE)
          have EE := Lib.hid (ED.out.below tE)
          clear OD ED tE
          rw [show readyE (DSt.gone k).dead k (a : Int) = 90 from rfl]
          go_wp2_with fail
          refine (full_at c wE).mono ?_
          rintro e w10 ⟨b10, o10, rfl, _, _, _, t10⟩
          have O10 := Lib.hid (OE.out.later t10)
          have E10 := Lib.hid (EE.out.below t10)
          clear OE EE t10
          go_wp2_with fail
          refine (write_bad E10 (a : Int) (by show readyE true k (a : Int) ≠ 0; rw [hre]; decide) _).mono ?_
          rintro e w11 ⟨rfl, t11⟩
          have O11 := Lib.hid (O10.out.later t11)
          have E11 := Lib.hid (E10.out.below t11)
          clear O10 E10 t11
          rw [show readyE (DSt.gone k).dead k (a : Int) = 90 from rfl]
          obtain ⟨xa, xb, xc, xd, xe, xf, xg, H11⟩ := E11.out.box
          go_wp2_with fail
          refine (dead_any H11).mono ?_
          rintro e w12 ⟨rfl, t12⟩
          have O12 := Lib.hid (O11.out.later t12)
          have E12 := Lib.hid (E11.out.below t12)
          clear O11 E11 t12 H11
          rw [show (DSt.gone k).dead = true from rfl]
          go_wp2_with fail
          refine (replace_any E12).mono ?_
          rintro e wF ⟨rfl, FF, DF, hFF, KF⟩
          have OF := Lib.hid (O12.out.upd hFF KF)
          have EF := Lib.hid DF
          clear O12 E12 DF hFF KF
          go_wp2_with fail
          refine (read_at EF rfl a ha).mono ?_
          rintro e wG ⟨bG, oG, rfl, lG, lG', RG, tG⟩
          rw [DSt.seen_new ha] at RG
          have OG := Lib.hid (OF.out.later tG)
          have EG := Lib.hid (EF.out.below tG)
          have QG := Lib.hid RG
          have cG : ∀ w', Below wG.heap.size wG w' → (convert 27 9 (.slice (some ⟨bG, oG, none⟩) 64 64)).run Try.prog w' = .ok (.string (strOfNums (rep 0))) w' := fun w' h => conv_run (QG.out.below U8R.stable h) (by omega)
          clear OF EF tG RG lG lG'
          go_wp2_with fail
          refine wp_region_held_drew (S := (fun w' => Below wG.heap.size wG w')) (by kernel_rfl) (by first | exact (Below.refl _ _).drew | assumption) (fun hHeld => ?_)
          refine wpAnyH_take (i := 0) (v := ?_) rfl (by kernel_rfl) (by kernel_rfl) (by kernel_rfl) (fun _ _ _ h => h) (Or.inl ⟨by rfl, ?_⟩) (by assumption) ?_
          rotate_left
          · (intro wq hSw; (try dsimp only at hSw); (try simp only [List.getElem_toArray, List.getElem_cons_succ, List.getElem_cons_zero]); go_simp); try with_reducible rfl
          try simp only [List.getElem_toArray, List.getElem_cons_succ, List.getElem_cons_zero, Act.put, List.setIfInBounds_toArray, List.set_cons_zero, List.set_cons_succ]
          refine wpAnyH_take (i := 1) (v := ?_) rfl (by kernel_rfl) (by kernel_rfl) (by kernel_rfl) (fun _ _ _ h => h) (Or.inl ⟨by rfl, ?_⟩) (by assumption) ?_
          rotate_left
          · (intro wq hSw; (try dsimp only at hSw); (try simp only [List.getElem_toArray, List.getElem_cons_succ, List.getElem_cons_zero]); go_simp); try with_reducible rfl
          try simp only [List.getElem_toArray, List.getElem_cons_succ, List.getElem_cons_zero, Act.put, List.setIfInBounds_toArray, List.set_cons_zero, List.set_cons_succ]
          refine wpAnyH_take (i := 2) (v := ?_) rfl (by kernel_rfl) (by kernel_rfl) (by kernel_rfl) (fun _ _ _ h => h) (Or.inl ⟨by rfl, ?_⟩) (by assumption) ?_
          rotate_left
          · (intro wq hSw; (try dsimp only at hSw); (try simp only [List.getElem_toArray, List.getElem_cons_succ, List.getElem_cons_zero]); go_simp); try with_reducible rfl
          try simp only [List.getElem_toArray, List.getElem_cons_succ, List.getElem_cons_zero, Act.put, List.setIfInBounds_toArray, List.set_cons_zero, List.set_cons_succ]
          refine wpAnyH_take (i := 3) (v := ?_) rfl (by kernel_rfl) (by kernel_rfl) (by kernel_rfl) (fun _ _ _ h => h) (Or.inl ⟨by rfl, ?_⟩) (by assumption) ?_
          rotate_left
          · (intro wq hSw; (try dsimp only at hSw); (try simp only [List.getElem_toArray, List.getElem_cons_succ, List.getElem_cons_zero]); go_simp); try with_reducible rfl
          try simp only [List.getElem_toArray, List.getElem_cons_succ, List.getElem_cons_zero, Act.put, List.setIfInBounds_toArray, List.set_cons_zero, List.set_cons_succ]
          refine wpAnyH_take (i := 4) (v := ?_) rfl (by kernel_rfl) (by kernel_rfl) (by kernel_rfl) (fun _ _ _ h => h) (Or.inl ⟨by rfl, ?_⟩) (by assumption) ?_
          rotate_left
          · (intro wq hSw; (try dsimp only at hSw); (try simp only [List.getElem_toArray, List.getElem_cons_succ, List.getElem_cons_zero]); go_simp); try with_reducible rfl
          try simp only [List.getElem_toArray, List.getElem_cons_succ, List.getElem_cons_zero, Act.put, List.setIfInBounds_toArray, List.set_cons_zero, List.set_cons_succ]
          refine wpAnyH_take (i := 5) (v := ?_) rfl (by kernel_rfl) (by kernel_rfl) (by kernel_rfl) (fun _ _ _ h => h) (Or.inl ⟨by rfl, ?_⟩) (by assumption) ?_
          rotate_left
          · (intro wq hSw; (try dsimp only at hSw); (try simp only [List.getElem_toArray, List.getElem_cons_succ, List.getElem_cons_zero]); go_simp); try with_reducible rfl
          try simp only [List.getElem_toArray, List.getElem_cons_succ, List.getElem_cons_zero, Act.put, List.setIfInBounds_toArray, List.set_cons_zero, List.set_cons_succ]
          refine wpAnyH_take (i := 6) (v := ?_) rfl (by kernel_rfl) (by kernel_rfl) (by kernel_rfl) (fun _ _ _ h => h) (Or.inl ⟨by rfl, ?_⟩) (by assumption) ?_
          rotate_left
          · (intro wq hSw; (try dsimp only at hSw); (try simp only [List.getElem_toArray, List.getElem_cons_succ, List.getElem_cons_zero]); go_simp); try with_reducible rfl
          try simp only [List.getElem_toArray, List.getElem_cons_succ, List.getElem_cons_zero, Act.put, List.setIfInBounds_toArray, List.set_cons_zero, List.set_cons_succ]
          refine wpAnyH_take (i := 7) (v := ?_) rfl (by kernel_rfl) (by kernel_rfl) (by kernel_rfl) (fun _ _ _ h => h) (Or.inl ⟨by rfl, ?_⟩) (by assumption) ?_
          rotate_left
          · (intro wq hSw; (try dsimp only at hSw); (try simp only [List.getElem_toArray, List.getElem_cons_succ, List.getElem_cons_zero]); go_simp); try with_reducible rfl
          try simp only [List.getElem_toArray, List.getElem_cons_succ, List.getElem_cons_zero, Act.put, List.setIfInBounds_toArray, List.set_cons_zero, List.set_cons_succ]
          refine wpAnyH_take (i := 8) (v := ?_) rfl (by kernel_rfl) (by kernel_rfl) (by kernel_rfl) (fun _ _ _ h => h) (Or.inl ⟨by rfl, ?_⟩) (by assumption) ?_
          rotate_left
          · (intro wq hSw; (try dsimp only at hSw); (try simp only [List.getElem_toArray, List.getElem_cons_succ, List.getElem_cons_zero]); go_simp); try with_reducible rfl
          try simp only [List.getElem_toArray, List.getElem_cons_succ, List.getElem_cons_zero, Act.put, List.setIfInBounds_toArray, List.set_cons_zero, List.set_cons_succ]
          refine wpAnyH_take (i := 9) (v := ?_) rfl (by kernel_rfl) (by kernel_rfl) (by kernel_rfl) (fun _ _ _ h => h) (Or.inl ⟨by rfl, ?_⟩) (by assumption) ?_
          rotate_left
          · (intro wq hSw; (try dsimp only at hSw); (try simp only [List.getElem_toArray, List.getElem_cons_succ, List.getElem_cons_zero]); go_simp); try with_reducible rfl
          try simp only [List.getElem_toArray, List.getElem_cons_succ, List.getElem_cons_zero, Act.put, List.setIfInBounds_toArray, List.set_cons_zero, List.set_cons_succ]
          refine wpAnyH_take (i := 10) (v := ?_) rfl (by kernel_rfl) (by kernel_rfl) (by kernel_rfl) (fun _ _ _ h => h) (Or.inl ⟨by rfl, ?_⟩) (by assumption) ?_
          rotate_left
          · (intro wq hSw; (try dsimp only at hSw); (try simp only [List.getElem_toArray, List.getElem_cons_succ, List.getElem_cons_zero]); go_simp); try with_reducible rfl
          try simp only [List.getElem_toArray, List.getElem_cons_succ, List.getElem_cons_zero, Act.put, List.setIfInBounds_toArray, List.set_cons_zero, List.set_cons_succ]
          refine wpAnyH_take (i := 11) (v := ?_) rfl (by kernel_rfl) (by kernel_rfl) (by kernel_rfl) (fun _ _ _ h => h) (Or.inl ⟨by rfl, ?_⟩) (by assumption) ?_
          rotate_left
          · (intro wq hSw; (try dsimp only at hSw); (try simp only [List.getElem_toArray, List.getElem_cons_succ, List.getElem_cons_zero]); go_simp); try with_reducible rfl
          try simp only [List.getElem_toArray, List.getElem_cons_succ, List.getElem_cons_zero, Act.put, List.setIfInBounds_toArray, List.set_cons_zero, List.set_cons_succ]
          refine wpAnyH_take (i := 12) (v := ?_) rfl (by kernel_rfl) (by kernel_rfl) (by kernel_rfl) (fun _ _ _ h => h) (Or.inl ⟨by rfl, ?_⟩) (by assumption) ?_
          rotate_left
          · (intro wq hSw; (try dsimp only at hSw); (try simp only [List.getElem_toArray, List.getElem_cons_succ, List.getElem_cons_zero]); go_simp); try with_reducible rfl
          try simp only [List.getElem_toArray, List.getElem_cons_succ, List.getElem_cons_zero, Act.put, List.setIfInBounds_toArray, List.set_cons_zero, List.set_cons_succ]
          refine wpAnyH_take (i := 13) (v := ?_) rfl (by kernel_rfl) (by kernel_rfl) (by kernel_rfl) (fun _ _ _ h => h) (Or.inl ⟨by rfl, ?_⟩) (by assumption) ?_
          rotate_left
          · (intro wq hSw; (try dsimp only at hSw); (try simp only [List.getElem_toArray, List.getElem_cons_succ, List.getElem_cons_zero]); go_simp); try with_reducible rfl
          try simp only [List.getElem_toArray, List.getElem_cons_succ, List.getElem_cons_zero, Act.put, List.setIfInBounds_toArray, List.set_cons_zero, List.set_cons_succ]
          refine wpAnyH_take (i := 14) (v := ?_) rfl (by kernel_rfl) (by kernel_rfl) (by kernel_rfl) (fun _ _ _ h => h) (Or.inl ⟨by rfl, ?_⟩) (by assumption) ?_
          rotate_left
          · (intro wq hSw; (try dsimp only at hSw); (try simp only [List.getElem_toArray, List.getElem_cons_succ, List.getElem_cons_zero]); go_simp); try with_reducible rfl
          try simp only [List.getElem_toArray, List.getElem_cons_succ, List.getElem_cons_zero, Act.put, List.setIfInBounds_toArray, List.set_cons_zero, List.set_cons_succ]
          refine wpAnyH_take (i := 15) (v := ?_) rfl (by kernel_rfl) (by kernel_rfl) (by kernel_rfl) (fun _ _ _ h => h) (Or.inl ⟨by rfl, ?_⟩) (by assumption) ?_
          rotate_left
          · (intro wq hSw; (try dsimp only at hSw); (try simp only [List.getElem_toArray, List.getElem_cons_succ, List.getElem_cons_zero]); go_simp); try with_reducible rfl
          try simp only [List.getElem_toArray, List.getElem_cons_succ, List.getElem_cons_zero, Act.put, List.setIfInBounds_toArray, List.set_cons_zero, List.set_cons_succ]
          refine wpAnyH_ready (rs := [16]) (by kernel_rfl) (by simp) ?_
          refine AllReadyH.cons rfl (fun K hK => ?_) AllReadyH.nil
          try simp only [List.getElem_toArray, List.getElem_cons_succ, List.getElem_cons_zero]
          go_simp
          go_at_call 13
          refine (full_at _ _).mono ?_
          rintro e wz ⟨bz, oz, rfl, _, _, rz, tz⟩
          have tq := below_then tz (by assumption)
          have cz := conv_run (c := 64) rz (by omega)
          try (go_wp2_with fail)
          refine hK.out _ _ (by first | exact (Below.refl _ _).drew | assumption) (fun hHeld => ?_)
          clear hK K
          try simp only [List.getElem_toArray, List.getElem_cons_succ, List.getElem_cons_zero, Act.put, List.setIfInBounds_toArray, List.set_cons_zero, List.set_cons_succ]
          refine wpAnyH_ready (rs := [17]) (by kernel_rfl) (by simp) ?_
          refine AllReadyH.cons rfl (fun K hK => ?_) AllReadyH.nil
          try simp only [List.getElem_toArray, List.getElem_cons_succ, List.getElem_cons_zero]
          go_simp
          refine hK.out _ _ (by first | exact (Below.refl _ _).drew | assumption) (fun hHeld => ?_)
          clear hK K
          try simp only [List.getElem_toArray, List.getElem_cons_succ, List.getElem_cons_zero, Act.put, List.setIfInBounds_toArray, List.set_cons_zero, List.set_cons_succ]
          refine wpAnyH_take (i := 18) (v := ?_) rfl (by kernel_rfl) (by kernel_rfl) (by kernel_rfl) (fun _ _ _ h => h) (Or.inl ⟨by rfl, ?_⟩) (by assumption) ?_
          rotate_left
          · (intro wq hSw; (try dsimp only at hSw); (try simp only [List.getElem_toArray, List.getElem_cons_succ, List.getElem_cons_zero]); go_simp); try with_reducible rfl
          try simp only [List.getElem_toArray, List.getElem_cons_succ, List.getElem_cons_zero, Act.put, List.setIfInBounds_toArray, List.set_cons_zero, List.set_cons_succ]
          refine wpAnyH_take (i := 19) (v := ?_) rfl (by kernel_rfl) (by kernel_rfl) (by kernel_rfl) (fun _ _ _ h => h) (Or.inl ⟨by rfl, ?_⟩) (by assumption) ?_
          rotate_left
          · (intro wq hSw; (try dsimp only at hSw); (try simp only [List.getElem_toArray, List.getElem_cons_succ, List.getElem_cons_zero]); go_simp); try with_reducible rfl
          try simp only [List.getElem_toArray, List.getElem_cons_succ, List.getElem_cons_zero, Act.put, List.setIfInBounds_toArray, List.set_cons_zero, List.set_cons_succ]
          refine wpAnyH_take (i := 20) (v := ?_) rfl (by kernel_rfl) (by kernel_rfl) (by kernel_rfl) (fun _ _ _ h => h) (Or.inl ⟨by rfl, ?_⟩) (by assumption) ?_
          rotate_left
          · (intro wq hSw; (try dsimp only at hSw); (try simp only [List.getElem_toArray, List.getElem_cons_succ, List.getElem_cons_zero]); go_simp); try with_reducible rfl
          try simp only [List.getElem_toArray, List.getElem_cons_succ, List.getElem_cons_zero, Act.put, List.setIfInBounds_toArray, List.set_cons_zero, List.set_cons_succ]
          refine wpAnyH_take (i := 21) (v := ?_) rfl (by kernel_rfl) (by kernel_rfl) (by kernel_rfl) (fun _ _ _ h => h) (Or.inl ⟨by rfl, ?_⟩) (by assumption) ?_
          rotate_left
          · (intro wq hSw; (try dsimp only at hSw); (try simp only [List.getElem_toArray, List.getElem_cons_succ, List.getElem_cons_zero]); go_simp); try with_reducible rfl
          try simp only [List.getElem_toArray, List.getElem_cons_succ, List.getElem_cons_zero, Act.put, List.setIfInBounds_toArray, List.set_cons_zero, List.set_cons_succ]
          refine wpAnyH_take (i := 22) (v := ?_) rfl (by kernel_rfl) (by kernel_rfl) (by kernel_rfl) (fun _ _ _ h => h) (Or.inl ⟨by rfl, ?_⟩) (by assumption) ?_
          rotate_left
          · (intro wq hSw; (try dsimp only at hSw); (try simp only [List.getElem_toArray, List.getElem_cons_succ, List.getElem_cons_zero]); go_simp); try with_reducible rfl
          try simp only [List.getElem_toArray, List.getElem_cons_succ, List.getElem_cons_zero, Act.put, List.setIfInBounds_toArray, List.set_cons_zero, List.set_cons_succ]
          refine wpAnyH_ready (rs := [23]) (by kernel_rfl) (by simp) ?_
          refine AllReadyH.cons rfl (fun K hK => ?_) AllReadyH.nil
          try simp only [List.getElem_toArray, List.getElem_cons_succ, List.getElem_cons_zero]
          go_simp
          go_at_call 19
          refine (rotten_any (Lib.hid (EG.out.below (by assumption))) rfl a ha (r := false) (by simp [DSt.new, ha])).mono ?_
          rintro e wz ⟨rfl, tz⟩
          have tq := below_then tz (by assumption)
          try (go_wp2_with fail)
          refine hK.out _ _ (by first | exact (Below.refl _ _).drew | assumption) (fun hHeld => ?_)
          clear hK K
          try simp only [List.getElem_toArray, List.getElem_cons_succ, List.getElem_cons_zero, Act.put, List.setIfInBounds_toArray, List.set_cons_zero, List.set_cons_succ]
          refine wpAnyH_take (i := 24) (v := ?_) rfl (by kernel_rfl) (by kernel_rfl) (by kernel_rfl) (fun _ _ _ h => h) (Or.inl ⟨by rfl, ?_⟩) (by assumption) ?_
          rotate_left
          · (intro wq hSw; (try dsimp only at hSw); (try simp only [List.getElem_toArray, List.getElem_cons_succ, List.getElem_cons_zero]); go_simp); try with_reducible rfl
          try simp only [List.getElem_toArray, List.getElem_cons_succ, List.getElem_cons_zero, Act.put, List.setIfInBounds_toArray, List.set_cons_zero, List.set_cons_succ]
          refine wpAnyH_take (i := 25) (v := ?_) rfl (by kernel_rfl) (by kernel_rfl) (by kernel_rfl) (fun _ _ _ h => h) (Or.inl ⟨by rfl, ?_⟩) (by assumption) ?_
          rotate_left
          · (intro wq hSw; (try dsimp only at hSw); (try simp only [List.getElem_toArray, List.getElem_cons_succ, List.getElem_cons_zero]); go_simp); try with_reducible rfl
          try simp only [List.getElem_toArray, List.getElem_cons_succ, List.getElem_cons_zero, Act.put, List.setIfInBounds_toArray, List.set_cons_zero, List.set_cons_succ]
          refine wpAnyH_take (i := 26) (v := ?_) rfl (by kernel_rfl) (by kernel_rfl) (by kernel_rfl) (fun _ _ _ h => h) (Or.inl ⟨by rfl, ?_⟩) (by assumption) ?_
          rotate_left
          · (intro wq hSw; (try dsimp only at hSw); (try simp only [List.getElem_toArray, List.getElem_cons_succ, List.getElem_cons_zero]); go_simp); try with_reducible rfl
          try simp only [List.getElem_toArray, List.getElem_cons_succ, List.getElem_cons_zero, Act.put, List.setIfInBounds_toArray, List.set_cons_zero, List.set_cons_succ]
          refine wpAnyH_ready (rs := [27]) (by kernel_rfl) (by simp) ?_
          refine AllReadyH.cons rfl (fun K hK => ?_) AllReadyH.nil
          try simp only [List.getElem_toArray, List.getElem_cons_succ, List.getElem_cons_zero]
          go_simp
          go_at_call 10
          refine (stores_any _).mono ?_
          rintro e wz ⟨rfl, tz⟩
          have tq := below_then tz (by assumption)
          try (go_wp2_with fail)
          refine hK.out _ _ (by first | exact (Below.refl _ _).drew | assumption) (fun hHeld => ?_)
          clear hK K
          try simp only [List.getElem_toArray, List.getElem_cons_succ, List.getElem_cons_zero, Act.put, List.setIfInBounds_toArray, List.set_cons_zero, List.set_cons_succ]
          refine wpAnyH_take (i := 28) (v := ?_) rfl (by kernel_rfl) (by kernel_rfl) (by kernel_rfl) (fun _ _ _ h => h) (Or.inl ⟨by rfl, ?_⟩) (by assumption) ?_
          rotate_left
          · (intro wq hSw; (try dsimp only at hSw); (try simp only [List.getElem_toArray, List.getElem_cons_succ, List.getElem_cons_zero]); go_simp); try with_reducible rfl
          try simp only [List.getElem_toArray, List.getElem_cons_succ, List.getElem_cons_zero, Act.put, List.setIfInBounds_toArray, List.set_cons_zero, List.set_cons_succ]
          refine wpAnyH_take (i := 29) (v := ?_) rfl (by kernel_rfl) (by kernel_rfl) (by kernel_rfl) (fun _ _ _ h => h) (Or.inl ⟨by rfl, ?_⟩) (by assumption) ?_
          rotate_left
          · (intro wq hSw; (try dsimp only at hSw); (try simp only [List.getElem_toArray, List.getElem_cons_succ, List.getElem_cons_zero]); go_simp); try with_reducible rfl
          try simp only [List.getElem_toArray, List.getElem_cons_succ, List.getElem_cons_zero, Act.put, List.setIfInBounds_toArray, List.set_cons_zero, List.set_cons_succ]
          refine wpAnyH_done (by kernel_rfl) ?_ _
          go_wp2_with fail
          go_ret
          exact ⟨rfl, OG.out.below.trans (Below.mono tq OG.out.below.size)⟩


theorem rots_any (n a off mask c : Int) (w : World) :
    Calls Try.prog 5 #[.int .i64 n, .int .i64 a, .int .i64 off, .int .u32 mask, .int .u8 c] w fun e w' => e = .returned (.bool true) ∧ Below w.heap.size w w' := by
  by_cases h : 2 ≤ n ∧ n ≤ 20 ∧ 0 ≤ a ∧ a < n ∧ 0 ≤ off ∧ off ≤ 60 ∧ ¬ mask = 0
  · obtain ⟨n', rfl⟩ : ∃ k : Nat, n = k := ⟨n.toNat, by omega⟩
    obtain ⟨a', rfl⟩ : ∃ k : Nat, a = k := ⟨a.toNat, by omega⟩
    obtain ⟨off', rfl⟩ : ∃ k : Nat, off = k := ⟨off.toNat, by omega⟩
    exact rots_good n' a' off' mask c w (by omega) (by omega) (by omega) (by omega) h.2.2.2.2.2.2
  · exact rots_bad n a off mask c w h
end Go.Proofs.Ytolmpopjonkfgaa
