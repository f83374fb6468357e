/-
  DriveCrashes, walked.
-/
import Derived.Test.YtnceaimhhfjmdaaOpenPut
set_option linter.unusedSimpArgs false
set_option linter.unusedVariables false
namespace Go.Proofs.Ytnceaimhhfjmdaa
open Go.RowKit Go.Cib
attribute [local go_sem] cell_set Later.cell Later.frozen Grw.cell Grw.frozen
attribute [local go_sem ↓] run_min_as run_max_as

set_option maxRecDepth 100000 in
theorem crashes_bad (n : Int) (A0 A1 A2 : Option Addr) (m0 c0 m1 c1 m2 c2 : Nat) (w : World) (h : ¬ (1 ≤ n ∧ n ≤ 20 ∧ m0 ≤ 100 ∧ m1 ≤ 100 ∧ m2 ≤ 200)) :
    Calls Try.prog 4 #[.int .i64 n, .slice A0 m0 c0, .slice A1 m1 c1, .slice A2 m2 c2] w fun e w' => e = .returned (.bool true) ∧ Below w.heap.size w w' := by
  have hfin : ∀ w', Below w.heap.size w w' → Calls Try.prog 12 #[] w' fun e w'' => e = .returned (.bool true) ∧ Below w.heap.size w w'' := fun w' h => (stores_any w').mono fun e w'' ⟨h1, h2⟩ => ⟨h1, h.trans (h2.mono h.size)⟩
  have HF := Lib.hid hfin
  clear hfin
  by_cases h0 : n < 1
  · have d0 : decide (n < 1) = true := by simpa using h0
    go_enter Try.func4, Try.ntmps4
    go_wp2_with fail
    refine (HF.out _ (Below.refl _ _)).mono ?_
    rintro e w' ⟨rfl, hb⟩
    go_wp2_with fail
    go_ret
    exact ⟨rfl, hb⟩
  have d0 : decide (n < 1) = false := by simpa using h0
  by_cases h1 : 20 < n
  · have d1 : decide (20 < n) = true := by simpa using h1
    go_enter Try.func4, Try.ntmps4
    go_wp2_with fail
    refine (HF.out _ (Below.refl _ _)).mono ?_
    rintro e w' ⟨rfl, hb⟩
    go_wp2_with fail
    go_ret
    exact ⟨rfl, hb⟩
  have d1 : decide (20 < n) = false := by simpa using h1
  by_cases h2 : 100 < m0
  · have d2 : decide (100 < m0) = true := by simpa using h2
    have d2' : (100 : Int) < m0 := by omega
    go_enter Try.func4, Try.ntmps4
    go_wp2_with fail
    refine (HF.out _ (Below.refl _ _)).mono ?_
    rintro e w' ⟨rfl, hb⟩
    go_wp2_with fail
    go_ret
    exact ⟨rfl, hb⟩
  have d2 : ¬ (100 : Int) < m0 := by omega
  by_cases h3 : 100 < m1
  · have d3 : decide (100 < m1) = true := by simpa using h3
    have d3' : (100 : Int) < m1 := by omega
    go_enter Try.func4, Try.ntmps4
    go_wp2_with fail
    refine (HF.out _ (Below.refl _ _)).mono ?_
    rintro e w' ⟨rfl, hb⟩
    go_wp2_with fail
    go_ret
    exact ⟨rfl, hb⟩
  have d3 : ¬ (100 : Int) < m1 := by omega
  have d4' : (200 : Int) < m2 := by omega
  go_enter Try.func4, Try.ntmps4
  go_wp2_with fail
  refine (HF.out _ (Below.refl _ _)).mono ?_
  rintro e w' ⟨rfl, hb⟩
  go_wp2_with fail
  go_ret
  exact ⟨rfl, hb⟩

/-! ### What a crash keeps, as bytes -/
def putB (keep : Nat → Bool) : Nat → List (Nat × Int) → List Int → List Int
  | _, [], xs => xs
  | i, p :: c, xs => putB keep (i + 1) c (if keep i then xs.set p.1 p.2 else xs)
theorem putL_rep (keep : Nat → Bool) : ∀ (c : List (Nat × Int)) (i : Nat) (xs : List Int), putL keep i (c.map fun x => ((x.1 : Int), rep x.2)) (xs.map rep) = (putB keep i c xs).map rep
  | [], i, xs => rfl
  | p :: c, i, xs => by
    rw [List.map_cons, putL, putB, ← putL_rep keep c]
    congr 1
    by_cases h : keep i = true <;> simp [h, List.map_set]
theorem putB_len (keep : Nat → Bool) : ∀ (c : List (Nat × Int)) (i : Nat) (xs : List Int), (putB keep i c xs).length = xs.length
  | [], i, xs => rfl
  | p :: c, i, xs => by rw [putB, putB_len keep c]; split <;> simp
theorem putB_or (keep : Nat → Bool) : ∀ (c : List (Nat × Int)) (i : Nat) (xs : List Int) (k : Nat) (v : Int), (putB keep i c xs)[k]? = some v → xs[k]? = some v ∨ (k, v) ∈ c
  | [], i, xs, k, v, h => .inl h
  | p :: c, i, xs, k, v, h => by
    rw [putB] at h
    rcases putB_or keep c (i + 1) _ k v h with h1 | h1
    · by_cases hk : keep i = true
      · rw [if_pos hk] at h1
        by_cases e : p.1 = k
        · subst e
          rw [List.getElem?_set_self'] at h1
          cases hx : xs[p.1]? with
          | none => simp [hx] at h1
          | some u =>
            simp [hx] at h1
            exact .inr (by rw [← h1]; simp)
        · rw [List.getElem?_set_ne e] at h1; exact .inl h1
      · rw [if_neg hk] at h1; exact .inl h1
    · exact .inr (List.mem_cons_of_mem _ h1)
/-- The puts as the drive has them. -/
def putsAt (l : List (Int × Int)) (n : Nat) : List (Nat × Int) := l.map fun x => (spotOf x.1 n, x.2)
def waitsAt (l : List (Int × Int)) (n : Nat) : List (Int × List Int) := (putsAt l n).map fun x => ((x.1 : Int), rep x.2)
theorem waitsAt_len (l : List (Int × Int)) (n : Nat) : (waitsAt l n).length = l.length := by simp [waitsAt, putsAt]
theorem waitsAt_snoc (l : List (Int × Int)) (n i : Nat) {a z : Int} (h : l[i]? = some (a, z)) : waitsAt (l.take (i + 1)) n = waitsAt (l.take i) n ++ [((spotOf a n : Int), rep z)] := by
  obtain ⟨hi, e⟩ := List.getElem?_eq_some_iff.1 h
  rw [List.take_succ_eq_append_getElem hi, e]
  simp [waitsAt, putsAt]
/-- One of the puts said so. -/
def Said (l : List (Int × Int)) (n k : Nat) (v : Int) (i : Nat) : Prop := ∃ (j : Nat) (a : Int), j < i ∧ l[j]? = some (a, v) ∧ spotOf a n = k
theorem said_succ {l : List (Int × Int)} {n k i : Nat} {x a z : Int} (h : l[i]? = some (a, z)) : Said l n k x (i + 1) ↔ Said l n k x i ∨ (z = x ∧ spotOf a n = k) := by
  constructor
  · rintro ⟨j, c, hj, h1, h2⟩
    by_cases e : j < i
    · exact .inl ⟨j, c, e, h1, h2⟩
    · obtain rfl : j = i := by omega
      rw [h] at h1
      simp only [Option.some.injEq, Prod.mk.injEq] at h1
      exact .inr ⟨h1.2, h1.1 ▸ h2⟩
  · rintro (⟨j, c, hj, h1, h2⟩ | ⟨rfl, h2⟩)
    · exact ⟨j, c, by omega, h1, h2⟩
    · exact ⟨i, a, by omega, h, h2⟩
theorem said_of_mem {l : List (Int × Int)} {n k : Nat} {v : Int} (h : (k, v) ∈ putsAt l n) : Said l n k v l.length := by
  obtain ⟨x, hx, e⟩ := List.mem_map.1 h
  obtain ⟨j, hj, rfl⟩ := List.mem_iff_getElem.1 hx
  simp only [Prod.mk.injEq] at e
  exact ⟨j, (l[j]).1, hj, by rw [List.getElem?_eq_getElem hj, ← e.2], e.1⟩
theorem Mid.stored {w wr : World} {F : Nat → Prop} {p n hb : Nat} {st : DSt} {hl sl : List Int} (h : Mid w F wr p n hb st hl sl) (hc : st.cache = []) : st.stored = sl.map rep := by
  have hs := h.drv.ok.sl
  apply List.ext_getElem
  · simp [hs, h.len2]
  · intro k h1 h2
    have := h.sees k (by omega)
    rw [DSt.seen_nil hc, List.getElem?_eq_getElem h1] at this
    simpa using this

set_option maxRecDepth 100000 in
set_option maxHeartbeats 8000000 in
theorem crashes_good (n : Nat) (A0 A1 A2 : Option Addr) (m0 c0 m1 c1 m2 c2 : Nat) (w : World) (h2 : 1 ≤ n) (h20 : n ≤ 20) (h100 : m0 ≤ 100) (h100' : m1 ≤ 100) (h200 : m2 ≤ 200) {first l : List (Int × Int)} {ks : List Bool}
    (R0 : Hid (RdL PutR 2 (fun _ => True) w A0 m0 first)) (R1 : Hid (RdL PutR 2 (fun _ => True) w A1 m1 l)) (R2 : Hid (RdL BoolR 1 (fun _ => True) w A2 m2 ks)) :
    Calls Try.prog 4 #[.int .i64 n, .slice A0 m0 c0, .slice A1 m1 c1, .slice A2 m2 c2] w fun e w' => e = .returned (.bool true) ∧ Below w.heap.size w w' := by
  replace R2 : Hid (RdL BoolR 1 (fun b => b < w.heap.size) w A2 m2 ks) := Lib.hid (R2.out.stable BoolR.stable (fun b _ hlt => ⟨hlt, rfl⟩))
  have d0 : (1 : Int) ≤ n := by omega
  have d1 : (n : Int) ≤ 20 := by omega
  have d2 : (m0 : Int) ≤ 100 := by omega
  have d3 : (m1 : Int) ≤ 100 := by omega
  have d4 : (m2 : Int) ≤ 200 := by omega
  go_enter Try.func4, Try.ntmps4
  go_wp2_with fail
  refine (new_good n (by omega) (by omega) w).mono ?_
  rintro e w1 ⟨p, F1, rfl, D1, hF1, t1⟩
  have hmk := makeU8 n (by omega) w1
  have b1 := BoxAt.new w1 ((List.replicate n (0 : Int)).map (Value.int .u8)).toArray 5
  have a1 : Below w1.heap.size w1 (w1.alloc (.cells ((List.replicate n (0 : Int)).map (Value.int .u8)).toArray 5)) := (Below.refl _ _).alloc (Nat.le_refl _) _
  obtain ⟨w2, hw2⟩ : ∃ w2, w1.alloc (.cells ((List.replicate n (0 : Int)).map (Value.int .u8)).toArray 5) = w2 := ⟨_, rfl⟩
  obtain ⟨hb, hhb⟩ : ∃ hb, w1.heap.size = hb := ⟨_, rfl⟩
  rw [hw2] at hmk b1 a1
  have M0 : Mid w F1 w2 p n hb (DSt.new n) (List.replicate n 0) (List.replicate n 0) := by
    rw [← hhb]
    exact ⟨(Own.mk t1 hF1).later a1, D1.below a1, rfl, b1, by simp, by simp, fun h => by have := D1.lt h; omega, t1.size, fun k hk => by rw [DSt.seen_new hk]; simp⟩
  have HM := Lib.hid M0
  rw [hhb] at hmk
  clear M0 a1 b1 D1 hF1 t1 hw2 hhb
  go_wp2_with fail
  clear hmk
  go_loopw [11] (fun vi wr => ∃ (i : Nat) (F : Nat → Prop) (st : DSt) (hl : List Int), i ≤ m0 ∧ vi = .int .i64 i ∧ st.cache.length = i ∧ Hid (Mid w F wr p n hb st hl hl)) (fun vi _ => m0 - (intOf vi).toNat)
  case atStart => exact ⟨0, F1, DSt.new n, List.replicate n 0, Nat.zero_le _, rfl, rfl, HM⟩
  case round =>
    obtain ⟨i, F, st, hl, hi, rfl, hci, M⟩ := hrel
    by_cases hlt : i < m0
    · obtain ⟨b, o, a, z, rfl, hx, hcells⟩ := put_at R0.out hlt
      have HC := Lib.hid hcells
      clear hcells
      obtain ⟨v0, v1⟩ := HC.out wr M.out.own.below
      obtain ⟨e0, e1⟩ := spot_eq a n (by omega)
      obtain ⟨kk, hkk⟩ : ∃ kk, spotOf a n = kk := ⟨_, rfl⟩
      rw [hkk] at e0 e1
      have hk0 : (0 : Int) ≤ (kk : Int) := Int.natCast_nonneg _
      have hk1 : (kk : Int) < (n : Int) := by omega
      go_wp2_with fail
      refine (full_at z wr).mono ?_
      rintro e w3 ⟨b3, o3, rfl, l3, l3', R3, t3⟩
      have M3 := Lib.hid (M.out.later t3)
      have n3 : ¬ F b3 := fun h => by have := M.out.drv.lt h; omega
      clear v0 v1 M t3 l3 l3'
      go_wp2_with fail
      refine (write_good (Lib.hid M3.out.drv) M3.out.live kk e1 (Lib.hid R3) n3 (by omega)).mono ?_
      rintro e w4 ⟨rfl, F4, D4, hF4, K4⟩
      have M4 := M3.out.write e1 (z := z) D4 hF4 K4
      have M5 := Lib.hid (M4.note kk z)
      obtain ⟨v0, v1⟩ := HC.out w4 ((M3.out.own.upd hF4 K4).below)
      have hx4 := M3.out.had.keeps K4 M3.out.out
      have q0 : w4.cell? ⟨hb, kk, none⟩ = some (.int .u8 (hl[kk]'(by rw [M3.out.len]; exact e1))) := by rw [hx4.cell]; simp [M3.out.len, e1]
      have q1 := hx4.frozen kk
      obtain ⟨ov, hov⟩ : ∃ ov, hl[kk]'(by rw [M3.out.len]; exact e1) = ov := ⟨_, rfl⟩
      rw [hov] at q0
      obtain ⟨w5, hw5⟩ : ∃ w5, w4.setCell ⟨hb, kk, none⟩ (.int .u8 z) = w5 := ⟨_, rfl⟩
      rw [hw5] at M5
      clear hov hx4 D4 hF4 K4 M3 R3 n3 M4
      go_wp2_with fail
      exact ⟨⟨i + 1, F4, _, _, by omega, by go_num, by simp [DSt.write, hci], M5⟩, by simp [intOf]; omega⟩
    · obtain rfl : i = m0 := by omega
      clear HM hlt hi
      go_wp2_with fail
      refine (flush_good (Lib.hid M.out.drv) M.out.live (by omega)).mono ?_
      rintro e w3 ⟨rfl, F3, D3, hF3, K3⟩
      have M3 := Lib.hid (M.out.flush D3 hF3 K3)
      have hst := M3.out.stored rfl
      obtain ⟨st3, hst3⟩ : ∃ s, (st.settle fun _ => true) = s := ⟨_, rfl⟩
      have hc3 : st3.cache = [] := by rw [← hst3]; rfl
      rw [hst3] at M3 hst
      clear D3 hF3 K3 M hst3
      go_wp2_with fail
      have HM3 := Lib.hid (Mid.stored M3.out hc3)
      have HC3 := Lib.hid hc3
      clear hst hc3
      go_loopw [13] (fun vi wr => ∃ (i : Nat) (F : Nat → Prop) (st : DSt) (sl : List Int), i ≤ m1 ∧ vi = .int .i64 i ∧ Hid (st.cache = waitsAt (l.take i) n) ∧ Hid (st.stored = hl.map rep) ∧ Hid (Mid w F wr p n hb st hl sl)) (fun vi _ => m1 - (intOf vi).toNat)
      case atStart => exact ⟨0, F3, st3, hl, Nat.zero_le _, rfl, Lib.hid HC3.out, HM3, M3⟩
      case round =>
        clear M3 HM3 HC3 st3
        obtain ⟨i, F, st, sl, hi, rfl, hca, hsto, M⟩ := hrel
        by_cases hlt : i < m1
        · obtain ⟨b, o, a, z, rfl, hx, hcells⟩ := put_at R1.out hlt
          obtain ⟨e0, e1⟩ := spot_eq a n (by omega)
          obtain ⟨kk, hkk⟩ : ∃ kk, spotOf a n = kk := ⟨_, rfl⟩
          rw [hkk] at e0 e1
          have hk0 : (0 : Int) ≤ (kk : Int) := Int.natCast_nonneg _
          have hk1 : (kk : Int) < (n : Int) := by omega
          have v0 : ∀ w', Below w.heap.size w w' → w'.cell? ⟨b, o + i * 2, none⟩ = some (.int .i64 a) := fun w' h => (hcells w' h).1
          have v1 : ∀ w', Below w.heap.size w w' → w'.cell? ⟨b, o + i * 2 + 1, none⟩ = some (.int .u8 z) := fun w' h => (hcells w' h).2
          have hwr : IntKind.i64.wrap ((n : Int) - 1) = (n : Int) - 1 := by rw [IntKind.wrap_i64]; omega
          have Md := Lib.hid (M.out.later ((Below.refl wr.heap.size wr).drew))
          have HX := Lib.hid hx
          have HKK := Lib.hid hkk
          have hll := R1.out.1
          clear hcells hx hkk
          go_wp2_with fail
          refine wp_region_held_drew (S := (fun w' => Below w.heap.size w w')) (by kernel_rfl) (by first | assumption | exact Md.out.own.below) (fun hHeld => ?_)
          refine wpAnyH_take (i := 0) (v := ?_) rfl (by kernel_rfl) (by kernel_rfl) (by kernel_rfl) (fun _ _ _ h => h) (Or.inl ⟨by rfl, ?_⟩) (by assumption) ?_
          rotate_left
          · (intro wq hSw; (try dsimp only at hSw); (try simp only [List.getElem_toArray, List.getElem_cons_succ, List.getElem_cons_zero]); go_simp); try with_reducible rfl
          try simp only [List.getElem_toArray, List.getElem_cons_succ, List.getElem_cons_zero, Act.put, List.setIfInBounds_toArray, List.set_cons_zero, List.set_cons_succ]
          refine wpAnyH_take (i := 1) (v := ?_) rfl (by kernel_rfl) (by kernel_rfl) (by kernel_rfl) (fun _ _ _ h => h) (Or.inl ⟨by rfl, ?_⟩) (by assumption) ?_
          rotate_left
          · (intro wq hSw; (try dsimp only at hSw); (try simp only [List.getElem_toArray, List.getElem_cons_succ, List.getElem_cons_zero]); go_simp); try with_reducible rfl
          try simp only [List.getElem_toArray, List.getElem_cons_succ, List.getElem_cons_zero, Act.put, List.setIfInBounds_toArray, List.set_cons_zero, List.set_cons_succ]
          refine wpAnyH_take (i := 2) (v := ?_) rfl (by kernel_rfl) (by kernel_rfl) (by kernel_rfl) (fun _ _ _ h => h) (Or.inl ⟨by rfl, ?_⟩) (by assumption) ?_
          rotate_left
          · (intro wq hSw; (try dsimp only at hSw); (try simp only [List.getElem_toArray, List.getElem_cons_succ, List.getElem_cons_zero]); go_simp); try with_reducible rfl
          try simp only [List.getElem_toArray, List.getElem_cons_succ, List.getElem_cons_zero, Act.put, List.setIfInBounds_toArray, List.set_cons_zero, List.set_cons_succ]
          refine wpAnyH_take (i := 3) (v := ?_) rfl (by kernel_rfl) (by kernel_rfl) (by kernel_rfl) (fun _ _ _ h => h) (Or.inl ⟨by rfl, ?_⟩) (by assumption) ?_
          rotate_left
          · (intro wq hSw; (try dsimp only at hSw); (try simp only [List.getElem_toArray, List.getElem_cons_succ, List.getElem_cons_zero]); go_simp); try with_reducible rfl
          try simp only [List.getElem_toArray, List.getElem_cons_succ, List.getElem_cons_zero, Act.put, List.setIfInBounds_toArray, List.set_cons_zero, List.set_cons_succ]
          refine wpAnyH_take (i := 4) (v := ?_) rfl (by kernel_rfl) (by kernel_rfl) (by kernel_rfl) (fun _ _ _ h => h) (Or.inl ⟨by rfl, ?_⟩) (by assumption) ?_
          rotate_left
          · (intro wq hSw; (try dsimp only at hSw); (try simp only [List.getElem_toArray, List.getElem_cons_succ, List.getElem_cons_zero]); go_simp); try with_reducible rfl
          try simp only [List.getElem_toArray, List.getElem_cons_succ, List.getElem_cons_zero, Act.put, List.setIfInBounds_toArray, List.set_cons_zero, List.set_cons_succ]
          refine wpAnyH_take (i := 5) (v := ?_) rfl (by kernel_rfl) (by kernel_rfl) (by kernel_rfl) (fun _ _ _ h => h) (Or.inl ⟨by rfl, ?_⟩) (by assumption) ?_
          rotate_left
          · (intro wq hSw; (try dsimp only at hSw); (try simp only [List.getElem_toArray, List.getElem_cons_succ, List.getElem_cons_zero]); go_simp); try with_reducible rfl
          try simp only [List.getElem_toArray, List.getElem_cons_succ, List.getElem_cons_zero, Act.put, List.setIfInBounds_toArray, List.set_cons_zero, List.set_cons_succ]
          refine wpAnyH_take (i := 6) (v := ?_) rfl (by kernel_rfl) (by kernel_rfl) (by kernel_rfl) (fun _ _ _ h => h) (Or.inl ⟨by rfl, ?_⟩) (by assumption) ?_
          rotate_left
          · (intro wq hSw; (try dsimp only at hSw); (try simp only [List.getElem_toArray, List.getElem_cons_succ, List.getElem_cons_zero]); go_simp); try with_reducible rfl
          try simp only [List.getElem_toArray, List.getElem_cons_succ, List.getElem_cons_zero, Act.put, List.setIfInBounds_toArray, List.set_cons_zero, List.set_cons_succ]
          refine wpAnyH_take (i := 7) (v := ?_) rfl (by kernel_rfl) (by kernel_rfl) (by kernel_rfl) (fun _ _ _ h => h) (Or.inl ⟨by rfl, ?_⟩) (by assumption) ?_
          rotate_left
          · (intro wq hSw; (try dsimp only at hSw); (try simp only [List.getElem_toArray, List.getElem_cons_succ, List.getElem_cons_zero]); go_simp); try with_reducible rfl
          try simp only [List.getElem_toArray, List.getElem_cons_succ, List.getElem_cons_zero, Act.put, List.setIfInBounds_toArray, List.set_cons_zero, List.set_cons_succ]
          refine wpAnyH_take (i := 8) (v := ?_) rfl (by kernel_rfl) (by kernel_rfl) (by kernel_rfl) (fun _ _ _ h => h) (Or.inl ⟨by rfl, ?_⟩) (by assumption) ?_
          rotate_left
          · (intro wq hSw; (try dsimp only at hSw); (try simp only [List.getElem_toArray, List.getElem_cons_succ, List.getElem_cons_zero]); go_simp); try with_reducible rfl
          try simp only [List.getElem_toArray, List.getElem_cons_succ, List.getElem_cons_zero, Act.put, List.setIfInBounds_toArray, List.set_cons_zero, List.set_cons_succ]
          refine wpAnyH_take (i := 9) (v := ?_) rfl (by kernel_rfl) (by kernel_rfl) (by kernel_rfl) (fun _ _ _ h => h) (Or.inl ⟨by rfl, ?_⟩) (by assumption) ?_
          rotate_left
          · (intro wq hSw; (try dsimp only at hSw); (try simp only [List.getElem_toArray, List.getElem_cons_succ, List.getElem_cons_zero]); go_simp); try with_reducible rfl
          try simp only [List.getElem_toArray, List.getElem_cons_succ, List.getElem_cons_zero, Act.put, List.setIfInBounds_toArray, List.set_cons_zero, List.set_cons_succ]
          refine wpAnyH_take (i := 10) (v := ?_) rfl (by kernel_rfl) (by kernel_rfl) (by kernel_rfl) (fun _ _ _ h => h) (Or.inl ⟨by rfl, ?_⟩) (by assumption) ?_
          rotate_left
          · (intro wq hSw; (try dsimp only at hSw); (try simp only [List.getElem_toArray, List.getElem_cons_succ, List.getElem_cons_zero]); go_simp); try with_reducible rfl
          try simp only [List.getElem_toArray, List.getElem_cons_succ, List.getElem_cons_zero, Act.put, List.setIfInBounds_toArray, List.set_cons_zero, List.set_cons_succ]
          refine wpAnyH_take (i := 11) (v := ?_) rfl (by kernel_rfl) (by kernel_rfl) (by kernel_rfl) (fun _ _ _ h => h) (Or.inl ⟨by rfl, ?_⟩) (by assumption) ?_
          rotate_left
          · (intro wq hSw; (try dsimp only at hSw); (try simp only [List.getElem_toArray, List.getElem_cons_succ, List.getElem_cons_zero]); go_simp); try with_reducible rfl
          try simp only [List.getElem_toArray, List.getElem_cons_succ, List.getElem_cons_zero, Act.put, List.setIfInBounds_toArray, List.set_cons_zero, List.set_cons_succ]
          refine wpAnyH_take (i := 12) (v := ?_) rfl (by kernel_rfl) (by kernel_rfl) (by kernel_rfl) (fun _ _ _ h => h) (Or.inl ⟨by rfl, ?_⟩) (by assumption) ?_
          rotate_left
          · (intro wq hSw; (try dsimp only at hSw); (try simp only [List.getElem_toArray, List.getElem_cons_succ, List.getElem_cons_zero]); go_simp); try with_reducible rfl
          try simp only [List.getElem_toArray, List.getElem_cons_succ, List.getElem_cons_zero, Act.put, List.setIfInBounds_toArray, List.set_cons_zero, List.set_cons_succ]
          refine wpAnyH_take (i := 13) (v := ?_) rfl (by kernel_rfl) (by kernel_rfl) (by kernel_rfl) (fun _ _ _ h => h) (Or.inl ⟨by rfl, ?_⟩) (by assumption) ?_
          rotate_left
          · (intro wq hSw; (try dsimp only at hSw); (try simp only [List.getElem_toArray, List.getElem_cons_succ, List.getElem_cons_zero]); go_simp); try with_reducible rfl
          try simp only [List.getElem_toArray, List.getElem_cons_succ, List.getElem_cons_zero, Act.put, List.setIfInBounds_toArray, List.set_cons_zero, List.set_cons_succ]
          refine wpAnyH_take (i := 14) (v := ?_) rfl (by kernel_rfl) (by kernel_rfl) (by kernel_rfl) (fun _ _ _ h => h) (Or.inl ⟨by rfl, ?_⟩) (by assumption) ?_
          rotate_left
          · (intro wq hSw; (try dsimp only at hSw); (try simp only [List.getElem_toArray, List.getElem_cons_succ, List.getElem_cons_zero]); go_simp); try with_reducible rfl
          try simp only [List.getElem_toArray, List.getElem_cons_succ, List.getElem_cons_zero, Act.put, List.setIfInBounds_toArray, List.set_cons_zero, List.set_cons_succ]
          refine wpAnyH_ready (rs := [15]) (by kernel_rfl) (by simp) ?_
          refine AllReadyH.cons rfl (fun K hK => ?_) AllReadyH.nil
          try simp only [List.getElem_toArray, List.getElem_cons_succ, List.getElem_cons_zero]
          go_simp
          go_at_call 15
          refine (full_at _ _).mono ?_
          rintro e wz ⟨bz, oz, rfl, lz, lz', rz, tz⟩
          have Mz := Lib.hid (Md.out.later tz)
          have nz : ¬ F bz := fun h => by have := Md.out.drv.lt h; omega
          have tq := Mz.out.own.below
          try (go_wp2_with fail)
          refine hK.out _ _ (by first | assumption | exact Md.out.own.below) (fun hHeld => ?_)
          clear hK K
          try simp only [List.getElem_toArray, List.getElem_cons_succ, List.getElem_cons_zero, Act.put, List.setIfInBounds_toArray, List.set_cons_zero, List.set_cons_succ]
          refine wpAnyH_ready (rs := [16]) (by kernel_rfl) (by simp) ?_
          refine AllReadyH.cons rfl (fun K hK => ?_) AllReadyH.nil
          try simp only [List.getElem_toArray, List.getElem_cons_succ, List.getElem_cons_zero]
          go_simp
          go_at_call 14
          refine (write_good (Lib.hid Mz.out.drv) Mz.out.live kk e1 (Lib.hid rz) nz (by rw [hca.out, waitsAt_len]; simp; omega)).mono ?_
          rintro e w5 ⟨rfl, F5, D5, hF5, K5⟩
          have M5 := Lib.hid (Mz.out.write e1 (z := z) D5 hF5 K5)
          have t5 := M5.out.own.below
          try (go_wp2_with fail)
          refine hK.out _ _ (by first | assumption | exact Md.out.own.below) (fun hHeld => ?_)
          clear hK K
          try simp only [List.getElem_toArray, List.getElem_cons_succ, List.getElem_cons_zero, Act.put, List.setIfInBounds_toArray, List.set_cons_zero, List.set_cons_succ]
          refine wpAnyH_take (i := 17) (v := ?_) rfl (by kernel_rfl) (by kernel_rfl) (by kernel_rfl) (fun _ _ _ h => h) (Or.inl ⟨by rfl, ?_⟩) (by assumption) ?_
          rotate_left
          · (intro wq hSw; (try dsimp only at hSw); (try simp only [List.getElem_toArray, List.getElem_cons_succ, List.getElem_cons_zero]); go_simp); try with_reducible rfl
          try simp only [List.getElem_toArray, List.getElem_cons_succ, List.getElem_cons_zero, Act.put, List.setIfInBounds_toArray, List.set_cons_zero, List.set_cons_succ]
          refine wpAnyH_done (by kernel_rfl) ?_ _
          go_wp2_with fail
          refine ⟨⟨i + 1, F5, st.write (kk : Int) (rep z), _, by omega, by go_num, Lib.hid ?_, Lib.hid hsto.out, M5⟩, by simp [intOf]; omega⟩
          rw [waitsAt_snoc l n i HX.out, HKK.out]
          show st.cache ++ _ = _
          rw [hca.out]
        · obtain rfl : i = m1 := by omega
          clear hlt hi
          have hll : l.length = i := R1.out.1
          go_wp2_with fail
          refine (crash_any (c := c2) (Lib.hid M.out.drv) (by rw [hca.out, waitsAt_len]; simp; omega) (S := fun b => b < w.heap.size) (ks := ks) (A := A2) (m := m2) (Lib.hid (R2.out.below BoolR.stable M.out.own.below)) (fun b hb hf => by have := M.out.own.own b hf; omega)).mono ?_
          rintro e w6 ⟨rfl, F6, D6, hF6, K6⟩
          have hsl : (putB (keepOf ks) 0 (putsAt l n) hl).length = n := by rw [putB_len]; exact M.out.len
          have M6 := Lib.hid (M.out.upd (sl' := putB (keepOf ks) 0 (putsAt l n) hl) D6 hF6 K6 M.out.live hsl (fun k hk => by
            rw [DSt.seen_settle, hca.out, hsto.out, List.take_of_length_le (by omega)]
            show ((putL (keepOf ks) 0 ((putsAt l n).map fun x => ((x.1 : Int), rep x.2)) (hl.map rep))[k]?).getD [] = _
            rw [putL_rep]
            simp [hsl, hk]))
          obtain ⟨st6, hst6⟩ : ∃ s, (st.settle (keepOf ks)) = s := ⟨_, rfl⟩
          have hw6 : st6.cache = [] := by rw [← hst6]; rfl
          have HW6 := Lib.hid hw6
          rw [hst6] at M6
          have hor : Hid (∀ k x, (putB (keepOf ks) 0 (putsAt l n) hl)[k]? = some x → hl[k]? = some x ∨ Said l n k x l.length) := Lib.hid fun k x e => by
            rcases putB_or (keepOf ks) (putsAt l n) 0 hl k x e with h1 | h1
            · exact .inl h1
            · exact .inr (said_of_mem h1)
          obtain ⟨sl6, hsl6⟩ : ∃ s, putB (keepOf ks) 0 (putsAt l n) hl = s := ⟨_, rfl⟩
          rw [hsl6] at M6 hor
          clear D6 hF6 K6 hst6 hsl hsl6 M hca hsto hw6
          go_wp2_with fail
          go_loopw [14] (fun vi wr => ∃ k : Nat, k ≤ n ∧ vi = .int .i64 k ∧ Hid (Mid w F6 wr p n hb st6 hl sl6)) (fun vi _ => n - (intOf vi).toNat)
          case atStart => exact ⟨0, Nat.zero_le _, rfl, M6⟩
          case round =>
            obtain ⟨k, hk, rfl, M⟩ := hrel
            by_cases hkn : k < n
            · obtain ⟨x, hx⟩ : ∃ x, sl6[k]? = some x := ⟨_, List.getElem?_eq_getElem (by rw [M.out.len2]; exact hkn)⟩
              obtain ⟨hv, hhv⟩ : ∃ x, hl[k]? = some x := ⟨_, List.getElem?_eq_getElem (by rw [M.out.len]; exact hkn)⟩
              have hxo := hor.out k x hx
              have hse := M.out.sees k hkn
              rw [show sl6[k]'(by rw [M.out.len2]; exact hkn) = x from (List.getElem?_eq_some_iff.1 hx).2] at hse
              have hk2 : (k : Int) < (n : Int) := by omega
              have hk3 : (0 : Int) ≤ (k : Int) := Int.natCast_nonneg _
              have HX := Lib.hid hhv
              rw [hhv] at hxo
              have HXO := Lib.hid hxo
              clear hxo hx hhv
              go_wp2_with fail
              refine (read_at (Lib.hid M.out.drv) M.out.live k hkn).mono ?_
              rintro e w7 ⟨b7, o7, rfl, l7, l7', R7, t7⟩
              rw [hse] at R7
              have R7 := Lib.hid R7
              have M7 := Lib.hid (M.out.later t7)
              have c7 : ∀ w', Below w7.heap.size w7 w' → (convert 27 9 (.slice (some ⟨b7, o7, none⟩) 64 64)).run Try.prog w' = .ok (.string (strOfNums (rep x))) w' := fun w' h => conv_run (R7.out.below U8R.stable h) (by omega)
              have v7 : ∀ w', Below w7.heap.size w7 w' → w'.cell? ⟨b7, o7, none⟩ = some (.int .u8 x) := fun w' h => by
                have := u8_range (R7.out.below U8R.stable h) 0 (.int .u8 x) (by simp [secCells, rep])
                simpa using this
              have v8 : ∀ w', Below w7.heap.size w7 w' → w'.cell? ⟨hb, k, none⟩ = some (.int .u8 hv) := fun w' h => by
                rw [(M7.out.later h).had.cell]
                simpa using HX.out
              clear hse t7 l7' M
              go_wp2_with fail
              refine wp_region_held_drew (S := (fun w' => Below w7.heap.size w7 w')) (by kernel_rfl) (by first | exact (Below.refl _ _).drew | assumption) (fun hHeld => ?_)
              refine wpAnyH_take (i := 0) (v := ?_) rfl (by kernel_rfl) (by kernel_rfl) (by kernel_rfl) (fun _ _ _ h => h) (Or.inl ⟨by rfl, ?_⟩) (by assumption) ?_
              rotate_left
              · (intro wq hSw; (try dsimp only at hSw); (try simp only [List.getElem_toArray, List.getElem_cons_succ, List.getElem_cons_zero]); go_simp); try with_reducible rfl
              try simp only [List.getElem_toArray, List.getElem_cons_succ, List.getElem_cons_zero, Act.put, List.setIfInBounds_toArray, List.set_cons_zero, List.set_cons_succ]
              refine wpAnyH_take (i := 1) (v := ?_) rfl (by kernel_rfl) (by kernel_rfl) (by kernel_rfl) (fun _ _ _ h => h) (Or.inl ⟨by rfl, ?_⟩) (by assumption) ?_
              rotate_left
              · (intro wq hSw; (try dsimp only at hSw); (try simp only [List.getElem_toArray, List.getElem_cons_succ, List.getElem_cons_zero]); go_simp); try with_reducible rfl
              try simp only [List.getElem_toArray, List.getElem_cons_succ, List.getElem_cons_zero, Act.put, List.setIfInBounds_toArray, List.set_cons_zero, List.set_cons_succ]
              refine wpAnyH_take (i := 2) (v := ?_) rfl (by kernel_rfl) (by kernel_rfl) (by kernel_rfl) (fun _ _ _ h => h) (Or.inl ⟨by rfl, ?_⟩) (by assumption) ?_
              rotate_left
              · (intro wq hSw; (try dsimp only at hSw); (try simp only [List.getElem_toArray, List.getElem_cons_succ, List.getElem_cons_zero]); go_simp); try with_reducible rfl
              try simp only [List.getElem_toArray, List.getElem_cons_succ, List.getElem_cons_zero, Act.put, List.setIfInBounds_toArray, List.set_cons_zero, List.set_cons_succ]
              refine wpAnyH_take (i := 3) (v := ?_) rfl (by kernel_rfl) (by kernel_rfl) (by kernel_rfl) (fun _ _ _ h => h) (Or.inl ⟨by rfl, ?_⟩) (by assumption) ?_
              rotate_left
              · (intro wq hSw; (try dsimp only at hSw); (try simp only [List.getElem_toArray, List.getElem_cons_succ, List.getElem_cons_zero]); go_simp); try with_reducible rfl
              try simp only [List.getElem_toArray, List.getElem_cons_succ, List.getElem_cons_zero, Act.put, List.setIfInBounds_toArray, List.set_cons_zero, List.set_cons_succ]
              refine wpAnyH_take (i := 4) (v := ?_) rfl (by kernel_rfl) (by kernel_rfl) (by kernel_rfl) (fun _ _ _ h => h) (Or.inl ⟨by rfl, ?_⟩) (by assumption) ?_
              rotate_left
              · (intro wq hSw; (try dsimp only at hSw); (try simp only [List.getElem_toArray, List.getElem_cons_succ, List.getElem_cons_zero]); go_simp); try with_reducible rfl
              try simp only [List.getElem_toArray, List.getElem_cons_succ, List.getElem_cons_zero, Act.put, List.setIfInBounds_toArray, List.set_cons_zero, List.set_cons_succ]
              refine wpAnyH_take (i := 5) (v := ?_) rfl (by kernel_rfl) (by kernel_rfl) (by kernel_rfl) (fun _ _ _ h => h) (Or.inl ⟨by rfl, ?_⟩) (by assumption) ?_
              rotate_left
              · (intro wq hSw; (try dsimp only at hSw); (try simp only [List.getElem_toArray, List.getElem_cons_succ, List.getElem_cons_zero]); go_simp); try with_reducible rfl
              try simp only [List.getElem_toArray, List.getElem_cons_succ, List.getElem_cons_zero, Act.put, List.setIfInBounds_toArray, List.set_cons_zero, List.set_cons_succ]
              refine wpAnyH_take (i := 6) (v := ?_) rfl (by kernel_rfl) (by kernel_rfl) (by kernel_rfl) (fun _ _ _ h => h) (Or.inl ⟨by rfl, ?_⟩) (by assumption) ?_
              rotate_left
              · (intro wq hSw; (try dsimp only at hSw); (try simp only [List.getElem_toArray, List.getElem_cons_succ, List.getElem_cons_zero]); go_simp); try with_reducible rfl
              try simp only [List.getElem_toArray, List.getElem_cons_succ, List.getElem_cons_zero, Act.put, List.setIfInBounds_toArray, List.set_cons_zero, List.set_cons_succ]
              refine wpAnyH_take (i := 7) (v := ?_) rfl (by kernel_rfl) (by kernel_rfl) (by kernel_rfl) (fun _ _ _ h => h) (Or.inl ⟨by rfl, ?_⟩) (by assumption) ?_
              rotate_left
              · (intro wq hSw; (try dsimp only at hSw); (try simp only [List.getElem_toArray, List.getElem_cons_succ, List.getElem_cons_zero]); go_simp); try with_reducible rfl
              try simp only [List.getElem_toArray, List.getElem_cons_succ, List.getElem_cons_zero, Act.put, List.setIfInBounds_toArray, List.set_cons_zero, List.set_cons_succ]
              refine wpAnyH_take (i := 8) (v := ?_) rfl (by kernel_rfl) (by kernel_rfl) (by kernel_rfl) (fun _ _ _ h => h) (Or.inl ⟨by rfl, ?_⟩) (by assumption) ?_
              rotate_left
              · (intro wq hSw; (try dsimp only at hSw); (try simp only [List.getElem_toArray, List.getElem_cons_succ, List.getElem_cons_zero]); go_simp); try with_reducible rfl
              try simp only [List.getElem_toArray, List.getElem_cons_succ, List.getElem_cons_zero, Act.put, List.setIfInBounds_toArray, List.set_cons_zero, List.set_cons_succ]
              refine wpAnyH_take (i := 9) (v := ?_) rfl (by kernel_rfl) (by kernel_rfl) (by kernel_rfl) (fun _ _ _ h => h) (Or.inl ⟨by rfl, ?_⟩) (by assumption) ?_
              rotate_left
              · (intro wq hSw; (try dsimp only at hSw); (try simp only [List.getElem_toArray, List.getElem_cons_succ, List.getElem_cons_zero]); go_simp); try with_reducible rfl
              try simp only [List.getElem_toArray, List.getElem_cons_succ, List.getElem_cons_zero, Act.put, List.setIfInBounds_toArray, List.set_cons_zero, List.set_cons_succ]
              refine wpAnyH_take (i := 10) (v := ?_) rfl (by kernel_rfl) (by kernel_rfl) (by kernel_rfl) (fun _ _ _ h => h) (Or.inl ⟨by rfl, ?_⟩) (by assumption) ?_
              rotate_left
              · (intro wq hSw; (try dsimp only at hSw); (try simp only [List.getElem_toArray, List.getElem_cons_succ, List.getElem_cons_zero]); go_simp); try with_reducible rfl
              try simp only [List.getElem_toArray, List.getElem_cons_succ, List.getElem_cons_zero, Act.put, List.setIfInBounds_toArray, List.set_cons_zero, List.set_cons_succ]
              refine wpAnyH_take (i := 11) (v := ?_) rfl (by kernel_rfl) (by kernel_rfl) (by kernel_rfl) (fun _ _ _ h => h) (Or.inl ⟨by rfl, ?_⟩) (by assumption) ?_
              rotate_left
              · (intro wq hSw; (try dsimp only at hSw); (try simp only [List.getElem_toArray, List.getElem_cons_succ, List.getElem_cons_zero]); go_simp); try with_reducible rfl
              try simp only [List.getElem_toArray, List.getElem_cons_succ, List.getElem_cons_zero, Act.put, List.setIfInBounds_toArray, List.set_cons_zero, List.set_cons_succ]
              refine wpAnyH_take (i := 12) (v := ?_) rfl (by kernel_rfl) (by kernel_rfl) (by kernel_rfl) (fun _ _ _ h => h) (Or.inl ⟨by rfl, ?_⟩) (by assumption) ?_
              rotate_left
              · (intro wq hSw; (try dsimp only at hSw); (try simp only [List.getElem_toArray, List.getElem_cons_succ, List.getElem_cons_zero]); go_simp); try with_reducible rfl
              try simp only [List.getElem_toArray, List.getElem_cons_succ, List.getElem_cons_zero, Act.put, List.setIfInBounds_toArray, List.set_cons_zero, List.set_cons_succ]
              refine wpAnyH_ready (rs := [13]) (by kernel_rfl) (by simp) ?_
              refine AllReadyH.cons rfl (fun K hK => ?_) AllReadyH.nil
              try simp only [List.getElem_toArray, List.getElem_cons_succ, List.getElem_cons_zero]
              go_simp
              go_at_call 15
              refine (full_at _ _).mono ?_
              rintro e wz ⟨bz, oz, rfl, _, _, rz, tz⟩
              have tq := below_then tz (by assumption)
              have cz := conv_run (c := 64) rz (by omega)
              try (go_wp2_with fail)
              refine hK.out _ _ (by first | exact (Below.refl _ _).drew | assumption) (fun hHeld => ?_)
              clear hK K
              try simp only [List.getElem_toArray, List.getElem_cons_succ, List.getElem_cons_zero, Act.put, List.setIfInBounds_toArray, List.set_cons_zero, List.set_cons_succ]
              refine wpAnyH_ready (rs := [14]) (by kernel_rfl) (by simp) ?_
              refine AllReadyH.cons rfl (fun K hK => ?_) AllReadyH.nil
              try simp only [List.getElem_toArray, List.getElem_cons_succ, List.getElem_cons_zero]
              go_simp
              refine hK.out _ _ (by first | exact (Below.refl _ _).drew | assumption) (fun hHeld => ?_)
              clear hK K
              try simp only [List.getElem_toArray, List.getElem_cons_succ, List.getElem_cons_zero, Act.put, List.setIfInBounds_toArray, List.set_cons_zero, List.set_cons_succ]
              refine wpAnyH_take (i := 15) (v := ?_) rfl (by kernel_rfl) (by kernel_rfl) (by kernel_rfl) (fun _ _ _ h => h) (Or.inl ⟨by rfl, ?_⟩) (by assumption) ?_
              rotate_left
              · (intro wq hSw; (try dsimp only at hSw); (try simp only [List.getElem_toArray, List.getElem_cons_succ, List.getElem_cons_zero]); go_simp); try with_reducible rfl
              try simp only [List.getElem_toArray, List.getElem_cons_succ, List.getElem_cons_zero, Act.put, List.setIfInBounds_toArray, List.set_cons_zero, List.set_cons_succ]
              refine wpAnyH_take (i := 16) (v := ?_) rfl (by kernel_rfl) (by kernel_rfl) (by kernel_rfl) (fun _ _ _ h => h) (Or.inl ⟨by rfl, ?_⟩) (by assumption) ?_
              rotate_left
              · (intro wq hSw; (try dsimp only at hSw); (try simp only [List.getElem_toArray, List.getElem_cons_succ, List.getElem_cons_zero]); go_simp); try with_reducible rfl
              try simp only [List.getElem_toArray, List.getElem_cons_succ, List.getElem_cons_zero, Act.put, List.setIfInBounds_toArray, List.set_cons_zero, List.set_cons_succ]
              refine wpAnyH_done (by kernel_rfl) ?_ _
              go_wp2_with fail
              refine wp_region_held_drew (S := (fun w' => Below w7.heap.size w7 w')) (by kernel_rfl) (by first | assumption | exact tq.drew) (fun hHeld => ?_)
              refine wpAnyH_take (i := 0) (v := ?_) rfl (by kernel_rfl) (by kernel_rfl) (by kernel_rfl) (fun _ _ _ h => h) (Or.inl ⟨by rfl, ?_⟩) (by assumption) ?_
              rotate_left
              · (intro wq hSw; (try dsimp only at hSw); (try simp only [List.getElem_toArray, List.getElem_cons_succ, List.getElem_cons_zero]); go_simp); try with_reducible rfl
              try simp only [List.getElem_toArray, List.getElem_cons_succ, List.getElem_cons_zero, Act.put, List.setIfInBounds_toArray, List.set_cons_zero, List.set_cons_succ]
              refine wpAnyH_take (i := 1) (v := ?_) rfl (by kernel_rfl) (by kernel_rfl) (by kernel_rfl) (fun _ _ _ h => h) (Or.inl ⟨by rfl, ?_⟩) (by assumption) ?_
              rotate_left
              · (intro wq hSw; (try dsimp only at hSw); (try simp only [List.getElem_toArray, List.getElem_cons_succ, List.getElem_cons_zero]); go_simp); try with_reducible rfl
              try simp only [List.getElem_toArray, List.getElem_cons_succ, List.getElem_cons_zero, Act.put, List.setIfInBounds_toArray, List.set_cons_zero, List.set_cons_succ]
              refine wpAnyH_take (i := 2) (v := ?_) rfl (by kernel_rfl) (by kernel_rfl) (by kernel_rfl) (fun _ _ _ h => h) (Or.inl ⟨by rfl, ?_⟩) (by assumption) ?_
              rotate_left
              · (intro wq hSw; (try dsimp only at hSw); (try simp only [List.getElem_toArray, List.getElem_cons_succ, List.getElem_cons_zero]); go_simp); try with_reducible rfl
              try simp only [List.getElem_toArray, List.getElem_cons_succ, List.getElem_cons_zero, Act.put, List.setIfInBounds_toArray, List.set_cons_zero, List.set_cons_succ]
              refine wpAnyH_take (i := 3) (v := ?_) rfl (by kernel_rfl) (by kernel_rfl) (by kernel_rfl) (fun _ _ _ h => h) (Or.inl ⟨by rfl, ?_⟩) (by assumption) ?_
              rotate_left
              · (intro wq hSw; (try dsimp only at hSw); (try simp only [List.getElem_toArray, List.getElem_cons_succ, List.getElem_cons_zero]); go_simp); try with_reducible rfl
              try simp only [List.getElem_toArray, List.getElem_cons_succ, List.getElem_cons_zero, Act.put, List.setIfInBounds_toArray, List.set_cons_zero, List.set_cons_succ]
              refine wpAnyH_take (i := 4) (v := ?_) rfl (by kernel_rfl) (by kernel_rfl) (by kernel_rfl) (fun _ _ _ h => h) (Or.inl ⟨by rfl, ?_⟩) (by assumption) ?_
              rotate_left
              · (intro wq hSw; (try dsimp only at hSw); (try simp only [List.getElem_toArray, List.getElem_cons_succ, List.getElem_cons_zero]); go_simp); try with_reducible rfl
              try simp only [List.getElem_toArray, List.getElem_cons_succ, List.getElem_cons_zero, Act.put, List.setIfInBounds_toArray, List.set_cons_zero, List.set_cons_succ]
              refine wpAnyH_take (i := 5) (v := ?_) rfl (by kernel_rfl) (by kernel_rfl) (by kernel_rfl) (fun _ _ _ h => h) (Or.inl ⟨by rfl, ?_⟩) (by assumption) ?_
              rotate_left
              · (intro wq hSw; (try dsimp only at hSw); (try simp only [List.getElem_toArray, List.getElem_cons_succ, List.getElem_cons_zero]); go_simp); try with_reducible rfl
              try simp only [List.getElem_toArray, List.getElem_cons_succ, List.getElem_cons_zero, Act.put, List.setIfInBounds_toArray, List.set_cons_zero, List.set_cons_succ]
              refine wpAnyH_take (i := 6) (v := ?_) rfl (by kernel_rfl) (by kernel_rfl) (by kernel_rfl) (fun _ _ _ h => h) (Or.inl ⟨by rfl, ?_⟩) (by assumption) ?_
              rotate_left
              · (intro wq hSw; (try dsimp only at hSw); (try simp only [List.getElem_toArray, List.getElem_cons_succ, List.getElem_cons_zero]); go_simp); try with_reducible rfl
              try simp only [List.getElem_toArray, List.getElem_cons_succ, List.getElem_cons_zero, Act.put, List.setIfInBounds_toArray, List.set_cons_zero, List.set_cons_succ]
              refine wpAnyH_take (i := 7) (v := ?_) rfl (by kernel_rfl) (by kernel_rfl) (by kernel_rfl) (fun _ _ _ h => h) (Or.inl ⟨by rfl, ?_⟩) (by assumption) ?_
              rotate_left
              · (intro wq hSw; (try dsimp only at hSw); (try simp only [List.getElem_toArray, List.getElem_cons_succ, List.getElem_cons_zero]); go_simp); try with_reducible rfl
              try simp only [List.getElem_toArray, List.getElem_cons_succ, List.getElem_cons_zero, Act.put, List.setIfInBounds_toArray, List.set_cons_zero, List.set_cons_succ]
              refine wpAnyH_take (i := 8) (v := ?_) rfl (by kernel_rfl) (by kernel_rfl) (by kernel_rfl) (fun _ _ _ h => h) (Or.inl ⟨by rfl, ?_⟩) (by assumption) ?_
              rotate_left
              · (intro wq hSw; (try dsimp only at hSw); (try simp only [List.getElem_toArray, List.getElem_cons_succ, List.getElem_cons_zero]); go_simp); try with_reducible rfl
              try simp only [List.getElem_toArray, List.getElem_cons_succ, List.getElem_cons_zero, Act.put, List.setIfInBounds_toArray, List.set_cons_zero, List.set_cons_succ]
              refine wpAnyH_done (by kernel_rfl) ?_ _
              go_wp2_with fail
              obtain ⟨W0, hW0⟩ : ∃ W0 : World, wz.drew = W0 := ⟨_, rfl⟩
              have t0 : Below w7.heap.size w7 W0 := by rw [← hW0]; exact tq.drew
              rw [hW0]
              clear hW0 tz rz cz
              have hfirst : Hid (decide (x = hv) = true ↔ x = hv ∨ Said l n k x 0) := Lib.hid (by simp [Said])
              go_loopw [17, 18] (fun vok vi wr2 => ∃ (i2 : Nat) (ok : Bool), i2 ≤ i ∧ vi = .int .i64 i2 ∧ vok = .bool ok ∧ Hid (ok = true ↔ x = hv ∨ Said l n k x i2) ∧ Below w7.heap.size w7 wr2) (fun vok vi _ => i - (intOf vi).toNat)
              case atStart => exact ⟨0, decide (x = hv), Nat.zero_le _, rfl, rfl, hfirst, t0⟩
              case round =>
                obtain ⟨i2, ok, hi2, rfl, rfl, hok, tb⟩ := hrel
                by_cases hlt2 : i2 < i
                · obtain ⟨b, o, a, z, rfl, hx, hcells⟩ := put_at R1.out hlt2
                  obtain ⟨v0, v1⟩ := hcells wr ((M7.out.later tb).own.below)
                  have v2 := v7 wr tb
                  have hbl : b < wr.heap.size := World.block_lt_of_cell? wr _ v0
                  have hbl7 : b7 < wr.heap.size := World.block_lt_of_cell? wr _ v2
                  obtain ⟨e0, e1⟩ := spot_eq a n (by omega)
                  have HS := Lib.hid (said_succ (k := k) (x := x) (n := n) hx)
                  obtain ⟨kk, hkk⟩ : ∃ kk, spotOf a n = kk := ⟨_, rfl⟩
                  rw [hkk] at e0 e1 HS
                  have hwr : IntKind.i64.wrap ((n : Int) - 1) = (n : Int) - 1 := by rw [IntKind.wrap_i64]; omega
                  have hi3 : (i2 : Int) < (i : Int) := by omega
                  have hi4 : (0 : Int) ≤ (i2 : Int) := Int.natCast_nonneg _
                  clear hcells hx hkk v7 v8 c7
                  go_wp2_with fail
                  cases ok
                  · by_cases hsp : kk = k
                    · subst hsp
                      by_cases hz : z = x
                      · subst hz
                        refine wp_region_later (by kernel_rfl) (by kernel_rfl) ?_
                        repeat (go_big_quiet_step (fail))
                        refine wpQuiet_nil ?_
                        rintro _ ⟨y, rfl⟩
                        have ty := below_then y.ok tb
                        go_wp2_with fail
                        exact ⟨⟨i2 + 1, true, by omega, by go_num, rfl, Lib.hid (by rw [HS.out]; simp), ty⟩, by simp [intOf]; omega⟩
                      · have hzf : (z == x) = false := by simpa using hz
                        refine wp_region_later (by kernel_rfl) (by kernel_rfl) ?_
                        repeat (go_big_quiet_step (fail))
                        refine wpQuiet_nil ?_
                        rintro _ ⟨y, rfl⟩
                        have ty := below_then y.ok tb
                        go_wp2_with fail
                        exact ⟨⟨i2 + 1, false, by omega, by go_num, rfl, Lib.hid (by rw [HS.out]; have := hok.out; simp_all), ty⟩, by simp [intOf]; omega⟩
                    · have hspf : ((kk : Int) == (k : Int)) = false := by simp; omega
                      have hspg : ¬ (kk : Int) = (k : Int) := by omega
                      refine wp_region_later (by kernel_rfl) (by kernel_rfl) ?_
                      repeat (go_big_quiet_step (fail))
                      refine wpQuiet_nil ?_
                      rintro _ ⟨y, rfl⟩
                      have ty := below_then y.ok tb
                      go_wp2_with fail
                      exact ⟨⟨i2 + 1, false, by omega, by go_num, rfl, Lib.hid (by rw [HS.out]; have := hok.out; simp_all), ty⟩, by simp [intOf]; omega⟩
                  · skip
                    refine wp_region_later (by kernel_rfl) (by kernel_rfl) ?_
                    repeat (go_big_quiet_step (fail))
                    refine wpQuiet_nil ?_
                    rintro _ ⟨y, rfl⟩
                    have ty := below_then y.ok tb
                    go_wp2_with fail
                    exact ⟨⟨i2 + 1, true, by omega, by go_num, rfl, Lib.hid (by rw [HS.out]; have := hok.out; simp_all; rcases this with h | h; exact .inl h; exact .inr (.inl h)), ty⟩, by simp [intOf]; omega⟩
                · obtain rfl : i2 = i := by omega
                  have hokt : ok = true := hok.out.2 (by
                    rcases HXO.out with h | h
                    · exact .inl (by injection h with h; exact h.symm)
                    · rw [hll] at h; exact .inr h)
                  subst hokt
                  clear hok
                  go_wp2_with fail
                  exact ⟨⟨k + 1, by omega, by go_num, Lib.hid (M7.out.later tb)⟩, by simp [intOf]; omega⟩
            · obtain rfl : k = n := by omega
              obtain ⟨xa, xb, xc, xd, xe, xf, xg, HA⟩ := M.out.drv.box
              rw [HW6.out] at HA
              go_wp2_with fail
              refine (waits_any HA).mono ?_
              rintro e w8 ⟨rfl, t8⟩
              go_wp2_with fail
              refine (stores_any w8).mono ?_
              rintro e w9 ⟨rfl, t9⟩
              go_wp2_with fail
              go_ret
              exact ⟨rfl, (M.out.own.later t8).below.trans (t9.mono (M.out.own.later t8).below.size)⟩

theorem crashes_any (n : Int) (A0 A1 A2 : Option Addr) (m0 c0 m1 c1 m2 c2 : Nat) (w : World) {first l : List (Int × Int)} {ks : List Bool}
    (R0 : Hid (RdL PutR 2 (fun _ => True) w A0 m0 first)) (R1 : Hid (RdL PutR 2 (fun _ => True) w A1 m1 l)) (R2 : Hid (RdL BoolR 1 (fun _ => True) w A2 m2 ks)) :
    Calls Try.prog 4 #[.int .i64 n, .slice A0 m0 c0, .slice A1 m1 c1, .slice A2 m2 c2] w fun e w' => e = .returned (.bool true) ∧ Below w.heap.size w w' := by
  by_cases h : 1 ≤ n ∧ n ≤ 20 ∧ m0 ≤ 100 ∧ m1 ≤ 100 ∧ m2 ≤ 200
  · obtain ⟨k, rfl⟩ : ∃ k : Nat, n = k := ⟨n.toNat, by omega⟩
    exact crashes_good k A0 A1 A2 m0 c0 m1 c1 m2 c2 w (by omega) (by omega) h.2.2.1 h.2.2.2.1 h.2.2.2.2 R0 R1 R2
  · exact crashes_bad n A0 A1 A2 m0 c0 m1 c1 m2 c2 w h
end Go.Proofs.Ytnceaimhhfjmdaa
