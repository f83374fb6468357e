/-
  Fold: a row with a multiple of another one added: new.
-/
import Derived.Test.YthhljmlpjnkfgaaGreatFld2
import Derived.Test.YthhljmlpjnkfgaaGreatSlc
import Derived.Test.YthhljmlpjnkfgaaGreatOrd
set_option linter.unusedSimpArgs false
set_option linter.unusedVariables false
namespace Go.Proofs.YthhljmlpjnkfgaaGreat
open Go.RowKit Go.Cib
attribute [local go_sem] cell_set Later.cell Later.frozen Grw.cell Grw.frozen
theorem run_min_b (ts : Array TypeId) (t : TypeId) (x y : Int) (w : World) : (Builtin.min_ ts t #[.int .i64 x, .int .i64 y]).run Tryz.prog w = .ok (.int .i64 (min x y)) w := by
  rw [run_min_int2, show (if y < x then y else x) = min x y by omega]
attribute [local go_sem ↓] run_min_b

/-- A row of bytes of the call's own. -/
structure RowV (w : World) (base : Nat) (A : Option Addr) (n : Nat) (xs : List Nat) : Prop where
  len : xs.length = n
  byt : Byt xs
  row : 0 < n → ∃ g cur, A = some ⟨g, 0, none⟩ ∧ base ≤ g ∧ RowIn w g cur xs
theorem RowV.below {w w' : World} {base n : Nat} {A : Option Addr} {xs : List Nat} (h : RowV w base A n xs) (hb : Below w.heap.size w w') : RowV w' base A n xs := ⟨h.len, h.byt, fun hn => by
  obtain ⟨g, cur, h1, h2, h3⟩ := h.row hn
  exact ⟨g, cur, h1, h2, h3.below hb⟩⟩
theorem RowV.rd {w : World} {base n : Nat} {A : Option Addr} {xs : List Nat} (h : RowV w base A n xs) {S : Nat → Prop} (hS : ∀ k, base ≤ k → S k) : RdL ByR 1 S w A n xs := by
  rcases Nat.eq_zero_or_pos n with hn | hn
  · subst hn
    rw [List.length_eq_zero_iff.1 h.len]; exact RdL.nil
  · obtain ⟨g, cur, rfl, h2, h3⟩ := h.row hn
    have := h3.rd (S := S) (hS g h2)
    rwa [h.len] at this
theorem RowV.of_own {w : World} {E : TypeId} {base n c : Nat} {S : Nat → Prop} {A : Option Addr} {xs : List Nat} (h : OwnL ByR E 1 base S w (.slice A n c) n xs) : RowV w base A n xs where
  len := h.len
  byt := by
    obtain ⟨A', c', e, _, hr⟩ := h.rd (S' := fun k => base ≤ k) (fun _ hk => hk) (fun cs x hx => hx)
    exact by_byt hr
  row hn := by
    obtain ⟨g, cap, cur, e, h1, _, _, h2⟩ := RowIn.of_own h hn
    injection e with e1
    exact ⟨g, cur, e1, h1, h2⟩
theorem fd_take {c k : Nat} {xs ys : List Nat} (hk : k < xs.length) (hk2 : k < ys.length) :
    fd c (xs.take (k + 1)) ys = (fd c (xs.take k) ys).set k (gt ys k ^^^ gm c (gt xs k)) ∧ gt (fd c (xs.take k) ys) k = gt ys k := by
  have ht : ∀ j i, gt (xs.take j) i = if i < j then gt xs i else 0 := fun j i => by
    unfold gt
    rw [List.getD_eq_getElem?_getD, List.getElem?_take]
    split
    · rw [List.getD_eq_getElem?_getD]
    · rfl
  have hl : ∀ j, j ≤ k + 1 → (xs.take j).length ≤ ys.length := fun j hj => by rw [List.length_take]; omega
  refine ⟨gt_ext (by rw [fd_len, List.length_set, fd_len]) fun i hi => ?_, ?_⟩
  · rw [fd_len] at hi
    rw [fd_gt _ _ _ _ (hl _ (Nat.le_refl _)), gt_set _ _ _ (by rw [fd_len]; exact hi), ht]
    by_cases e : i = k
    · subst e
      rw [if_pos (by omega), if_pos rfl]
    · rw [if_neg e, fd_gt _ _ _ _ (hl _ (by omega)), ht]
      by_cases h : i < k
      · rw [if_pos (by omega), if_pos h]
      · rw [if_neg (by omega), if_neg h]
  · rw [fd_gt _ _ _ _ (hl _ (by omega)), ht, if_neg (by omega), gm_zero, Nat.xor_zero]
theorem fd_min {c : Nat} : ∀ (xs ys : List Nat), fd c (xs.take (min xs.length ys.length)) ys = fd c xs ys
  | [], _ => rfl
  | _ :: _, [] => rfl
  | x :: xs, y :: ys => by
    have := fd_min (c := c) xs ys
    simp only [List.length_cons, Nat.add_min_add_right, List.take_succ_cons]
    show _ :: fd c _ ys = _ :: fd c xs ys
    rw [this]

set_option maxRecDepth 100000 in
set_option maxHeartbeats 1600000 in
theorem fold_any {w : World} {b c n cp n2 cp2 : Nat} {S S2 : Nat → Prop} {A A2 : Option Addr} {xs ys : List Nat} (F : Fld w b) (hc : c < 256) (R : RdL ByR 1 S w A n xs) (hn : n ≤ 1000000) (hcp : n ≤ cp)
    (R2 : RdL ByR 1 S2 w A2 n2 ys) (hn2 : n2 ≤ 1000000) :
    Calls Tryz.prog 77 #[.pointer (some ⟨b, 0, none⟩), .int .u8 (c : Int), .slice A n cp, .slice A2 n2 cp2] w fun e w' => ∃ A' c', e = .returned (.slice A' n2 c') ∧ n2 ≤ c' ∧ RdL ByR 1 (fun k => w.heap.size ≤ k) w' A' n2 (fd c xs ys) ∧ Below w.heap.size w w' := by
  have hR := ready_any F
  have hlen := R.1
  have hlen2 := R2.1
  have HR := Lib.hid R
  have HR2 := Lib.hid R2
  have HF := Lib.hid F
  have q0 : (0 : Int) ≤ (n : Int) := Int.natCast_nonneg _
  have q1 : (n : Int) ≤ 1000000 := by omega
  have q2 : (0 : Int) ≤ (n2 : Int) := Int.natCast_nonneg _
  have q3 : (n2 : Int) ≤ 1000000 := by omega
  obtain ⟨m, hm⟩ : ∃ m, m = min n n2 := ⟨_, rfl⟩
  have e1 : min (n : Int) (n2 : Int) = (m : Int) := by omega
  have hpc := fun w => piece_pre sl_by (A := A) (N := n) (c := cp) (k := m) (by omega) w
  clear R F R2
  go_enter Tryz.func77, Tryz.ntmps77
  go_wp2_with (first | (go_at_call 68; refine hR.mono ?_; rintro e w' ⟨rfl, rfl⟩) | (at_builtin; refine wpList_appL ByR.stable ByR.one sl_by rfl (by exact rfl) (base := w'.heap.size) (S := fun _ => True) (n := 0) (v := .slice none 0 0) (xs := []) (by exact rfl) OwnL.nil_ (by exact rfl) HR2.out (fun _ _ h => h) (by unfold maxLen; omega) (by omega) (Nat.le_refl _) ?_; intro A3 c3 w3 hc3 hown3 hg3 hat; simp only [Nat.zero_add, List.nil_append] at hc3 hown3 ⊢))
  have V0 := Lib.hid (RowV.of_own hown3)
  have B0 := Lib.hid (show Below w'.heap.size w' w3 from ⟨hg3.os, hg3.tape, hg3.output, hg3.size, fun k hk => hg3.block k hk (by intro h; cases h)⟩)
  clear hown3 hg3 hat hR
  go_loopw [27] (fun vi wr => ∃ (k : Nat), k ≤ m ∧ vi = .int .i64 k ∧ Hid (RowV wr w'.heap.size A3 n2 (fd c (xs.take k) ys)) ∧ Hid (Below w'.heap.size w' wr)) (fun vi _ => m - (intOf vi).toNat)
  case atStart => exact ⟨0, Nat.zero_le _, rfl, by rw [List.take_zero]; exact V0, B0⟩
  case round =>
    obtain ⟨k, hk, rfl, RW, HB⟩ := hrel
    have p0 : (0 : Int) ≤ (k : Int) := Int.natCast_nonneg _
    by_cases hlt : k < m
    · have p1 : (k : Int) < (m : Int) := by omega
      have p2 : (k : Int) < (n2 : Int) := by omega
      have p9 : k < min n n2 := by omega
      have hkn : k < n := by omega
      have hkn2 : k < n2 := by omega
      obtain ⟨bb, o, rfl, _, hbb⟩ := HR.out.addr hkn
      obtain ⟨c1, x1⟩ := by_at HR.out hkn
      replace c1 := (HB.out.cell (p := ⟨bb, o + k, none⟩) hbb).trans c1
      obtain ⟨g, cur, rfl, hgb, RI⟩ := RW.out.row (by omega)
      obtain ⟨t1, t2⟩ := fd_take (c := c) (xs := xs) (ys := ys) (k := k) (by omega) (by omega)
      have hfl : (fd c (xs.take k) ys).length = n2 := by rw [fd_len, hlen2]
      have c0 := RI.cell (i := k) (by rw [hfl]; exact hkn2)
      rw [t2] at c0
      have f0 := RI.frozen k
      have y1 : gt ys k < 256 := gt_lt (by_byt HR2.out) k
      have HRI := Lib.hid RI
      have HT := Lib.hid t1
      have HL := Lib.hid hfl
      have HGB := Lib.hid hgb
      have hxb := xor_bits y1 (gm_lt (a := c) (b := gt xs k))
      have hmul := mul_any ((HF.out.below HB.out).keep (w' := wr.drew) rfl) hc x1
      clear t1 t2 hfl RI hgb hm e1 hkn
      go_wp2_with fail
      refine wp_region_L (S := fun w' => w'.cell? ⟨g, k, none⟩ = some (.int .u8 (gt ys k : Int)) ∧ w'.frozen? ⟨g, k, none⟩ = false) [12] (by kernel_rfl) (by first | exact ⟨c0, f0⟩ | exact ⟨c2, f2⟩) (fun hHeld => ?_)
      refine wpAnyL_take (i := 0) (v := ?_) rfl (by kernel_rfl) (by kernel_rfl) (by kernel_rfl) (by kernel_rfl) (fun _ _ _ h => h) (Or.inl ⟨by first | kernel_rfl | rfl, ?_⟩) (by assumption) ?_
      rotate_left
      · (intro wq0 hSw; (try dsimp only at hSw); (try simp (maxSteps := 2000000) only [List.getElem_toArray, List.getElem_cons_succ, List.getElem_cons_zero]); go_simp); try with_reducible rfl
      try simp (maxSteps := 2000000) only [List.getElem_toArray, List.getElem_cons_succ, List.getElem_cons_zero, Act.put, List.setIfInBounds_toArray, List.set_cons_zero, List.set_cons_succ]
      refine wpAnyL_take (i := 1) (v := ?_) rfl (by kernel_rfl) (by kernel_rfl) (by kernel_rfl) (by kernel_rfl) (fun _ _ _ h => h) (Or.inl ⟨by first | kernel_rfl | rfl, ?_⟩) (by assumption) ?_
      rotate_left
      · (intro wq0 hSw; (try dsimp only at hSw); (try simp (maxSteps := 2000000) only [List.getElem_toArray, List.getElem_cons_succ, List.getElem_cons_zero]); go_simp); try with_reducible rfl
      try simp (maxSteps := 2000000) only [List.getElem_toArray, List.getElem_cons_succ, List.getElem_cons_zero, Act.put, List.setIfInBounds_toArray, List.set_cons_zero, List.set_cons_succ]
      refine wpAnyL_take (i := 2) (v := ?_) rfl (by kernel_rfl) (by kernel_rfl) (by kernel_rfl) (by kernel_rfl) (fun _ _ _ h => h) (Or.inl ⟨by first | kernel_rfl | rfl, ?_⟩) (by assumption) ?_
      rotate_left
      · (intro wq0 hSw; (try dsimp only at hSw); (try simp (maxSteps := 2000000) only [List.getElem_toArray, List.getElem_cons_succ, List.getElem_cons_zero]); go_simp); try with_reducible rfl
      try simp (maxSteps := 2000000) only [List.getElem_toArray, List.getElem_cons_succ, List.getElem_cons_zero, Act.put, List.setIfInBounds_toArray, List.set_cons_zero, List.set_cons_succ]
      refine wpAnyL_take (i := 3) (v := ?_) rfl (by kernel_rfl) (by kernel_rfl) (by kernel_rfl) (by kernel_rfl) (fun _ _ _ h => h) (Or.inl ⟨by first | kernel_rfl | rfl, ?_⟩) (by assumption) ?_
      rotate_left
      · (intro wq0 hSw; (try dsimp only at hSw); (try simp (maxSteps := 2000000) only [List.getElem_toArray, List.getElem_cons_succ, List.getElem_cons_zero]); go_simp); try with_reducible rfl
      try simp (maxSteps := 2000000) only [List.getElem_toArray, List.getElem_cons_succ, List.getElem_cons_zero, Act.put, List.setIfInBounds_toArray, List.set_cons_zero, List.set_cons_succ]
      refine wpAnyL_take (i := 4) (v := ?_) rfl (by kernel_rfl) (by kernel_rfl) (by kernel_rfl) (by kernel_rfl) (fun _ _ _ h => h) (Or.inl ⟨by first | kernel_rfl | rfl, ?_⟩) (by assumption) ?_
      rotate_left
      · (intro wq0 hSw; (try dsimp only at hSw); (try simp (maxSteps := 2000000) only [List.getElem_toArray, List.getElem_cons_succ, List.getElem_cons_zero]); go_simp); try with_reducible rfl
      try simp (maxSteps := 2000000) only [List.getElem_toArray, List.getElem_cons_succ, List.getElem_cons_zero, Act.put, List.setIfInBounds_toArray, List.set_cons_zero, List.set_cons_succ]
      refine wpAnyL_take (i := 5) (v := ?_) rfl (by kernel_rfl) (by kernel_rfl) (by kernel_rfl) (by kernel_rfl) (fun _ _ _ h => h) (Or.inl ⟨by first | kernel_rfl | rfl, ?_⟩) (by assumption) ?_
      rotate_left
      · (intro wq0 hSw; (try dsimp only at hSw); (try simp (maxSteps := 2000000) only [List.getElem_toArray, List.getElem_cons_succ, List.getElem_cons_zero]); go_simp); try with_reducible rfl
      try simp (maxSteps := 2000000) only [List.getElem_toArray, List.getElem_cons_succ, List.getElem_cons_zero, Act.put, List.setIfInBounds_toArray, List.set_cons_zero, List.set_cons_succ]
      refine wpAnyL_take (i := 6) (v := ?_) rfl (by kernel_rfl) (by kernel_rfl) (by kernel_rfl) (by kernel_rfl) (fun _ _ _ h => h) (Or.inl ⟨by first | kernel_rfl | rfl, ?_⟩) (by assumption) ?_
      rotate_left
      · (intro wq0 hSw; (try dsimp only at hSw); (try simp (maxSteps := 2000000) only [List.getElem_toArray, List.getElem_cons_succ, List.getElem_cons_zero]); go_simp); try with_reducible rfl
      try simp (maxSteps := 2000000) only [List.getElem_toArray, List.getElem_cons_succ, List.getElem_cons_zero, Act.put, List.setIfInBounds_toArray, List.set_cons_zero, List.set_cons_succ]
      refine wpAnyL_take (i := 7) (v := ?_) rfl (by kernel_rfl) (by kernel_rfl) (by kernel_rfl) (by kernel_rfl) (fun _ _ _ h => h) (Or.inl ⟨by first | kernel_rfl | rfl, ?_⟩) (by assumption) ?_
      rotate_left
      · (intro wq0 hSw; (try dsimp only at hSw); (try simp (maxSteps := 2000000) only [List.getElem_toArray, List.getElem_cons_succ, List.getElem_cons_zero]); go_simp); try with_reducible rfl
      try simp (maxSteps := 2000000) only [List.getElem_toArray, List.getElem_cons_succ, List.getElem_cons_zero, Act.put, List.setIfInBounds_toArray, List.set_cons_zero, List.set_cons_succ]
      refine wpAnyL_take (i := 8) (v := ?_) rfl (by kernel_rfl) (by kernel_rfl) (by kernel_rfl) (by kernel_rfl) (fun _ _ _ h => h) (Or.inl ⟨by first | kernel_rfl | rfl, ?_⟩) (by assumption) ?_
      rotate_left
      · (intro wq0 hSw; (try dsimp only at hSw); (try simp (maxSteps := 2000000) only [List.getElem_toArray, List.getElem_cons_succ, List.getElem_cons_zero]); go_simp); try with_reducible rfl
      try simp (maxSteps := 2000000) only [List.getElem_toArray, List.getElem_cons_succ, List.getElem_cons_zero, Act.put, List.setIfInBounds_toArray, List.set_cons_zero, List.set_cons_succ]
      refine wpAnyL_ready (rs := [9]) (by kernel_rfl) (by simp) ?_
      refine AllReadyL.cons rfl (fun K hK => ?_) AllReadyL.nil
      try simp (maxSteps := 2000000) only [List.getElem_toArray, List.getElem_cons_succ, List.getElem_cons_zero]
      go_simp
      go_at_call 97
      refine hmul.mono ?_
      rintro e w2 ⟨rfl, hb2⟩
      have c2 := (hb2.cell (p := ⟨g, k, none⟩) HRI.out.box.lt).trans c0
      have f2 := (HRI.out.drew.below hb2).frozen k
      have HB2 := Lib.hid hb2
      clear hmul hb2
      try (go_wp2_with fail)
      refine hK.out _ _ (by first | exact ⟨c0, f0⟩ | exact ⟨c2, f2⟩) (fun hHeld => ?_)
      clear hK K
      try simp (maxSteps := 2000000) only [List.getElem_toArray, List.getElem_cons_succ, List.getElem_cons_zero, Act.put, List.setIfInBounds_toArray, List.set_cons_zero, List.set_cons_succ]
      refine wpAnyL_take (i := 10) (v := ?_) rfl (by kernel_rfl) (by kernel_rfl) (by kernel_rfl) (by kernel_rfl) (fun _ _ _ h => h) (Or.inl ⟨by first | kernel_rfl | rfl, ?_⟩) (by assumption) ?_
      rotate_left
      · (intro wq0 hSw; (try dsimp only at hSw); (try simp (maxSteps := 2000000) only [List.getElem_toArray, List.getElem_cons_succ, List.getElem_cons_zero]); go_simp); try with_reducible rfl
      try simp (maxSteps := 2000000) only [List.getElem_toArray, List.getElem_cons_succ, List.getElem_cons_zero, Act.put, List.setIfInBounds_toArray, List.set_cons_zero, List.set_cons_succ]
      refine wpAnyL_take (i := 11) (v := ?_) rfl (by kernel_rfl) (by kernel_rfl) (by kernel_rfl) (by kernel_rfl) (fun _ _ _ h => h) (Or.inl ⟨by first | kernel_rfl | rfl, ?_⟩) (by assumption) ?_
      rotate_left
      · (intro wq0 hSw; (try dsimp only at hSw); (try simp (maxSteps := 2000000) only [List.getElem_toArray, List.getElem_cons_succ, List.getElem_cons_zero]); go_simp); try with_reducible rfl
      try simp (maxSteps := 2000000) only [List.getElem_toArray, List.getElem_cons_succ, List.getElem_cons_zero, Act.put, List.setIfInBounds_toArray, List.set_cons_zero, List.set_cons_succ]
      refine wpAnyL_ready (rs := [12]) (by kernel_rfl) (by simp) ?_
      refine AllReadyL.last rfl (by decide) (fun K hK => ?_) AllReadyL.nil
      try simp (maxSteps := 2000000) only [List.getElem_toArray, List.getElem_cons_succ, List.getElem_cons_zero]
      go_simp
      refine hK.out _ _ ?_
      clear hK K
      try simp (maxSteps := 2000000) only [List.getElem_toArray, List.getElem_cons_succ, List.getElem_cons_zero, Act.put, List.setIfInBounds_toArray, List.set_cons_zero, List.set_cons_succ]
      refine wpAnyL_done (by kernel_rfl) ?_ _
      have r5 := (HRI.out.drew.below HB2.out).set (i := k) (x := gt ys k ^^^ gm c (gt xs k)) (by rw [HL.out]; exact hkn2) (xor_lt y1 gm_lt)
      rw [← HT.out] at r5
      have hb3 : Below w'.heap.size w' w2 := HB.out.drew.trans (HB2.out.mono HB.out.size)
      have b5 : Below w'.heap.size w' (w2.setCell ⟨g, k, none⟩ (.int .u8 ((gt ys k ^^^ gm c (gt xs k) : Nat) : Int))) := Below.setCell hb3 HGB.out _
      have hv : RowV (w2.setCell ⟨g, k, none⟩ (.int .u8 ((gt ys k ^^^ gm c (gt xs k) : Nat) : Int))) w'.heap.size (some ⟨g, 0, none⟩) n2 (fd c (xs.take (k + 1)) ys) := ⟨by rw [fd_len, hlen2], r5.byt, fun _ => ⟨g, _, rfl, HGB.out, r5⟩⟩
      have V5 := Lib.hid hv
      have B5 := Lib.hid b5
      clear hv b5 r5 hb3 c2 f2 c0 f0 hHeld
      go_wp2_with fail
      exact ⟨⟨k + 1, by omega, by go_num, V5, B5⟩, by simp [intOf]; omega⟩
    · have p9 : ¬ k < min n n2 := by omega
      have p1 : ¬ (k : Int) < (m : Int) := by omega
      obtain rfl : k = m := by omega
      rw [hm, ← hlen, ← hlen2, fd_min, hlen2] at RW
      clear hpc e1 hm
      go_wp2_with fail
      go_ret
      exact ⟨A3, c3, rfl, hc3, RW.out.rd (fun _ h => h), HB.out⟩
end Go.Proofs.YthhljmlpjnkfgaaGreat
