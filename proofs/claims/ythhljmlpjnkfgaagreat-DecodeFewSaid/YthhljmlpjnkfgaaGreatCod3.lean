/-
  A coder is made.
-/
import Derived.Test.YthhljmlpjnkfgaaGreatCod2
set_option linter.unusedSimpArgs false
set_option linter.unusedVariables false
namespace Go.Proofs.YthhljmlpjnkfgaaGreat
open Go.RowKit Go.Cib
attribute [local go_sem] cell_set Later.cell Later.frozen Grw.cell Grw.frozen

theorem risF_next {a b i : Nat} (h : a + i < b) : risF a (a + (i + 1)) = risF a (a + i) ++ [a + i] := by
  unfold risF
  rw [show a + (i + 1) - a = i + 1 by omega, show a + i - a = i by omega, List.range_succ, List.map_append]; rfl
set_option maxRecDepth 100000 in
set_option maxHeartbeats 4000000 in
theorem rising_any {w : World} {a b : Nat} (hab : a ≤ b) (hb : b ≤ 255) :
    Calls Tryz.prog 28 #[.int .i64 (a : Int), .int .i64 (b : Int)] w fun e w' => ∃ A c, e = .returned (.slice A (b - a) c) ∧ b - a ≤ c ∧ RdL ByR 1 (fun j => w.heap.size ≤ j) w' A (b - a) (risF a b) ∧ Below w.heap.size w w' := by
  have q0 : (0 : Int) ≤ (a : Int) := Int.natCast_nonneg _
  have q1 : (b : Int) ≤ 255 := by omega
  have q2 : (a : Int) ≤ (b : Int) := by omega
  have q3 : IntKind.i64.wrap ((b : Int) - (a : Int)) = ((b - a : Nat) : Int) := by rw [IntKind.wrap_i64]; omega
  have q4 : (b : Int) - (a : Int) = ((b - a : Nat) : Int) := by omega
  have q5 : IntKind.i64.wrap ((b - a : Nat) : Int) = ((b - a : Nat) : Int) := by rw [IntKind.wrap_i64]; omega
  go_enter Tryz.func28, Tryz.ntmps28
  go_wp2_with (at_make; refine wpList_make0 ByR (fun _ => True) sl_by rfl rfl (base := w.heap.size) rfl rfl (b - a) (by omega) (by omega) (by unfold maxLen; omega) (by (first | (with_reducible exact Nat.le_refl _) | omega | (simp only [World.size_alloc, World.size_setCell, World.size_drew] <;> omega))) ?_; intro y hys hown; have hyb : Below w.heap.size w y.to := y.ok; have HO := Lib.hid hown; have HB := Lib.hid hyb; clear hown hyb hys)
  go_loopw [5, 6] (fun vs vi wr => ∃ (i : Nat) (A : Option Addr) (c : Nat), i ≤ b - a ∧ vi = .int .i64 ((a + i : Nat) : Int) ∧ vs = .slice A i c ∧ i ≤ c ∧ Hid (OwnL ByR 5 1 w.heap.size (fun _ => True) wr (.slice A i c) i (risF a (a + i))) ∧ Hid (Below w.heap.size w wr)) (fun _ vi _ => b - (intOf vi).toNat)
  case atStart => exact ⟨0, _, _, Nat.zero_le _, rfl, rfl, Nat.zero_le _, by rw [show risF a (a + 0) = [] by unfold risF; simp]; exact HO, HB⟩
  case round =>
    clear HO HB
    obtain ⟨i, A, c, hi, rfl, rfl, hc, HO, HB⟩ := hrel
    have p0 : (0 : Int) ≤ ((a + i : Nat) : Int) := Int.natCast_nonneg _
    by_cases hlt : i < b - a
    · have p1 : ((a + i : Nat) : Int) < (b : Int) := by omega
      have p2 : IntKind.u8.wrap ((a + i : Nat) : Int) = ((a + i : Nat) : Int) := by rw [IntKind.wrap_u8]; omega
      have p3 : (a : Int) + (i : Int) < (b : Int) := by omega
      have p4 : IntKind.u8.wrap ((a : Int) + (i : Int)) = (a : Int) + (i : Int) := by rw [IntKind.wrap_u8]; omega
      have hnx := risF_next (a := a) (b := b) (i := i) (by omega)
      have HN := Lib.hid hnx
      have hbz := HB.out.size
      clear hnx
      go_wp2_with (at_builtin; go_must (refine wpList_push1 ByR.stable ByR.one sl_by (by rfl) (by rfl) (base := w.heap.size) (S := fun _ => True) (cs := #[.int .u8 ((a + i : Nat) : Int)]) (y := a + i) (by rfl) (by rfl) HO.out (by rfl) ⟨by omega, rfl⟩ (by unfold maxLen; omega) (by omega) hbz ?_); intro A8 c8 u8 hc8 own9 hlt8 hb8 hat8; rw [← HN.out] at own9; have HO9 := Lib.hid own9; have HB9 := Lib.hid (HB.out.trans hb8); clear own9 hb8 hlt8 hat8)
      exact ⟨⟨i + 1, A8, c8, by omega, by go_num, rfl, hc8, HO9, HB9⟩, by simp [intOf]; omega⟩
    · have p1 : ¬ ((a + i : Nat) : Int) < (b : Int) := by omega
      have p3 : ¬ (a : Int) + (i : Int) < (b : Int) := by omega
      obtain rfl : i = b - a := by omega
      go_wp2_with fail
      go_ret
      obtain ⟨A', c', e, _, hr⟩ := HO.out.rd (S' := fun k => w.heap.size ≤ k) (fun _ hk => hk) (fun cs x hx => hx)
      injection e with e1 _ e2
      subst e1; subst e2
      rw [show a + (b - a) = b by omega] at hr
      exact ⟨A, c, rfl, by omega, hr, HB.out⟩
set_option maxRecDepth 100000 in
set_option maxHeartbeats 4000000 in
theorem new_bad {w : World} {f : Value} {k m : Int} (h : ¬ (1 ≤ k ∧ 1 ≤ m ∧ k ≤ 255 ∧ m ≤ 255 - k)) :
    Calls Tryz.prog 8 #[f, .int .i64 k, .int .i64 m] w fun e w' => e = .returned (.pointer none) ∧ w' = w := by
  go_enter Tryz.func8, Tryz.ntmps8
  by_cases h1 : k < 1
  · go_wp2_with fail
    go_ret
    exact ⟨rfl, rfl⟩
  · by_cases h2 : m < 1
    · go_wp2_with fail
      go_ret
      exact ⟨rfl, rfl⟩
    · by_cases h3 : k > 255
      · go_wp2_with fail
        go_ret
        exact ⟨rfl, rfl⟩
      · have h4 : m > 255 - k := by omega
        have h5 : IntKind.i64.wrap (255 - k) = 255 - k := by rw [IntKind.wrap_i64]; omega
        go_wp2_with fail
        go_ret
        exact ⟨rfl, rfl⟩
set_option maxRecDepth 100000 in
set_option maxHeartbeats 4000000 in
theorem new_any {w : World} {b k m : Nat} (F : FldNew w b) (h1 : 1 ≤ k) (h2 : 1 ≤ m) (hkm : k + m ≤ 255) :
    Calls Tryz.prog 8 #[.pointer (some ⟨b, 0, none⟩), .int .i64 (k : Int), .int .i64 (m : Int)] w fun e w' => ∃ cb, e = .returned (.pointer (some ⟨cb, 0, none⟩)) ∧ CodAt w' cb b k m ∧ Keep (· = b) w w' := by
  have q1 : ¬ (k : Int) < 1 := by omega
  have q2 : ¬ (m : Int) < 1 := by omega
  have q3 : ¬ (k : Int) > 255 := by omega
  have q4 : ¬ (m : Int) > 255 - (k : Int) := by omega
  have q5 : IntKind.i64.wrap (255 - (k : Int)) = 255 - (k : Int) := by rw [IntKind.wrap_i64]; omega
  have q6 : IntKind.i64.wrap ((k : Int) + (m : Int)) = ((k + m : Nat) : Int) := by rw [IntKind.wrap_i64]; omega
  have hbl : b < w.heap.size := by obtain ⟨cs, hb, _⟩ := F.ex; exact hb.lt
  have HF := Lib.hid F
  clear F
  have hri1 := fun w' => rising_any (w := w') (a := k) (b := k + m) (by omega) hkm
  have hri2 := fun w' => rising_any (w := w') (a := 0) (b := k) (by omega) (by omega)
  rw [show k + m - k = m by omega] at hri1
  rw [Nat.sub_zero] at hri2
  go_enter Tryz.func8, Tryz.ntmps8
  go_wp2_with fail
  refine (hri1 _).mono ?_
  rintro e w1 ⟨A1, c1, rfl, hc1, r1, t1⟩
  go_wp2_with fail
  refine (hri2 _).mono ?_
  rintro e w2 ⟨A2, c2, rfl, hc2, r2, t2⟩
  go_wp2_with fail
  have t12 := t1.trans (t2.mono t1.size)
  have hF2 : FldNew w2 b := by
    obtain ⟨cs, h5, h6⟩ := HF.out.ex
    exact ⟨cs, h5.below t12, h6⟩
  have r1' := r1.below ByR.stable t2
  have hsz := t1.size
  refine (cauchy_new (S := fun j => w.heap.size ≤ j) hF2 r1' (r2.weaken ByR.stable (fun j hj => Nat.le_trans hsz hj)) (by omega) h2 (by omega) h1 (by omega) hc1 hc2 (risF_nodup k m)).mono ?_
  rintro e w3 ⟨A, c, rfl, hc, hr, hF3, hk3⟩
  have HR3 := Lib.hid hr
  have HF3 := Lib.hid hF3
  have HK3 := Lib.hid ((Keep.of_below (F := (· = b)) t12).trans hk3 (fun _ h _ => h))
  clear hri1 hri2 r1 t1 r2 t2 t12 hF2 r1' hr hF3 hk3
  go_wp2_with fail
  go_ret
  have hal : Below w3.heap.size w3 ((w3.alloc (.cells #[.int .i64 (m : Int), .int .i64 (k : Int), .slice A (m * k) c] 55)).alloc (.cells #[.int .i64 (k : Int), .int .i64 (m : Int), .pointer (some ⟨b, 0, none⟩), .int .i64 (m : Int), .int .i64 (k : Int), .slice A (m * k) c] 62)) := (by repeat (first | (with_reducible exact Below.refl _ _) | (with_reducible assumption) | (with_reducible refine Below.drew ?_) | (with_reducible refine Below.setCell ?_ ?_ _) | (with_reducible refine Below.alloc ?_ ?_ _) | (with_reducible refine Below.later ?_ ?_ _) | (first | (with_reducible exact Nat.le_refl _) | omega | (simp only [World.size_alloc, World.size_setCell, World.size_drew] <;> omega))))
  have hbx := BoxAt.new (w3.alloc (.cells #[.int .i64 (m : Int), .int .i64 (k : Int), .slice A (m * k) c] 55)) #[.int .i64 (k : Int), .int .i64 (m : Int), .pointer (some ⟨b, 0, none⟩), .int .i64 (m : Int), .int .i64 (k : Int), .slice A (m * k) c] 62
  rw [World.size_alloc] at hbx
  exact ⟨w3.heap.size + 1, rfl, ⟨⟨A, c, hbx, hc, (HR3.out.below ByR.stable hal).weaken ByR.stable fun _ _ => trivial⟩, HF3.out.below hal, h1, h2, hkm⟩, (HK3.out.alloc _).alloc _⟩
end Go.Proofs.YthhljmlpjnkfgaaGreat
