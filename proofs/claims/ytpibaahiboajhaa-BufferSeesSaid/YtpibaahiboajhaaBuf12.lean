/-
  A buffer's acts among the arguments: few, small, rises.
-/
import Derived.Test.YtpibaahiboajhaaBuf11
set_option linter.unusedSimpArgs false
set_option linter.unusedVariables false
namespace Go.Proofs.Ytpibaahiboajhaa
open Go.RowKit Go.Cib
attribute [local go_sem] cell_set Later.cell Later.frozen Grw.cell Grw.frozen
attribute [local go_sem ↓] run_min_b run_max_b

structure BAct where
  kind : Int
  key : ByteArray
  val : List Int
def BActR (S : Nat → Prop) (w : World) (cs : List Value) (x : BAct) : Prop := ∃ A m c, cs = [.int .i64 x.kind, .string x.key, .slice A m c] ∧ RdL U8R 1 S w A m x.val
theorem BActR.stable : Stable BActR := by
  rintro S S' w w' cs e ⟨A, m, c, rfl, h⟩ hk
  exact ⟨A, m, c, rfl, h.stable U8R.stable hk⟩
theorem bact_at {S : Nat → Prop} {w : World} {A : Option Addr} {m : Nat} {xs : List BAct} (h : RdL BActR 3 S w A m xs) {i : Nat} (hi : i < m) : ∃ b o x A' m' c', A = some ⟨b, o, none⟩ ∧ xs[i]? = some x ∧ b < w.heap.size ∧ S b ∧ RdL U8R 1 S w A' m' x.val ∧
    w.cell? ⟨b, o + i * 3, none⟩ = some (.int .i64 x.kind) ∧ w.cell? ⟨b, o + i * 3 + 1, none⟩ = some (.string x.key) ∧ w.cell? ⟨b, o + i * 3 + 2, none⟩ = some (.slice A' m' c') := by
  obtain ⟨b, o, rfl, hS, hlt⟩ := h.addr hi
  obtain ⟨hl, cs, h1, ⟨A', m', c', rfl, hr⟩, h3⟩ := h.at hi
  exact ⟨b, o, xs[i], A', m', c', rfl, by simp [hl], hlt, hS, hr, h3 0 _ rfl, h3 1 _ rfl, h3 2 _ rfl⟩
theorem upto {α : Type} {l : List α} {p : α → Prop} {n : Nat} (hn : l.length ≤ n) (h : ∀ j x, j < n → l[j]? = some x → p x) : ∀ x ∈ l, p x := by
  intro x hx
  obtain ⟨j, hj, rfl⟩ := List.getElem_of_mem hx
  exact h j _ (by omega) (List.getElem?_eq_getElem hj)

def FewB (m : Nat) (xs : List BAct) (e : Ending) : Prop := ∃ r : Bool, e = .returned (.bool r) ∧ (r = true → m ≤ 60 ∧ ∀ x ∈ xs, x.val.length ≤ 9000)
set_option maxRecDepth 100000 in
set_option maxHeartbeats 4000000 in
theorem fewB_any {S : Nat → Prop} {w : World} {A : Option Addr} {m c : Nat} {xs : List BAct} (R : Hid (RdL BActR 3 S w A m xs)) :
    Calls Try.prog 47 #[.slice A m c] w fun e w' => FewB m xs e ∧ Below w.heap.size w w' := by
  have hlen : xs.length = m := R.out.1
  go_enter Try.func47, Try.ntmps47
  go_wp2_with fail
  go_loopw [3, 4] (fun vl vi wr => ∃ (i : Nat) (L : Int), i ≤ m ∧ i ≤ 100 ∧ vl = .int .i64 L ∧ vi = .int .i64 i ∧ Hid (9000 - 20000 * (i : Int) ≤ L ∧ L ≤ 9000) ∧ Hid (∀ j x, j < i → xs[j]? = some x → L ≤ 9000 - min (x.val.length : Int) 9999) ∧ Hid (Below w.heap.size w wr)) (fun _ vi _ => 100 - (intOf vi).toNat)
  case atStart => exact ⟨0, 9000, Nat.zero_le _, by omega, rfl, rfl, Lib.hid (by omega), Lib.hid (fun j x hj => absurd hj (by omega)), Lib.hid (Below.refl _ _)⟩
  case round =>
    obtain ⟨wq, rfl⟩ : ∃ wq, wq = wr := ⟨_, rfl⟩
    obtain ⟨i, L, hi, h100, rfl, rfl, HL, HF, HT⟩ := hrel
    have q2 : (0 : Int) ≤ (i : Int) := Int.natCast_nonneg _
    by_cases hlt : i < m ∧ i < 100
    · have q1 : (i : Int) < (m : Int) := by omega
      have q3 : (i : Int) < 100 := by omega
      obtain ⟨b, o, x, VA, vm, vc, rfl, hx, hb, _, hr, d0, d1, d2⟩ := bact_at (R.out.below BActR.stable HT.out) hlt.1
      have u1 := fun w' (h : Below wq.heap.size wq w') => (h.cell (p := ⟨b, o + i * 3 + 1, none⟩) hb).trans d1
      have u2 := fun w' (h : Below wq.heap.size wq w') => (h.cell (p := ⟨b, o + i * 3 + 2, none⟩) hb).trans d2
      have hvl : x.val.length = vm := hr.1
      obtain ⟨k1, hk1⟩ : ∃ k, min (vm : Int) 9999 = k := ⟨_, rfl⟩
      obtain ⟨k2, hk2⟩ : ∃ k, min (x.key.size : Int) 9999 = k := ⟨_, rfl⟩
      have r1 : 0 ≤ k1 ∧ k1 ≤ 9999 := by omega
      have r2 : 0 ≤ k2 ∧ k2 ≤ 9999 := by omega
      have hL := HL.out
      have w1 : IntKind.i64.wrap (L - k1) = L - k1 := by rw [IntKind.wrap_i64]; omega
      have w2 : IntKind.i64.wrap (L - k1 - k2) = L - k1 - k2 := by rw [IntKind.wrap_i64]; omega
      have HF2 : Hid (∀ j y, j < i + 1 → xs[j]? = some y → L - k1 - k2 ≤ 9000 - min (y.val.length : Int) 9999) := Lib.hid (fun j y hj hy => by
        by_cases hji : j = i
        · subst hji
          rw [hx] at hy
          injection hy with hy
          subst hy
          rw [hvl, hk1]; omega
        · have := HF.out j y (by omega) hy; omega)
      have HL2 : Hid (9000 - 20000 * ((i + 1 : Nat) : Int) ≤ L - k1 - k2 ∧ L - k1 - k2 ≤ 9000) := Lib.hid (by omega)
      clear hL hx hr hvl d0 d1 d2 r1 r2 HL HF
      go_wp2_with fail
      refine wp_region_held_drew (S := fun w' => Below wq.heap.size wq w') (by kernel_rfl) (by first | assumption | exact Below.refl _ _ | exact (Below.refl _ _).drew | exact (by repeat (first | (with_reducible exact Below.refl _ _) | (with_reducible assumption) | (with_reducible refine Below.drew ?_) | (with_reducible refine Below.setCell ?_ ?_ _) | (with_reducible refine Below.alloc ?_ ?_ _) | (with_reducible refine Below.later ?_ ?_ _) | (first | (with_reducible exact Nat.le_refl _) | omega | (simp only [World.size_alloc, World.size_setCell, World.size_drew] <;> omega))))) (fun hHeld => ?_)
      refine wpAnyH_take (i := 0) (v := ?_) rfl (by kernel_rfl) (by kernel_rfl) (by kernel_rfl) (fun _ _ _ h => h) (Or.inl ⟨by first | kernel_rfl | rfl, ?_⟩) (by assumption) ?_
      rotate_left
      · (intro wq hSw; (try dsimp only at hSw); (try simp (maxSteps := 2000000) only [List.getElem_toArray, List.getElem_cons_succ, List.getElem_cons_zero]); go_simp); try with_reducible rfl
      try simp (maxSteps := 2000000) only [List.getElem_toArray, List.getElem_cons_succ, List.getElem_cons_zero, Act.put, List.setIfInBounds_toArray, List.set_cons_zero, List.set_cons_succ]
      refine wpAnyH_take (i := 1) (v := ?_) rfl (by kernel_rfl) (by kernel_rfl) (by kernel_rfl) (fun _ _ _ h => h) (Or.inl ⟨by first | kernel_rfl | rfl, ?_⟩) (by assumption) ?_
      rotate_left
      · (intro wq hSw; (try dsimp only at hSw); (try simp (maxSteps := 2000000) only [List.getElem_toArray, List.getElem_cons_succ, List.getElem_cons_zero]); go_simp); try with_reducible rfl
      try simp (maxSteps := 2000000) only [List.getElem_toArray, List.getElem_cons_succ, List.getElem_cons_zero, Act.put, List.setIfInBounds_toArray, List.set_cons_zero, List.set_cons_succ]
      refine wpAnyH_take (i := 2) (v := ?_) rfl (by kernel_rfl) (by kernel_rfl) (by kernel_rfl) (fun _ _ _ h => h) (Or.inl ⟨by first | kernel_rfl | rfl, ?_⟩) (by assumption) ?_
      rotate_left
      · (intro wq hSw; (try dsimp only at hSw); (try simp (maxSteps := 2000000) only [List.getElem_toArray, List.getElem_cons_succ, List.getElem_cons_zero]); go_simp); try with_reducible rfl
      try simp (maxSteps := 2000000) only [List.getElem_toArray, List.getElem_cons_succ, List.getElem_cons_zero, Act.put, List.setIfInBounds_toArray, List.set_cons_zero, List.set_cons_succ]
      refine wpAnyH_take (i := 3) (v := ?_) rfl (by kernel_rfl) (by kernel_rfl) (by kernel_rfl) (fun _ _ _ h => h) (Or.inl ⟨by first | kernel_rfl | rfl, ?_⟩) (by assumption) ?_
      rotate_left
      · (intro wq hSw; (try dsimp only at hSw); (try simp (maxSteps := 2000000) only [List.getElem_toArray, List.getElem_cons_succ, List.getElem_cons_zero]); go_simp); try with_reducible rfl
      try simp (maxSteps := 2000000) only [List.getElem_toArray, List.getElem_cons_succ, List.getElem_cons_zero, Act.put, List.setIfInBounds_toArray, List.set_cons_zero, List.set_cons_succ]
      refine wpAnyH_take (i := 4) (v := ?_) rfl (by kernel_rfl) (by kernel_rfl) (by kernel_rfl) (fun _ _ _ h => h) (Or.inl ⟨by first | kernel_rfl | rfl, ?_⟩) (by assumption) ?_
      rotate_left
      · (intro wq hSw; (try dsimp only at hSw); (try simp (maxSteps := 2000000) only [List.getElem_toArray, List.getElem_cons_succ, List.getElem_cons_zero]); go_simp); try with_reducible rfl
      try simp (maxSteps := 2000000) only [List.getElem_toArray, List.getElem_cons_succ, List.getElem_cons_zero, Act.put, List.setIfInBounds_toArray, List.set_cons_zero, List.set_cons_succ]
      refine wpAnyH_take (i := 5) (v := ?_) rfl (by kernel_rfl) (by kernel_rfl) (by kernel_rfl) (fun _ _ _ h => h) (Or.inl ⟨by first | kernel_rfl | rfl, ?_⟩) (by assumption) ?_
      rotate_left
      · (intro wq hSw; (try dsimp only at hSw); (try simp (maxSteps := 2000000) only [List.getElem_toArray, List.getElem_cons_succ, List.getElem_cons_zero]); go_simp); try with_reducible rfl
      try simp (maxSteps := 2000000) only [List.getElem_toArray, List.getElem_cons_succ, List.getElem_cons_zero, Act.put, List.setIfInBounds_toArray, List.set_cons_zero, List.set_cons_succ]
      refine wpAnyH_take (i := 6) (v := ?_) rfl (by kernel_rfl) (by kernel_rfl) (by kernel_rfl) (fun _ _ _ h => h) (Or.inl ⟨by first | kernel_rfl | rfl, ?_⟩) (by assumption) ?_
      rotate_left
      · (intro wq hSw; (try dsimp only at hSw); (try simp (maxSteps := 2000000) only [List.getElem_toArray, List.getElem_cons_succ, List.getElem_cons_zero]); go_simp); try with_reducible rfl
      try simp (maxSteps := 2000000) only [List.getElem_toArray, List.getElem_cons_succ, List.getElem_cons_zero, Act.put, List.setIfInBounds_toArray, List.set_cons_zero, List.set_cons_succ]
      refine wpAnyH_take (i := 7) (v := ?_) rfl (by kernel_rfl) (by kernel_rfl) (by kernel_rfl) (fun _ _ _ h => h) (Or.inl ⟨by first | kernel_rfl | rfl, ?_⟩) (by assumption) ?_
      rotate_left
      · (intro wq hSw; (try dsimp only at hSw); (try simp (maxSteps := 2000000) only [List.getElem_toArray, List.getElem_cons_succ, List.getElem_cons_zero]); go_simp); try with_reducible rfl
      try simp (maxSteps := 2000000) only [List.getElem_toArray, List.getElem_cons_succ, List.getElem_cons_zero, Act.put, List.setIfInBounds_toArray, List.set_cons_zero, List.set_cons_succ]
      refine wpAnyH_take (i := 8) (v := ?_) rfl (by kernel_rfl) (by kernel_rfl) (by kernel_rfl) (fun _ _ _ h => h) (Or.inl ⟨by first | kernel_rfl | rfl, ?_⟩) (by assumption) ?_
      rotate_left
      · (intro wq hSw; (try dsimp only at hSw); (try simp (maxSteps := 2000000) only [List.getElem_toArray, List.getElem_cons_succ, List.getElem_cons_zero]); go_simp); try with_reducible rfl
      try simp (maxSteps := 2000000) only [List.getElem_toArray, List.getElem_cons_succ, List.getElem_cons_zero, Act.put, List.setIfInBounds_toArray, List.set_cons_zero, List.set_cons_succ]
      refine wpAnyH_take (i := 9) (v := ?_) rfl (by kernel_rfl) (by kernel_rfl) (by kernel_rfl) (fun _ _ _ h => h) (Or.inl ⟨by first | kernel_rfl | rfl, ?_⟩) (by assumption) ?_
      rotate_left
      · (intro wq hSw; (try dsimp only at hSw); (try simp (maxSteps := 2000000) only [List.getElem_toArray, List.getElem_cons_succ, List.getElem_cons_zero]); go_simp); try with_reducible rfl
      try simp (maxSteps := 2000000) only [List.getElem_toArray, List.getElem_cons_succ, List.getElem_cons_zero, Act.put, List.setIfInBounds_toArray, List.set_cons_zero, List.set_cons_succ]
      refine wpAnyH_take (i := 10) (v := ?_) rfl (by kernel_rfl) (by kernel_rfl) (by kernel_rfl) (fun _ _ _ h => h) (Or.inl ⟨by first | kernel_rfl | rfl, ?_⟩) (by assumption) ?_
      rotate_left
      · (intro wq hSw; (try dsimp only at hSw); (try simp (maxSteps := 2000000) only [List.getElem_toArray, List.getElem_cons_succ, List.getElem_cons_zero]); go_simp); try with_reducible rfl
      try simp (maxSteps := 2000000) only [List.getElem_toArray, List.getElem_cons_succ, List.getElem_cons_zero, Act.put, List.setIfInBounds_toArray, List.set_cons_zero, List.set_cons_succ]
      refine wpAnyH_take (i := 11) (v := ?_) rfl (by kernel_rfl) (by kernel_rfl) (by kernel_rfl) (fun _ _ _ h => h) (Or.inl ⟨by first | kernel_rfl | rfl, ?_⟩) (by assumption) ?_
      rotate_left
      · (intro wq hSw; (try dsimp only at hSw); (try simp (maxSteps := 2000000) only [List.getElem_toArray, List.getElem_cons_succ, List.getElem_cons_zero]); go_simp); try with_reducible rfl
      try simp (maxSteps := 2000000) only [List.getElem_toArray, List.getElem_cons_succ, List.getElem_cons_zero, Act.put, List.setIfInBounds_toArray, List.set_cons_zero, List.set_cons_succ]
      refine wpAnyH_take (i := 12) (v := ?_) rfl (by kernel_rfl) (by kernel_rfl) (by kernel_rfl) (fun _ _ _ h => h) (Or.inl ⟨by first | kernel_rfl | rfl, ?_⟩) (by assumption) ?_
      rotate_left
      · (intro wq hSw; (try dsimp only at hSw); (try simp (maxSteps := 2000000) only [List.getElem_toArray, List.getElem_cons_succ, List.getElem_cons_zero]); go_simp); try with_reducible rfl
      try simp (maxSteps := 2000000) only [List.getElem_toArray, List.getElem_cons_succ, List.getElem_cons_zero, Act.put, List.setIfInBounds_toArray, List.set_cons_zero, List.set_cons_succ]
      refine wpAnyH_take (i := 13) (v := ?_) rfl (by kernel_rfl) (by kernel_rfl) (by kernel_rfl) (fun _ _ _ h => h) (Or.inl ⟨by first | kernel_rfl | rfl, ?_⟩) (by assumption) ?_
      rotate_left
      · (intro wq hSw; (try dsimp only at hSw); (try simp (maxSteps := 2000000) only [List.getElem_toArray, List.getElem_cons_succ, List.getElem_cons_zero]); go_simp); try with_reducible rfl
      try simp (maxSteps := 2000000) only [List.getElem_toArray, List.getElem_cons_succ, List.getElem_cons_zero, Act.put, List.setIfInBounds_toArray, List.set_cons_zero, List.set_cons_succ]
      refine wpAnyH_take (i := 14) (v := ?_) rfl (by kernel_rfl) (by kernel_rfl) (by kernel_rfl) (fun _ _ _ h => h) (Or.inl ⟨by first | kernel_rfl | rfl, ?_⟩) (by assumption) ?_
      rotate_left
      · (intro wq hSw; (try dsimp only at hSw); (try simp (maxSteps := 2000000) only [List.getElem_toArray, List.getElem_cons_succ, List.getElem_cons_zero]); go_simp); try with_reducible rfl
      try simp (maxSteps := 2000000) only [List.getElem_toArray, List.getElem_cons_succ, List.getElem_cons_zero, Act.put, List.setIfInBounds_toArray, List.set_cons_zero, List.set_cons_succ]
      refine wpAnyH_take (i := 15) (v := ?_) rfl (by kernel_rfl) (by kernel_rfl) (by kernel_rfl) (fun _ _ _ h => h) (Or.inl ⟨by first | kernel_rfl | rfl, ?_⟩) (by assumption) ?_
      rotate_left
      · (intro wq hSw; (try dsimp only at hSw); (try simp (maxSteps := 2000000) only [List.getElem_toArray, List.getElem_cons_succ, List.getElem_cons_zero]); go_simp); try with_reducible rfl
      try simp (maxSteps := 2000000) only [List.getElem_toArray, List.getElem_cons_succ, List.getElem_cons_zero, Act.put, List.setIfInBounds_toArray, List.set_cons_zero, List.set_cons_succ]
      refine wpAnyH_take (i := 16) (v := ?_) rfl (by kernel_rfl) (by kernel_rfl) (by kernel_rfl) (fun _ _ _ h => h) (Or.inl ⟨by first | kernel_rfl | rfl, ?_⟩) (by assumption) ?_
      rotate_left
      · (intro wq hSw; (try dsimp only at hSw); (try simp (maxSteps := 2000000) only [List.getElem_toArray, List.getElem_cons_succ, List.getElem_cons_zero]); go_simp); try with_reducible rfl
      try simp (maxSteps := 2000000) only [List.getElem_toArray, List.getElem_cons_succ, List.getElem_cons_zero, Act.put, List.setIfInBounds_toArray, List.set_cons_zero, List.set_cons_succ]
      refine wpAnyH_take (i := 17) (v := ?_) rfl (by kernel_rfl) (by kernel_rfl) (by kernel_rfl) (fun _ _ _ h => h) (Or.inl ⟨by first | kernel_rfl | rfl, ?_⟩) (by assumption) ?_
      rotate_left
      · (intro wq hSw; (try dsimp only at hSw); (try simp (maxSteps := 2000000) only [List.getElem_toArray, List.getElem_cons_succ, List.getElem_cons_zero]); go_simp); try with_reducible rfl
      try simp (maxSteps := 2000000) only [List.getElem_toArray, List.getElem_cons_succ, List.getElem_cons_zero, Act.put, List.setIfInBounds_toArray, List.set_cons_zero, List.set_cons_succ]
      refine wpAnyH_done (by kernel_rfl) ?_ _
      go_wp2_with fail
      exact ⟨⟨i + 1, L - k1 - k2, by omega, by omega, rfl, by go_num, HL2, HF2, Lib.hid HT.out.drew⟩, by simp [intOf]; omega⟩
    · have hL := HL.out
      have HE : Hid (decide (m ≤ 60) = true → 0 ≤ L → m ≤ 60 ∧ ∀ x ∈ xs, x.val.length ≤ 9000) := Lib.hid (fun h1 h2 => by
        have h1 := of_decide_eq_true h1
        have him : i = m := by omega
        subst him
        refine ⟨h1, upto (n := i) (by omega) (fun j y hj hy => ?_)⟩
        have := HF.out j y hj hy
        omega)
      have hfin : ∀ (q1 : (i : Int) < (m : Int)), ¬ (i : Int) < 100 := fun h => by omega
      by_cases hm : m ≤ 60
      · have e1 : (m : Int) ≤ 60 := by omega
        have q1 : ¬ (i : Int) < (m : Int) := by omega
        clear hfin
        go_wp2_with fail
        go_ret
        refine ⟨⟨_, rfl, fun h => ?_⟩, HT.out⟩
        exact HE.out (decide_eq_true hm) (by simpa using h)
      · have e1 : ¬ (m : Int) ≤ 60 := by omega
        by_cases q1 : (i : Int) < (m : Int)
        · have q3 : ¬ (i : Int) < 100 := hfin q1
          clear hfin
          go_wp2_with fail
          go_ret
          exact ⟨⟨false, rfl, fun h => by cases h⟩, HT.out⟩
        · clear hfin
          go_wp2_with fail
          go_ret
          exact ⟨⟨false, rfl, fun h => by cases h⟩, HT.out⟩

def FdOk (x : Fd) : Prop := x.key.size ≤ 60 ∧ x.val.length ≤ 60 ∧ x.places.length ≤ 20
def SmallE (m : Nat) (xs : List Fd) (e : Ending) : Prop := ∃ r : Bool, e = .returned (.bool r) ∧ (r = true → m ≤ 60 ∧ ∀ x ∈ xs, FdOk x)
set_option maxRecDepth 100000 in
set_option maxHeartbeats 4000000 in
theorem small_any {S : Nat → Prop} {w : World} {A : Option Addr} {m c : Nat} {xs : List Fd} (R : Hid (RdL FdR 6 S w A m xs)) :
    Calls Try.prog 57 #[.slice A m c] w fun e w' => SmallE m xs e ∧ Below w.heap.size w w' := by
  have hlen : xs.length = m := R.out.1
  go_enter Try.func57, Try.ntmps57
  go_wp2_with fail
  go_loopw [3] (fun vi wr => ∃ i : Nat, i ≤ m ∧ i ≤ 100 ∧ vi = .int .i64 i ∧ Hid (∀ j x, j < i → xs[j]? = some x → FdOk x) ∧ wr = w) (fun vi _ => 100 - (intOf vi).toNat)
  case atStart => exact ⟨0, Nat.zero_le _, by omega, rfl, Lib.hid (fun j x hj => absurd hj (by omega)), rfl⟩
  case round =>
    obtain ⟨i, hi, h100, rfl, HF, hw⟩ := hrel
    replace hw := hw.symm
    subst hw
    have q2 : (0 : Int) ≤ (i : Int) := Int.natCast_nonneg _
    by_cases hlt : i < m ∧ i < 100
    · have q1 : (i : Int) < (m : Int) := by omega
      have q3 : (i : Int) < 100 := by omega
      obtain ⟨b, o, x, VA, vm, vc, PA, pm, pc, rfl, hx, hb, _, hr, hp, d0, d1, d2, d3, d4, d5⟩ := fd_at R.out hlt.1
      have hvl : x.val.length = vm := hr.1
      have hpl : x.places.length = pm := hp.1
      by_cases h1 : x.key.size ≤ 60
      · have e1 : ¬ (60 : Int) < (x.key.size : Int) := by omega
        by_cases h2 : vm ≤ 60
        · have e2 : ¬ (60 : Int) < (vm : Int) := by omega
          by_cases h3 : pm ≤ 20
          · have e3 : ¬ (20 : Int) < (pm : Int) := by omega
            have HF2 : Hid (∀ j y, j < i + 1 → xs[j]? = some y → FdOk y) := Lib.hid (fun j y hj hy => by
              by_cases hji : j = i
              · subst hji
                rw [hx] at hy
                injection hy with hy
                subst hy
                exact ⟨h1, by omega, by omega⟩
              · exact HF.out j y (by omega) hy)
            clear hx hr hp hvl hpl HF h1 h2 h3
            go_wp2_with fail
            exact ⟨⟨i + 1, by omega, by omega, by go_num, HF2, trivial⟩, by simp [intOf]; omega⟩
          · have e3 : (20 : Int) < (pm : Int) := by omega
            go_wp2_with fail
            go_ret
            exact ⟨⟨false, rfl, fun h => by cases h⟩, Below.refl _ _⟩
        · have e2 : (60 : Int) < (vm : Int) := by omega
          go_wp2_with fail
          go_ret
          exact ⟨⟨false, rfl, fun h => by cases h⟩, Below.refl _ _⟩
      · have e1 : (60 : Int) < (x.key.size : Int) := by omega
        go_wp2_with fail
        go_ret
        exact ⟨⟨false, rfl, fun h => by cases h⟩, Below.refl _ _⟩
    · have HE : Hid (m ≤ 60 → m ≤ 60 ∧ ∀ x ∈ xs, FdOk x) := Lib.hid (fun h1 => ⟨h1, upto (n := i) (by omega) (fun j y hj hy => HF.out j y hj hy)⟩)
      have hfin : ∀ (q1 : (i : Int) < (m : Int)), ¬ (i : Int) < 100 := fun h => by omega
      by_cases q1 : (i : Int) < (m : Int)
      · have q3 : ¬ (i : Int) < 100 := hfin q1
        have e1 : ¬ (m : Int) ≤ 60 := by omega
        clear hfin
        go_wp2_with fail
        go_ret
        exact ⟨⟨false, rfl, fun h => by cases h⟩, Below.refl _ _⟩
      · clear hfin
        go_wp2_with fail
        go_ret
        exact ⟨⟨_, rfl, fun h => HE.out (by have := of_decide_eq_true h; omega)⟩, Below.refl _ _⟩
end Go.Proofs.Ytpibaahiboajhaa
