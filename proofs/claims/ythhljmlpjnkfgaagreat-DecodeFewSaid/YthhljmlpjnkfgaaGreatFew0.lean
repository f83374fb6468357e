/-
  Too few rows: plain.
-/
import Derived.Test.YthhljmlpjnkfgaaGreatDcd2
set_option linter.unusedSimpArgs false
set_option linter.unusedVariables false
namespace Go.Proofs.YthhljmlpjnkfgaaGreat
open Go.RowKit Go.Cib
attribute [local go_sem] cell_set Later.cell Later.frozen Grw.cell Grw.frozen

theorem cnt_put (p q : Nat → Bool) (a : Nat) : ∀ N, a < N → (∀ j, j ≠ a → q j = p j) → p a = false → q a = true → ((List.range N).filter q).length = ((List.range N).filter p).length + 1 := by
  intro N
  induction N with
  | zero => intro h; omega
  | succ N ih =>
    intro h he h0 h1
    rw [List.range_succ, List.filter_append, List.filter_append, List.length_append, List.length_append]
    by_cases haN : a = N
    · subst haN
      have : (List.range a).filter q = (List.range a).filter p := List.filter_congr fun j hj => he j (by have := List.mem_range.1 hj; omega)
      rw [this]
      simp [h0, h1]
    · rw [ih (by omega) he h0 h1]
      have : [N].filter q = [N].filter p := List.filter_congr fun j hj => he j (by have := List.mem_singleton.1 hj; omega)
      rw [this]; omega
structure FewI (row : List Nat) (N i c : Nat) (rows : Rws) : Prop where
  len : rows.length = N
  one : ∀ j, ra rows j = [] ∨ ra rows j = row
  cnt : c = (thU rows N).length
  le : c ≤ i
theorem ra_put {rows : Rws} {a : Nat} {row : List Nat} (h : a < rows.length) (j : Nat) : ra (rows.set a row) j = if j = a then row else ra rows j := by
  by_cases hj : j < rows.length
  · exact ra_set _ _ _ hj
  · rw [if_neg (by omega)]
    unfold ra
    rw [List.getD_eq_getElem?_getD, List.getD_eq_getElem?_getD, List.getElem?_eq_none (by simp; omega), List.getElem?_eq_none (by omega)]
theorem FewI.zero (row : List Nat) (N : Nat) : FewI row N 0 0 (List.replicate N []) where
  len := by simp
  one j := by
    left
    unfold ra
    rw [List.getD_eq_getElem?_getD, List.getElem?_replicate]
    split <;> rfl
  cnt := by
    unfold thU
    rw [List.filter_eq_nil_iff.2]
    · rfl
    · intro j hj
      have : lenF (List.replicate N []) j = 0 := by
        unfold lenF ra
        rw [List.getD_eq_getElem?_getD, List.getElem?_replicate]
        split <;> rfl
      simp [this]
  le := Nat.le_refl _
section
variable {row : List Nat} {N i cnt a : Nat} {rows : Rws}
theorem FewI.put (h : FewI row N i cnt rows) (ha : a < N) (hr : 0 < row.length) (he : (ra rows a).length = 0) : FewI row N (i + 1) (cnt + 1) (rows.set a row) := by
  have hal : a < rows.length := by rw [h.len]; exact ha
  refine ⟨by rw [List.length_set, h.len], fun j => ?_, ?_, by have := h.le; omega⟩
  · rw [ra_put hal]; split
    · exact .inr rfl
    · exact h.one j
  · rw [h.cnt]
    unfold thU
    rw [cnt_put (fun j => decide (0 < lenF rows j)) (fun j => decide (0 < lenF (rows.set a row) j)) a N ha]
    · intro j hj
      unfold lenF
      rw [ra_put hal, if_neg hj]
    · unfold lenF; simp [he]
    · unfold lenF
      rw [ra_put hal, if_pos rfl]; simp [hr]
theorem FewI.again (h : FewI row N i cnt rows) (ha : a < N) (hr : 0 < row.length) (he : ¬ (ra rows a).length = 0) : FewI row N (i + 1) cnt (rows.set a row) := by
  have hal : a < rows.length := by rw [h.len]; exact ha
  refine ⟨by rw [List.length_set, h.len], fun j => ?_, ?_, by have := h.le; omega⟩
  · rw [ra_put hal]; split
    · exact .inr rfl
    · exact h.one j
  · rw [h.cnt]
    unfold thU
    congr 1
    refine List.filter_congr fun j _ => ?_
    unfold lenF
    rw [ra_put hal]
    by_cases hj : j = a
    · subst hj
      rw [if_pos rfl]; simp; omega
    · rw [if_neg hj]
theorem FewI.lenF (h : FewI row N i cnt rows) (j : Nat) : lenF rows j = 0 ∨ lenF rows j = row.length := by
  unfold Go.Proofs.YthhljmlpjnkfgaaGreat.lenF
  rcases h.one j with h | h
  · rw [h]; exact .inl rfl
  · rw [h]; exact .inr rfl
theorem FewI.bad {k m : Nat} (h : FewI row (k + m) i cnt rows) : thBad k m (k + m) rows = false := by
  unfold thBad
  rw [Bool.or_eq_false_iff]
  refine ⟨by simp, List.any_eq_false.2 fun u hu => ?_⟩
  have hu2 := (thU_mem hu).2
  have hg : gt (thU rows (k + m)) 0 ∈ thU rows (k + m) := gt_mem (List.length_pos_of_mem hu)
  have hg2 := (thU_mem hg).2
  unfold oddB
  rcases h.lenF u with e | e
  · omega
  · rcases h.lenF (gt (thU rows (k + m)) 0) with e2 | e2
    · omega
    · simp [e, e2]
end
theorem bad_short {k m N : Nat} {rows : Rws} (h : N ≠ k + m) : thBad k m N rows = true := by unfold thBad; rw [decide_eq_true h, Bool.true_or]
theorem lenF_take (rows : Rws) (n j : Nat) : lenF (rows.take n) j ≤ lenF rows j := by
  unfold lenF ra
  rw [List.getD_eq_getElem?_getD, List.getD_eq_getElem?_getD, List.getElem?_take]
  split
  · exact Nat.le_refl _
  · exact Nat.zero_le _
/-- A clamped number. -/
theorem clamp {x N : Int} (h : 1 ≤ N) : ∃ a : Nat, max 0 (min x (N - 1)) = (a : Int) ∧ (a : Int) < N := ⟨(max 0 (min x (N - 1))).toNat, by omega, by omega⟩
end Go.Proofs.YthhljmlpjnkfgaaGreat
