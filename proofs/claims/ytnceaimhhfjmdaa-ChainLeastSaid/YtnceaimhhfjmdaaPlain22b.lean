/-
  What a chain shows to which a version was added; plain.
-/
import Derived.Test.YtnceaimhhfjmdaaLaw22b
set_option linter.unusedSimpArgs false
set_option linter.unusedVariables false
namespace Go.Proofs.Ytnceaimhhfjmdaa
open Go.RowKit Go.Cib
attribute [local go_sem] cell_set Later.cell Later.frozen Grw.cell Grw.frozen

theorem rightL_tail {v : Ver} {l : List Ver} (h : rightL (v :: l) = true) : rightL l = true := by
  simp only [rightL, List.all_eq_true, List.mem_range] at h ⊢
  intro i hi
  have h1 := h (i + 1) (by simp; omega)
  cases i with
  | zero =>
    simp only [okAt, Bool.and_eq_true] at h1 ⊢
    exact ⟨by simpa using h1.1, by simp⟩
  | succ j => simpa [okAt] using h1

theorem at_new {v : Ver} {l : List Ver} {s : Int} (h : rightL (v :: l) = true) (hs : v.stamp ≤ s) : atL (v :: l) s = some v := by
  rw [atL, if_pos h, List.find?_cons]; simp [hs]
theorem at_old {v : Ver} {l : List Ver} {s : Int} (h : rightL (v :: l) = true) (hs : ¬ v.stamp ≤ s) : atL (v :: l) s = atL l s := by
  rw [atL, if_pos h, atL, if_pos (rightL_tail h), List.find?_cons]; simp [hs]
theorem addL_yes {v : Ver} {l : List Ver} (h : rightL (v :: l) = true) : addL l v = some (v :: l) := by rw [addL, if_pos h]
theorem addL_no {v : Ver} {l : List Ver} (h : rightL (v :: l) = false) : addL l v = none := by rw [addL, if_neg (by rw [h]; simp)]
theorem addE_yes {v : Ver} {l : List Ver} (h : rightL (v :: l) = true) : addE l v = 0 := by rw [addE, if_pos h]
theorem addE_no {v : Ver} {l : List Ver} (h : rightL (v :: l) = false) : addE l v = 2 := by rw [addE, if_neg (by rw [h]; simp)]
theorem ver_same_refl (v : Ver) : v.same v = true := Ver.same_iff.2 rfl
theorem blob_same_refl (v : Blob) : v.same v = true := Blob.same_iff.2 rfl
theorem small_cons {v : Ver} {l : List Ver} (h : Small l) (h1 : Small [v]) : Small (v :: l) := by
  intro x hx
  rcases List.mem_cons.1 hx with rfl | hx
  · exact h1 _ (by simp)
  · exact h _ hx
theorem at_mem {l : List Ver} {s : Int} {x : Ver} (h : atL l s = some x) : x ∈ l := by
  rw [atL] at h
  split at h
  · exact List.mem_of_find?_eq_some h
  · cases h
theorem small_at {l : List Ver} (h : Small l) (s : Int) : ((atL l s).getD .none_).blob.places.length ≤ 65536 := by
  cases hx : atL l s with
  | none => simp [Ver.none_, Blob.none_]
  | some x => exact h x (at_mem hx)
theorem small_value {l : List Ver} (h : Small l) (s : Int) : ((valueL l s).getD .none_).places.length ≤ 65536 := by
  rw [valueL]
  cases hx : atL l s with
  | none => simp [Blob.none_]
  | some x =>
    simp only
    split
    · simp [Blob.none_]
    · exact h x (at_mem hx)
end Go.Proofs.Ytnceaimhhfjmdaa
