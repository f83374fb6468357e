/-
  Spans: does a text stand in one?
-/
import Derived.Test.YtpibaahiboajhaaRows
import Derived.Test.YtpibaahiboajhaaStr
set_option linter.unusedSimpArgs false
set_option linter.unusedVariables false
namespace Go.Proofs.Ytpibaahiboajhaa
open Go.RowKit Go.Cib
attribute [local go_sem] cell_set Later.cell Later.frozen Grw.cell Grw.frozen

/-- Does a text stand in a span? -/
def inB (f t k : ByteArray) : Bool := !(Op.bytesLess k.toList f.toList) && (decide (t.size = 0) || Op.bytesLess k.toList t.toList)
set_option maxRecDepth 100000 in
theorem ahead_any (k t : ByteArray) (w : World) : Calls Try.prog 145 #[.string k, .string t] w fun e w' => e = .returned (.bool (decide (t.size = 0) || Op.bytesLess k.toList t.toList)) ∧ w' = w := by
  by_cases h : t.size = 0
  · have q : t.toList.isEmpty = true := by rw [(str_nil t).2 h]; rfl
    have q2 : t.toList = [] := (str_nil t).2 h
    rw [decide_eq_true h]
    go_enter Try.func145, Try.ntmps145
    go_wp2_with fail
    go_ret
    exact ⟨rfl, rfl⟩
  · have q2 : ¬ t.toList = [] := fun e => h ((str_nil t).1 e)
    have q : t.toList.isEmpty = false := by simpa using q2
    rw [decide_eq_false h]
    go_enter Try.func145, Try.ntmps145
    go_wp2_with fail
    go_ret
    exact ⟨rfl, rfl⟩
set_option maxRecDepth 100000 in
theorem in_any (f t k : ByteArray) (w : World) : Calls Try.prog 128 #[.agg #[.string f, .string t], .string k] w fun e w' => e = .returned (.bool (inB f t k)) ∧ Below w.heap.size w w' := by
  have wA : Below w.heap.size w (w.alloc (.cells #[.string f, .string t] 56)) := (by repeat (first | (with_reducible exact Below.refl _ _) | (with_reducible assumption) | (with_reducible refine Below.drew ?_) | (with_reducible refine Below.setCell ?_ ?_ _) | (with_reducible refine Below.alloc ?_ ?_ _) | (with_reducible refine Below.later ?_ ?_ _) | (first | (with_reducible exact Nat.le_refl _) | omega | (simp only [World.size_alloc, World.size_setCell, World.size_drew] <;> omega))))
  have X := BoxAt.new w #[.string f, .string t] 56
  obtain ⟨w1, hw1⟩ : ∃ w1, w.alloc (.cells #[.string f, .string t] 56) = w1 := ⟨_, rfl⟩
  rw [hw1] at wA X
  have c0 := X.cell 0; have c1 := X.cell 1
  have ha := ahead_any k t w1
  unfold inB
  clear X
  cases hf : Op.bytesLess k.toList f.toList with
  | true =>
    go_enter Try.func128, Try.ntmps128
    go_wp2_with fail
    go_ret
    exact ⟨rfl, wA⟩
  | false =>
    obtain ⟨B, hB⟩ : ∃ B, (decide (t.size = 0) || Op.bytesLess k.toList t.toList) = B := ⟨_, rfl⟩
    rw [hB] at ha ⊢
    clear hB
    go_enter Try.func128, Try.ntmps128
    go_wp2_with fail
    refine ha.mono ?_
    rintro e w9 ⟨rfl, h1⟩
    replace h1 := h1.symm
    subst h1
    go_wp2_with fail
    go_ret
    exact ⟨by simp, wA⟩
end Go.Proofs.Ytpibaahiboajhaa
