/-
  Strings in order.
-/
import Derived.Test.YtpibaahiboajhaaRows
import Derived.Test.YtpibaahiboajhaaLibMap
import Derived.Test.YtpibaahiboajhaaLib3
import Derived.Sort.Walk0
set_option linter.unusedSimpArgs false
set_option linter.unusedVariables false
namespace Go.Proofs.Ytpibaahiboajhaa
open Go.RowKit Go.Cib
attribute [local go_sem] cell_set Later.cell Later.frozen Grw.cell Grw.frozen

/-! ### Strings -/
theorem bl_eq (a b : ByteArray) : Op.bytesLess a.toList b.toList = decide (a.toList < b.toList) := bytesLess_eq _ _
theorem str_ext {a b : ByteArray} (h : a.toList = b.toList) : a = b := by
  rw [ByteArray.toList_eq, ByteArray.toList_eq] at h
  cases a; cases b
  simpa using h
theorem str_beq (a b : ByteArray) : (a.toList == b.toList) = decide (a = b) := by
  by_cases h : a = b
  · subst h; simp
  · rw [decide_eq_false h]
    exact beq_eq_false_iff_ne.2 fun e => h (str_ext e)
theorem bl_irrefl (a : ByteArray) : Op.bytesLess a.toList a.toList = false := by rw [bl_eq]; exact decide_eq_false (List.lt_irrefl _)
theorem bl_trans {a b c : ByteArray} (h : Op.bytesLess a.toList b.toList = true) (h2 : Op.bytesLess b.toList c.toList = true) : Op.bytesLess a.toList c.toList = true := by
  rw [bl_eq, decide_eq_true_eq] at *
  exact List.lt_trans h h2
theorem bl_tri {a b : ByteArray} (h : Op.bytesLess a.toList b.toList = false) (h2 : Op.bytesLess b.toList a.toList = false) : a = b := by
  rw [bl_eq, decide_eq_false_iff_not] at *
  exact str_ext (List.le_antisymm (List.not_lt.1 h2) (List.not_lt.1 h))
theorem bl_asymm {a b : ByteArray} (h : Op.bytesLess a.toList b.toList = true) : Op.bytesLess b.toList a.toList = false := by
  cases h2 : Op.bytesLess b.toList a.toList with
  | false => rfl
  | true => have := bl_trans h h2; rw [bl_irrefl] at this; cases this
theorem bl_ne {a b : ByteArray} (h : Op.bytesLess a.toList b.toList = true) : a ≠ b := fun e => by subst e; rw [bl_irrefl] at h; cases h
/-- Below or the same, and below: below. -/
theorem bl_le_trans {a b c : ByteArray} (h : Op.bytesLess b.toList a.toList = false) (h2 : Op.bytesLess b.toList c.toList = true) : Op.bytesLess a.toList c.toList = true := by
  cases h3 : Op.bytesLess a.toList b.toList with
  | true => exact bl_trans h3 h2
  | false => have := bl_tri h3 h; subst this; exact h2
theorem str_nil (a : ByteArray) : a.toList = [] ↔ a.size = 0 := by
  rw [ByteArray.toList_eq, ← List.length_eq_zero_iff]; rfl
theorem str_len (a : ByteArray) : a.toList.length = a.size := by rw [ByteArray.toList_eq]; rfl
/-- Whoever rises has none twice, and no two orders. -/
theorem rises_perm {l l' : List ByteArray} (h : l.Perm l') (h1 : l.Pairwise fun x y => Op.bytesLess x.toList y.toList = true) (h2 : l'.Pairwise fun x y => Op.bytesLess x.toList y.toList = true) : l = l' :=
  List.Perm.eq_of_pairwise (le := fun x y => Op.bytesLess x.toList y.toList = true) (fun a b _ _ h1 h2 => by have := bl_asymm h1; rw [h2] at this; cases this) h1 h2 h
end Go.Proofs.Ytpibaahiboajhaa
