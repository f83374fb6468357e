/-
  The field of 256: plain.
-/
import Derived.Test.YthhljmlpjnkfgaaGreatLib
set_option linter.unusedSimpArgs false
set_option linter.unusedVariables false
namespace Go.Proofs.YthhljmlpjnkfgaaGreat
open Go.RowKit Go.Cib
attribute [local go_sem] cell_set Later.cell Later.frozen Grw.cell Grw.frozen

/-- Times x. -/
def xt (a : Nat) : Nat := if 2 * a < 256 then 2 * a else (2 * a) ^^^ 285
def xtn : Nat → Nat → Nat
  | 0, a => a
  | n + 1, a => xt (xtn n a)
def ex (i : Nat) : Nat := xtn i 1
def lgFrom (a : Nat) : Nat → Nat → Nat
  | 0, i => i
  | n + 1, i => if ex i = a then i else lgFrom a n (i + 1)
def lg (a : Nat) : Nat := lgFrom a 255 0
def gm (a b : Nat) : Nat := if a = 0 ∨ b = 0 then 0 else ex (lg a + lg b)
theorem xt_lt {a : Nat} (h : a < 256) : xt a < 256 := by
  have : ∀ a : Fin 256, xt a.1 < 256 := by decide +kernel
  exact this ⟨a, h⟩
theorem xt_xor {a b : Nat} (ha : a < 256) (hb : b < 256) : xt (a ^^^ b) = xt a ^^^ xt b := by
  have : ∀ a b : Fin 256, xt (a.1 ^^^ b.1) = xt a.1 ^^^ xt b.1 := by decide +kernel
  exact this ⟨a, ha⟩ ⟨b, hb⟩
theorem xtn_lt {a : Nat} (h : a < 256) : ∀ n, xtn n a < 256
  | 0 => h
  | n + 1 => xt_lt (xtn_lt h n)
theorem xor_lt {a b : Nat} (ha : a < 256) (hb : b < 256) : a ^^^ b < 256 := Nat.xor_lt_two_pow (n := 8) ha hb
theorem xtn_xor {a b : Nat} (ha : a < 256) (hb : b < 256) : ∀ n, xtn n (a ^^^ b) = xtn n a ^^^ xtn n b
  | 0 => rfl
  | n + 1 => by
    show xt (xtn n (a ^^^ b)) = _
    rw [xtn_xor ha hb n, xt_xor (xtn_lt ha n) (xtn_lt hb n)]; rfl
theorem xtn_add (a m : Nat) : ∀ n, xtn (n + m) a = xtn n (xtn m a)
  | 0 => by rw [Nat.zero_add]; rfl
  | n + 1 => by rw [Nat.succ_add]; show xt (xtn (n + m) a) = _; rw [xtn_add a m n]; rfl
theorem xtn_zero : ∀ n, xtn n 0 = 0
  | 0 => rfl
  | n + 1 => by show xt (xtn n 0) = 0; rw [xtn_zero n]; rfl
theorem ex_255 : ex 255 = 1 := by decide +kernel
theorem ex_lg {a : Nat} (h0 : a ≠ 0) (h : a < 256) : ex (lg a) = a ∧ lg a < 255 := by
  have : ∀ a : Fin 256, a.1 ≠ 0 → ex (lg a.1) = a.1 ∧ lg a.1 < 255 := by decide +kernel
  exact this ⟨a, h⟩ h0
theorem ex_add (i j : Nat) : ex (i + j) = xtn i (ex j) := xtn_add 1 j i
theorem ex_period (i : Nat) : ex (i + 255) = ex i := by rw [ex_add, ex_255]; rfl
theorem ex_lt (i : Nat) : ex i < 256 := xtn_lt (by decide) i
/-- Times a is so many times x. -/
theorem gm_eq {a b : Nat} (ha : a ≠ 0) (hb : b < 256) : gm a b = xtn (lg a) b := by
  unfold gm
  by_cases h : b = 0
  · subst h; rw [if_pos (.inr rfl), xtn_zero]
  · rw [if_neg (by omega), ex_add, (ex_lg h hb).1]
theorem gm_zero (a : Nat) : gm a 0 = 0 := by unfold gm; rw [if_pos (.inr rfl)]
theorem gm_comm (a b : Nat) : gm a b = gm b a := by
  unfold gm
  rw [Nat.add_comm]
  by_cases h : a = 0 ∨ b = 0
  · rw [if_pos h, if_pos h.symm]
  · rw [if_neg h, if_neg (fun h2 => h h2.symm)]
theorem gm_lt {a b : Nat} : gm a b < 256 := by
  unfold gm
  split
  · omega
  · exact ex_lt _
theorem gm_xor {a b c : Nat} (hb : b < 256) (hc : c < 256) : gm a (b ^^^ c) = gm a b ^^^ gm a c := by
  by_cases h : a = 0
  · subst h; unfold gm; simp
  · rw [gm_eq h (xor_lt hb hc), gm_eq h hb, gm_eq h hc, xtn_xor hb hc]
end Go.Proofs.YthhljmlpjnkfgaaGreat
