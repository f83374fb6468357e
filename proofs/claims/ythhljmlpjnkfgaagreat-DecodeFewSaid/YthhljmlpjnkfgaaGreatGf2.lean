/-
  The field of 256: inverses.
-/
import Derived.Test.YthhljmlpjnkfgaaGreatGf1
set_option linter.unusedSimpArgs false
set_option linter.unusedVariables false
namespace Go.Proofs.YthhljmlpjnkfgaaGreat
open Go.RowKit Go.Cib
attribute [local go_sem] cell_set Later.cell Later.frozen Grw.cell Grw.frozen

theorem ex_mod (i : Nat) : ex i = ex (i % 255) := by
  have h : ∀ q r, ex (r + 255 * q) = ex r := by
    intro q
    induction q with
    | zero => intro r; rfl
    | succ q ih => intro r; rw [show r + 255 * (q + 1) = (r + 255 * q) + 255 by omega, ex_period, ih]
  have := h (i / 255) (i % 255)
  rw [show i % 255 + 255 * (i / 255) = i from Nat.mod_add_div i 255] at this
  exact this
theorem lg_ex_lt {i : Nat} (h : i < 255) : lg (ex i) = i := by
  have : ∀ i : Fin 255, lg (ex i.1) = i.1 := by decide +kernel
  exact this ⟨i, h⟩
theorem lg_ex (i : Nat) : lg (ex i) = i % 255 := by rw [ex_mod, lg_ex_lt (Nat.mod_lt _ (by decide))]
theorem ex_ne (i : Nat) : ex i ≠ 0 := by
  rw [ex_mod]
  have : ∀ i : Fin 255, ex i.1 ≠ 0 := by decide +kernel
  exact this ⟨i % 255, Nat.mod_lt _ (by decide)⟩
theorem ex_congr {i j : Nat} (h : i % 255 = j % 255) : ex i = ex j := by rw [ex_mod i, h, ← ex_mod]
theorem gm_ne {a b : Nat} (ha : a ≠ 0) (hb : b ≠ 0) : gm a b ≠ 0 := by
  unfold gm
  rw [if_neg (by omega)]
  exact ex_ne _
theorem gm_assoc (a b c : Nat) : gm (gm a b) c = gm a (gm b c) := by
  by_cases ha : a = 0
  · subst ha; simp [gm]
  by_cases hb : b = 0
  · subst hb; simp [gm]
  by_cases hc : c = 0
  · subst hc; simp [gm]
  have h1 : gm a b = ex (lg a + lg b) := by unfold gm; rw [if_neg (by omega)]
  have h2 : gm b c = ex (lg b + lg c) := by unfold gm; rw [if_neg (by omega)]
  rw [h1, h2]
  have n1 := ex_ne (lg a + lg b)
  have n2 := ex_ne (lg b + lg c)
  unfold gm
  rw [if_neg (by omega), if_neg (by omega), lg_ex, lg_ex]
  exact ex_congr (by omega)
theorem lg_one : lg 1 = 0 := by decide +kernel
theorem gm_one {b : Nat} (hb : b < 256) : gm 1 b = b := by rw [gm_eq (by decide) hb, lg_one]; rfl
/-- One by a number. -/
def inv (a : Nat) : Nat := ex (255 - lg a)
theorem gm_inv {a : Nat} (h0 : a ≠ 0) (h : a < 256) : gm a (inv a) = 1 := by
  have h1 := (ex_lg h0 h).2
  have n1 := ex_ne (255 - lg a)
  unfold gm inv
  rw [if_neg (by omega), lg_ex]
  rw [show ex (lg a + (255 - lg a) % 255) = ex 255 from ex_congr (by omega), ex_255]
theorem inv_lt (a : Nat) : inv a < 256 := ex_lt _
theorem gm_cancel {a b c : Nat} (h0 : a ≠ 0) (h : a < 256) (hb : b < 256) (hc : c < 256) (e : gm a b = gm a c) : b = c := by
  have h1 : gm (inv a) (gm a b) = gm (inv a) (gm a c) := by rw [e]
  rw [← gm_assoc, ← gm_assoc, gm_comm (inv a) a, gm_inv h0 h, gm_one hb, gm_one hc] at h1
  exact h1
end Go.Proofs.YthhljmlpjnkfgaaGreat
