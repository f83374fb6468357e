/-
  Readings of slices: the first elements, all but the first.
-/
import Derived.Test.YthhljmlpjnkfgaaGreatRows
import Derived.Test.YthhljmlpjnkfgaaGreatLib3
set_option linter.unusedSimpArgs false
set_option linter.unusedVariables false
namespace Go.Proofs.YthhljmlpjnkfgaaGreat
open Go.RowKit Go.Cib
attribute [local go_sem] cell_set Later.cell Later.frozen Grw.cell Grw.frozen

theorem RdL.take {X : Type} {R : (Nat → Prop) → World → List Value → X → Prop} {s : Nat} {S : Nat → Prop} {w : World} {A : Option Addr} {n : Nat} {xs : List X}
    (h : RdL R s S w A n xs) {k : Nat} (hk : k ≤ n) : RdL R s S w A k (xs.take k) := by
  refine ⟨by rw [List.length_take, h.1]; omega, fun hp => ?_⟩
  obtain ⟨b, o, h1, h2, h3, h4⟩ := h.2 (by omega)
  exact ⟨b, o, h1, h2, h3, fun i x hx => by
    rw [List.getElem?_take] at hx
    split at hx
    · exact h4 i x hx
    · cases hx⟩
theorem RdL.drop {X : Type} {R : (Nat → Prop) → World → List Value → X → Prop} {s : Nat} {S : Nat → Prop} {w : World} {b o : Nat} {n : Nat} {xs : List X}
    (h : RdL R s S w (some ⟨b, o, none⟩) n xs) {k : Nat} (hk : k ≤ n) : RdL R s S w (some ⟨b, o + k * s, none⟩) (n - k) (xs.drop k) := by
  refine ⟨by rw [List.length_drop, h.1], fun hp => ?_⟩
  obtain ⟨b', o', h1, h2, h3, h4⟩ := h.2 (by omega)
  cases h1
  refine ⟨b, o + k * s, rfl, h2, h3, fun i x hx => ?_⟩
  rw [List.getElem?_drop] at hx
  obtain ⟨cs, e1, e2, e3⟩ := h4 (k + i) x hx
  refine ⟨cs, e1, e2, fun j v hj => ?_⟩
  have := e3 j v hj
  rwa [show o + (k + i) * s + j = o + k * s + i * s + j by rw [Nat.add_mul]; omega] at this
end Go.Proofs.YthhljmlpjnkfgaaGreat
