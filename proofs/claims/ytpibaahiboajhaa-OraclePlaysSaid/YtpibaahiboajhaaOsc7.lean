/-
  A list of numbers without one of them; what rises.
-/
import Derived.Test.YtpibaahiboajhaaOsc4
import Derived.Test.YtpibaahiboajhaaSlc
import Derived.Test.YtpibaahiboajhaaOpenO
set_option linter.unusedSimpArgs false
set_option linter.unusedVariables false
namespace Go.Proofs.Ytpibaahiboajhaa
open Go.RowKit Go.Cib
attribute [local go_sem] cell_set Later.cell Later.frozen Grw.cell Grw.frozen
open Go.Sort Go.Proofs Go.Shelf

theorem OrcAt.perm {w : World} {o b : Nat} {last most : Int} {L M : List Int} (h : OrcAt w o b last most L) (hp : L.Perm M) : OrcAt w o b last most M := by
  obtain ⟨es, h1, h2⟩ := h.map
  have hl := hp.length_eq
  refine ⟨by rw [← hl]; exact h.box, h.ne, ⟨es, h1, fun s => ?_⟩, by rw [← hl]; exact h.len, h.rng⟩
  rw [h2, hp.count_eq]
def insR (x : Int) : List Int → List Int
  | [] => [x]
  | y :: ys => if x < y then x :: y :: ys else if x = y then y :: ys else y :: insR x ys
theorem insR_mem (x : Int) : ∀ (ys : List Int) (s : Int), s ∈ insR x ys ↔ s = x ∨ s ∈ ys
  | [], s => by simp [insR]
  | y :: ys, s => by
    unfold insR
    by_cases h1 : x < y
    · rw [if_pos h1]; simp
    · rw [if_neg h1]
      by_cases h2 : x = y
      · subst h2; rw [if_pos rfl]; simp
      · rw [if_neg h2, List.mem_cons, insR_mem x ys s, List.mem_cons]
        constructor
        · rintro (h | h | h)
          · exact Or.inr (Or.inl h)
          · exact Or.inl h
          · exact Or.inr (Or.inr h)
        · rintro (h | h | h)
          · exact Or.inr (Or.inl h)
          · exact Or.inl h
          · exact Or.inr (Or.inr h)
theorem insR_rises (x : Int) : ∀ ys : List Int, ys.Pairwise (· < ·) → (insR x ys).Pairwise (· < ·)
  | [], _ => by simp [insR]
  | y :: ys, h => by
    obtain ⟨h1, h2⟩ := List.pairwise_cons.1 h
    unfold insR
    by_cases h3 : x < y
    · rw [if_pos h3]
      refine List.pairwise_cons.2 ⟨fun s hs => ?_, h⟩
      rcases List.mem_cons.1 hs with rfl | hs
      · exact h3
      · have := h1 s hs; omega
    · rw [if_neg h3]
      by_cases h4 : x = y
      · rw [if_pos h4]; exact h
      · rw [if_neg h4]
        refine List.pairwise_cons.2 ⟨fun s hs => ?_, insR_rises x ys h2⟩
        rcases (insR_mem x ys s).1 hs with rfl | hs
        · omega
        · exact h1 s hs
theorem insR_len (x : Int) : ∀ ys : List Int, (insR x ys).length ≤ ys.length + 1
  | [] => by simp [insR]
  | y :: ys => by
    unfold insR
    split
    · simp
    · split
      · simp
      · have := insR_len x ys; simp; omega
theorem rises_of (L : List Int) : ∃ xs : List Int, xs.Pairwise (· < ·) ∧ (∀ s, s ∈ xs ↔ s ∈ L) ∧ xs.length ≤ L.length := by
  induction L with
  | nil => exact ⟨[], by simp, by simp, by simp⟩
  | cons x L ih =>
    obtain ⟨xs, h1, h2, h3⟩ := ih
    exact ⟨insR x xs, insR_rises x xs h1, fun s => by rw [insR_mem, h2, List.mem_cons], by have := insR_len x xs; simp; omega⟩
/-- The horizon, whatever is open. -/
theorem ohor_any {w : World} {o b : Nat} {last most : Int} {L : List Int} (h : OrcAt w o b last most L) :
    Calls Try.prog 31 #[.pointer (some ⟨o, 0, none⟩)] w fun e w' => e = .returned (.int .u64 (hor last L)) ∧ Below w.heap.size w w' := by
  obtain ⟨xs, h1, h2, h3⟩ := rises_of L
  exact ohor_ok h h1 h2 (by have := h.len; omega)
theorem OwnL.lower {X : Type} {R : (Nat → Prop) → World → List Value → X → Prop} {E : TypeId} {s base base' : Nat} {S : Nat → Prop} {w : World} {v : Value} {n : Nat} {xs : List X} (h : OwnL R E s base S w v n xs) (hb : base' ≤ base) : OwnL R E s base' S w v n xs := by
  obtain ⟨css, k1, k2⟩ := h
  exact ⟨css, ownsRow_base_a k1 hb, k2⟩
end Go.Proofs.Ytpibaahiboajhaa
