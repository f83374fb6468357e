/-
  Arguments as readings, with what the form's own reach says of them.
-/
import Derived.Test.YtpibaahiboajhaaOpen
import Derived.SizedLaws
set_option linter.unusedSimpArgs false
set_option linter.unusedVariables false
namespace Go.Cib
open Go.RowKit Go.ChangeShapes Go.WideShapes Go.Deep

section
variable {P : Program} {X : Type}
/-- What reads as data of type t reads by R; where no weight of it passes the reach, Q holds of it. -/
def OpensS (P : Program) (t : TypeId) (R : (Nat → Prop) → World → List Value → X → Prop) (s : Nat) (Q : X → Prop) : Prop :=
  P.cellsOf t = s ∧ 0 < s ∧ ∀ (H : Type) (enc : TypeId × Value → H) (w : World) (base : Nat) (spare : Nat → Bool) (held : Bool) (fuel : Nat) (cs : List Value) (x : DataW H × List MemPlace),
    cs.length = s → DataW.trod enc P w base spare held fuel t cs = some x → ∃ y : X, R (fun _ => True) w cs y ∧ ((∀ k ∈ x.1.weights P t, k ≤ reachBytes) → Q y)
theorem OpensS.of {t : TypeId} {R : (Nat → Prop) → World → List Value → X → Prop} {s : Nat} (h : Opens P t R s) : OpensS P t R s (fun _ => True) :=
  ⟨h.1, h.2.1, fun H enc w base spare held fuel cs x hl hx => by
    obtain ⟨y, hy⟩ := h.2.2 H enc w base spare held fuel cs x hl hx
    exact ⟨y, hy, fun _ => trivial⟩⟩
theorem weights_all {H : Type} {e : TypeId} {d : DataW H} : ∀ {l : List (DataW H)}, d ∈ l → ∀ k ∈ d.weights P e, k ∈ DataW.weightsAll P e l
  | x :: l, h, k, hk => by
    simp only [DataW.weightsAll, List.mem_append]
    rcases List.mem_cons.1 h with rfl | h
    · exact .inl hk
    · exact .inr (weights_all h k hk)

theorem opens_sliceS {R : (Nat → Prop) → World → List Value → X → Prop} {t e : TypeId} {s : Nat} {Q : X → Prop} (ht : P.underlying t = some (.slice e)) (ho : OpensS P e R s Q) {H : Type} {enc : TypeId × Value → H} {w : World} {base : Nat} {spare : Nat → Bool} {held : Bool} {fuel : Nat} {cs : List Value} {x : DataW H × List MemPlace}
    (h : DataW.trod enc P w base spare held fuel t cs = some x) : ∃ A n c xs, cs = [.slice A n c] ∧ n ≤ c ∧ c ≤ maxLen ∧ RdL R s (fun _ => True) w A n xs ∧ ((∀ k ∈ x.1.weights P t, k ≤ reachBytes) → n * P.bytesOf e ≤ reachBytes ∧ ∀ y ∈ xs, Q y) := by
  obtain ⟨hs, hpos, hR⟩ := ho
  rcases open_slice ht h with ⟨rfl, _⟩ | ⟨a, len, cap, m, n, D, Pl, rfl, hb, hl, hm, hmm, hx, hi⟩
  · exact ⟨none, 0, 0, [], rfl, Nat.le_refl _, by simp [maxLen], RdL.nil, fun _ => ⟨by simp, fun y hy => by cases hy⟩⟩
  · have hlm : len ≤ m := by rw [hmm]; split <;> omega
    rw [hs] at hi
    have hw1 : (∀ k ∈ x.1.weights P t, k ≤ reachBytes) → len * P.bytesOf e ≤ reachBytes ∧ ∀ i, i < len → ∀ k ∈ (D i).weights P e, k ≤ reachBytes := fun hk => by
      rw [hx] at hk
      simp only [DataW.weights, ht, List.length_map, List.length_range] at hk
      constructor
      · have := hk _ (List.mem_cons_self ..)
        exact Nat.le_trans (Nat.mul_le_mul_right _ (Nat.le_add_right _ _)) this
      · intro i hil k hkd
        refine hk k (List.mem_cons_of_mem _ (List.mem_append_left _ (weights_all (d := D i) ?_ k hkd)))
        exact List.mem_map.2 ⟨i, List.mem_range.2 hil, rfl⟩
    have hel : ∀ i, i < len → ∃ (cs' : List Value) (y : X), cs'.length = s ∧ R (fun _ => True) w cs' y ∧ (∀ j v, cs'[j]? = some v → w.cell? ((a.add (i * s)).add j) = some v) ∧ ((∀ k ∈ x.1.weights P t, k ≤ reachBytes) → Q y) := by
      intro i hil
      obtain ⟨cs', h1, h2⟩ := hi i (by omega)
      obtain ⟨_, h3, h4⟩ := World.cells?_some h1
      obtain ⟨y, hy, hq⟩ := hR _ _ _ _ _ _ _ _ _ h3 h2
      exact ⟨cs', y, h3, hy, fun j v hj => by
        have hjl := (List.getElem?_eq_some_iff.1 hj).1
        rw [h4 j (by omega), hj], fun hk => hq ((hw1 hk).2 i hil)⟩
    rcases Nat.eq_zero_or_pos len with h0 | h0
    · subst h0
      exact ⟨some a, 0, cap, [], rfl, hl, hm, RdL.nil, fun _ => ⟨by simp, fun y hy => by cases hy⟩⟩
    · have hspot : a.spot = none := by
        obtain ⟨cs', y, h1, _, h2, _⟩ := hel 0 h0
        have h3 := h2 0 (cs'[0]'(by omega)) (List.getElem?_eq_getElem (by omega))
        simp only [Nat.zero_mul, Addr.add, if_true] at h3
        unfold World.cell? at h3
        split at h3
        · split at h3
          · cases h3
          · rename_i hs; simpa using hs
        · cases h3
      obtain ⟨b, o, sp⟩ := a
      simp only at hspot
      subst hspot
      have hxs : ∀ k, k ≤ len → ∃ xs : List X, xs.length = k ∧ ∀ i y, xs[i]? = some y → (∃ cs' : List Value, cs'.length = s ∧ R (fun _ => True) w cs' y ∧ ∀ j v, cs'[j]? = some v → w.cell? ⟨b, o + i * s + j, none⟩ = some v) ∧ ((∀ k ∈ x.1.weights P t, k ≤ reachBytes) → Q y) := by
        intro k
        induction k with
        | zero => exact fun _ => ⟨[], rfl, by simp⟩
        | succ k ih =>
          intro hk
          obtain ⟨xs, e1, e2⟩ := ih (by omega)
          obtain ⟨cs', y, h1, h2, h3, h4⟩ := hel k (by omega)
          refine ⟨xs ++ [y], by simp [e1], fun i y' hy' => ?_⟩
          by_cases hik : i < k
          · rw [List.getElem?_append_left (by omega)] at hy'
            exact e2 i y' hy'
          · have hie : i = k := by
              have := (List.getElem?_eq_some_iff.1 hy').1
              simp [e1] at this; omega
            subst hie
            rw [List.getElem?_append_right (by omega)] at hy'
            simp only [e1, Nat.sub_self, List.getElem?_cons_zero, Option.some.injEq] at hy'
            subst hy'
            exact ⟨⟨cs', h1, h2, fun j v hj => by have := h3 j v hj; rw [Addr.add_lit, Addr.add_lit] at this; exact this⟩, h4⟩
      obtain ⟨xs, e1, e2⟩ := hxs len (Nat.le_refl _)
      obtain ⟨cs', y, h1, _, h3, _⟩ := hel 0 h0
      have hblt : b < w.heap.size := by
        have := h3 0 (cs'[0]'(by omega)) (List.getElem?_eq_getElem (by omega))
        have := World.block_lt_of_cell? w _ this
        simpa [Addr.add_lit] using this
      exact ⟨some ⟨b, o, none⟩, len, cap, xs, rfl, hl, hm, ⟨e1, fun _ => ⟨b, o, rfl, trivial, hblt, fun i y hy => (e2 i y hy).1⟩⟩, fun hk => ⟨(hw1 hk).1, fun y hy => by
        obtain ⟨j, hj, rfl⟩ := List.getElem_of_mem hy
        exact (e2 j _ (List.getElem?_eq_getElem hj)).2 hk⟩⟩
/-- A slice among the arguments. -/
theorem open_rdS {R : (Nat → Prop) → World → List Value → X → Prop} {t e : TypeId} {s : Nat} {Q : X → Prop} (ht : P.underlying t = some (.slice e)) (ho : OpensS P e R s Q) {H : Type} {enc : TypeId × Value → H} {w : World} {base b0 : Nat} {spare : Nat → Bool} {held : Bool} {r : Reach} {v : Value} {d : DataW H} {ps : List MemPlace}
    (hval : Value.okWide P w r b0 t v) (h : DataW.Trod enc P w base spare held t v d ps) (hsz : ∀ k ∈ d.weights P t, k ≤ reachBytes) : ∃ A n c xs, v = .slice A n c ∧ n ≤ c ∧ c ≤ maxLen ∧ RdL R s (fun _ => True) w A n xs ∧ ∀ y ∈ xs, Q y := by
  obtain ⟨A, n, c, rfl⟩ := okWide_slice ht hval
  obtain ⟨fuel, hf⟩ := h
  obtain ⟨A', n', c', xs, e1, e2, e3, e4, e5⟩ := opens_sliceS ht ho hf
  simp only [Value.cells, List.cons.injEq, and_true, Value.slice.injEq] at e1
  obtain ⟨rfl, rfl, rfl⟩ := e1
  exact ⟨A, n, c, xs, rfl, e2, e3, e4, (e5 hsz).2⟩
end
end Go.Cib
