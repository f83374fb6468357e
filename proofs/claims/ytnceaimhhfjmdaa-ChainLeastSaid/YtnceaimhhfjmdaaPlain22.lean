/-
  The plain law: what chain.Prune keeps and drops is what the document's Prune does.
-/
import Derived.Test.YtnceaimhhfjmdaaRef3
set_option linter.unusedSimpArgs false
set_option linter.unusedVariables false
namespace Go.Proofs.Ytnceaimhhfjmdaa
open Go.RowKit Go.Cib
attribute [local go_sem] cell_set Later.cell Later.frozen Grw.cell Grw.frozen

theorem sel_congr {p q : Nat → Bool} : ∀ (l : List Ver) (i : Nat), (∀ j, j < l.length → p (i + j) = q (i + j)) → sel p i l = sel q i l
  | [], _, _ => rfl
  | v :: l, i, h => by
    have h0 := h 0 (by simp)
    have ih := sel_congr (p := p) (q := q) l (i + 1) fun j hj => by have := h (j + 1) (by simp <;> omega); rw [show i + 1 + j = i + (j + 1) by omega]; first | done | exact this
    simp only [Nat.add_zero] at h0
    simp only [sel, h0, ih]
theorem sel_all {p : Nat → Bool} : ∀ (l : List Ver) (i : Nat), (∀ j, j < l.length → p (i + j) = true) → sel p i l = l
  | [], _, _ => rfl
  | v :: l, i, h => by
    have h0 := h 0 (by simp)
    have ih := sel_all (p := p) l (i + 1) fun j hj => by have := h (j + 1) (by simp <;> omega); rw [show i + 1 + j = i + (j + 1) by omega]; first | done | exact this
    simp only [Nat.add_zero] at h0
    simp only [sel, h0, ih, if_true]
theorem sel_none {p : Nat → Bool} : ∀ (l : List Ver) (i : Nat), sel p i l = [] ↔ ∀ j, j < l.length → p (i + j) = false
  | [], _ => by simp [sel]
  | v :: l, i => by
    have ih := sel_none (p := p) l (i + 1)
    simp only [sel]
    constructor
    · intro h j hj
      by_cases hp : p i = true
      · rw [if_pos hp] at h; cases h
      · rw [if_neg hp] at h
        rcases Nat.eq_zero_or_pos j with h0 | h0
        · subst h0; simpa using hp
        · have := ih.1 h (j - 1) (by simp at hj; omega)
          rw [show i + 1 + (j - 1) = i + j by omega] at this; exact this
    · intro h
      have h0 := h 0 (by simp)
      simp only [Nat.add_zero] at h0
      rw [h0, if_neg (by simp)]
      exact ih.2 fun j hj => by have := h (j + 1) (by simp <;> omega); rw [show i + 1 + j = i + (j + 1) by omega]; first | done | exact this

theorem seen_look (l : List Ver) (i : Int) : ∀ (starts : List Int) (es : List (Int × Value)), (mlook (starts.foldl (seenStep l) es) i).isSome = ((mlook es i).isSome || starts.any fun s => decide (seenIdx l s < l.length ∧ (seenIdx l s : Int) = i))
  | [], es => by simp
  | s :: r, es => by
    rw [List.foldl_cons, seen_look l i r, List.any_cons]
    by_cases h : seenIdx l s < l.length
    · rw [seenStep, if_pos h, look_put]
      by_cases h2 : (seenIdx l s : Int) = i
      · simp [h, h2]
      · simp [h2]
    · rw [seenStep, if_neg h]; simp [h]

theorem seen_needed {l : List Ver} {starts : List Int} {i : Nat} (hi : i < l.length) : (mlook (seenEs l starts) (i : Int)).isSome = neededB l starts i := by
  rw [seenEs, seen_look, neededB, Bool.or_comm]
  congr 1
  · congr 1
    funext s
    rw [seenZ]
    by_cases h : seenIdx l s < l.length
    · rw [if_pos h]; simp only [h, true_and]; rw [Bool.eq_iff_iff]; simp
    · rw [if_neg h]; simp [h] <;> omega
  · simp [mlook]
    by_cases h : i = 0
    · subst h; simp
    · have : ¬ (0 : Int) = (i : Int) := by omega
      simp [this, h]

theorem put_all (es : List (Int × Value)) (k : Int) (v : Value) : (mput es k v).all (fun p => p.1 == 0) = ((k == 0) && es.all (fun p => p.1 == 0)) := by
  rw [Bool.eq_iff_iff]
  simp only [Bool.and_eq_true, List.all_eq_true]
  have hk := put_keys es k v
  constructor
  · intro h
    constructor
    · obtain ⟨p, hp, e⟩ := List.mem_map.1 ((hk k).2 (.inl rfl))
      have := h p hp; rw [e] at this; exact this
    · intro p hp
      obtain ⟨q, hq, e⟩ := List.mem_map.1 ((hk p.1).2 (.inr (List.mem_map.2 ⟨p, hp, rfl⟩)))
      have := h q hq; rw [e] at this; exact this
  · rintro ⟨h1, h2⟩ p hp
    rcases (hk p.1).1 (List.mem_map.2 ⟨p, hp, rfl⟩) with e | e
    · rw [e]; exact h1
    · obtain ⟨q, hq, e2⟩ := List.mem_map.1 e
      have := h2 q hq; rw [e2] at this; exact this

theorem seen_all (l : List Ver) : ∀ (starts : List Int) (es : List (Int × Value)), (starts.foldl (seenStep l) es).all (fun p => p.1 == 0) = (es.all (fun p => p.1 == 0) && starts.all fun s => decide (seenIdx l s < l.length → seenIdx l s = 0))
  | [], es => by simp
  | s :: r, es => by
    rw [List.foldl_cons, seen_all l r, List.all_cons]
    by_cases h : seenIdx l s < l.length
    · rw [seenStep, if_pos h, put_all]
      have : ((seenIdx l s : Int) == 0) = decide (seenIdx l s = 0) := by rw [Bool.eq_iff_iff]; simp
      rw [this]
      have h2 : decide (seenIdx l s < l.length → seenIdx l s = 0) = decide (seenIdx l s = 0) := by simp [h]
      rw [h2, Bool.and_comm (decide _), Bool.and_assoc]
    · rw [seenStep, if_neg h]
      have h2 : decide (seenIdx l s < l.length → seenIdx l s = 0) = true := by simp [h]
      rw [h2, Bool.true_and]

theorem prune_eq (l : List Ver) (starts : List Int) : sel (keepP l starts) 0 l = (refPruneL l starts).1 ∧ sel (fun i => !keepP l starts i) 0 l = (refPruneL l starts).2 := by
  cases hR : rightL l with
  | false =>
    have h1 : refPruneL l starts = (sel (refP l starts) 0 l, sel (fun i => !refP l starts i) 0 l) := by rw [refPruneL, if_neg (by rw [hR]; simp)]
    rw [h1]
    constructor
    · exact sel_congr l 0 fun j hj => by simp [keepP, refP, hR]
    · exact sel_congr l 0 fun j hj => by simp [keepP, refP, hR]
  | true =>
    have hp : ∀ j, j < l.length → keepP l starts j = (refP l starts j && !noneB l starts) := fun j hj => by
      rw [keepP, refP, hR, seen_needed hj]; simp
    cases hn : noneB l starts with
    | false =>
      have h1 : refPruneL l starts = (sel (refP l starts) 0 l, sel (fun i => !refP l starts i) 0 l) := by
        rw [refPruneL, if_pos hR]
        split
        · rename_i x hx
          rw [if_neg]
          intro hc
          rw [Bool.and_eq_true] at hc
          cases l with
          | nil => simp [sel] at hx
          | cons v r =>
            have hp0 : refP (v :: r) starts 0 = true := by simp [refP, neededB]
            simp only [sel, hp0, if_true, List.cons.injEq] at hx
            obtain ⟨rfl, hx⟩ := hx
            have hnn := (sel_none r 1).1 hx
            have : noneB (v :: r) starts = true := by
              rw [noneB, hR, Bool.true_and, goneL, hc.1, Bool.true_and, Bool.and_eq_true]
              refine ⟨?_, ?_⟩
              · rw [seenEs, seen_all]
                simp only [List.all_cons, List.all_nil, Bool.and_true, Bool.and_eq_true, List.all_eq_true, decide_eq_true_eq]
                refine ⟨by simp, fun s hs hlt => ?_⟩
                rcases Nat.eq_zero_or_pos (seenIdx (v :: r) s) with h0 | h0
                · exact h0
                · have h2 := hnn (seenIdx (v :: r) s - 1) (by simp at hlt; omega)
                  rw [show 1 + (seenIdx (v :: r) s - 1) = seenIdx (v :: r) s by omega] at h2
                  have h3 : refP (v :: r) starts (seenIdx (v :: r) s) = true := by
                    rw [refP, Bool.or_eq_true]
                    right
                    rw [neededB, Bool.or_eq_true]
                    left
                    rw [List.any_eq_true]
                    exact ⟨s, hs, by rw [seenZ, if_pos hlt]; simp⟩
                  rw [h3] at h2; cases h2
              · have := hc.2
                simp only [List.all_eq_true] at this ⊢
                intro s hs
                have := this s hs
                simpa using this
            rw [hn] at this; cases this
        · rfl
      rw [h1]
      exact ⟨sel_congr l 0 fun j hj => by rw [Nat.zero_add, hp j hj, hn]; simp, sel_congr l 0 fun j hj => by rw [Nat.zero_add, hp j hj, hn]; simp⟩
    | true =>
      have hk : ∀ j, j < l.length → keepP l starts (0 + j) = false := fun j hj => by rw [Nat.zero_add, hp j hj, hn]; simp
      rw [(sel_none l 0).2 hk, sel_all l 0 (fun j hj => by rw [hk j hj]; rfl)]
      rw [noneB, hR, Bool.true_and] at hn
      cases l with
      | nil => simp [goneL] at hn
      | cons v r =>
        rw [goneL, Bool.and_eq_true, Bool.and_eq_true] at hn
        obtain ⟨h1, h2, h3⟩ := hn
        have hp0 : refP (v :: r) starts 0 = true := by simp [refP, neededB]
        have hone : sel (refP (v :: r) starts) 0 (v :: r) = [v] := by
          simp only [sel, hp0, if_true, List.cons.injEq, true_and]
          rw [sel_none]
          intro j hj
          rw [seenEs, seen_all] at h2
          simp only [List.all_cons, List.all_nil, Bool.and_true, Bool.and_eq_true, List.all_eq_true, decide_eq_true_eq] at h2
          rw [refP, hR, neededB]
          simp only [Bool.not_true, Bool.false_or, Bool.or_eq_false_iff]
          refine ⟨?_, by simp; omega⟩
          rw [List.any_eq_false]
          intro s hs
          rw [seenZ]
          split
          · rename_i hlt
            have := h2.2 s hs hlt
            rw [this]; simp; omega
          · simp; omega
        have hc : (v.dead && starts.all fun s => !decide (v.stamp > s)) = true := by
          rw [h1, Bool.true_and]
          simpa using h3
        rw [refPruneL, if_pos hR, hone]
        simp only [hc, if_true]
        exact ⟨trivial, trivial⟩
end Go.Proofs.Ytnceaimhhfjmdaa
