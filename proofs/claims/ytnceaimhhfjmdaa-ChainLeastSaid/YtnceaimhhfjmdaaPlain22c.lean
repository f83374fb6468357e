/-
  What is left of a right chain that is pruned; plain.
-/
import Derived.Test.YtnceaimhhfjmdaaPlain22b
set_option linter.unusedSimpArgs false
set_option linter.unusedVariables false
namespace Go.Proofs.Ytnceaimhhfjmdaa
open Go.RowKit Go.Cib
attribute [local go_sem] cell_set Later.cell Later.frozen Grw.cell Grw.frozen

/-! ### Right chains as lists that fall -/
def okV (v : Ver) : Bool := !(v.dead && !v.bare)
theorem right_iff : ∀ {l : List Ver}, rightL l = true ↔ (∀ v ∈ l, okV v = true) ∧ l.Pairwise (fun a b => b.stamp < a.stamp) := by
  intro l
  constructor
  · intro h
    refine ⟨fun v hv => ?_, ?_⟩
    · obtain ⟨i, hi, rfl⟩ := List.mem_iff_getElem.1 hv
      simp only [rightL, List.all_eq_true, List.mem_range] at h
      have h1 := h i hi
      simp only [okAt, Bool.and_eq_true] at h1
      have h2 : l.getD i .none_ = l[i] := by simp [hi]
      rw [h2] at h1
      exact h1.1
    · rw [List.pairwise_iff_getElem]
      intro i j hi hj hij
      have := stamps_fall h (j - i) i (by omega) (by omega)
      rw [show i + (j - i) = j by omega] at this
      simpa [hi, hj] using this
  · rintro ⟨h1, h2⟩
    simp only [rightL, List.all_eq_true, List.mem_range]
    intro i hi
    rw [List.pairwise_iff_getElem] at h2
    have e : l.getD i .none_ = l[i] := by simp [hi]
    simp only [okAt, Bool.and_eq_true, e]
    refine ⟨h1 _ (List.getElem_mem hi), ?_⟩
    rcases Nat.eq_zero_or_pos i with h0 | h0
    · subst h0; simp
    · have h3 := h2 (i - 1) i (by omega) hi (by omega)
      have e2 : l.getD (i - 1) .none_ = l[i - 1] := by simp [show i - 1 < l.length by omega]
      rw [e2]
      simp only [Bool.not_eq_true', Bool.and_eq_false_iff, decide_eq_false_iff_not]
      right; omega

theorem sel_sub (p : Nat → Bool) : ∀ (l : List Ver) (i : Nat), (sel p i l).Sublist l
  | [], _ => List.Sublist.refl _
  | v :: l, i => by
    simp only [sel]
    split
    · exact (sel_sub p l (i + 1)).cons_cons v
    · exact (sel_sub p l (i + 1)).cons v
theorem right_sel {l : List Ver} (h : rightL l = true) (p : Nat → Bool) (i : Nat) : rightL (sel p i l) = true := by
  rw [right_iff] at h ⊢
  exact ⟨fun v hv => h.1 v ((sel_sub p l i).subset hv), h.2.sublist (sel_sub p l i)⟩
theorem sel_lens (p : Nat → Bool) : ∀ (l : List Ver) (i : Nat), (sel p i l).length + (sel (fun j => !p j) i l).length = l.length
  | [], _ => rfl
  | v :: l, i => by
    have := sel_lens p l (i + 1)
    simp only [sel]
    by_cases hp : p i = true
    · simp [hp]; omega
    · simp [hp]; omega
theorem sel_find {p : Nat → Bool} {q : Ver → Bool} : ∀ (l : List Ver) (i : Nat), (l.findIdx q < l.length → p (i + l.findIdx q) = true) → (sel p i l).find? q = l.find? q
  | [], _, _ => rfl
  | v :: l, i, h => by
    cases hq : q v with
    | true =>
      have h1 : (v :: l).findIdx q = 0 := by simp [List.findIdx_cons, hq]
      have h2 := h (by rw [h1]; simp)
      rw [h1, Nat.add_zero] at h2
      simp [sel, h2, List.find?_cons, hq]
    | false =>
      have h1 : (v :: l).findIdx q = l.findIdx q + 1 := by simp [List.findIdx_cons, hq]
      have ih := sel_find (p := p) (q := q) l (i + 1) fun hlt => by
        have := h (by rw [h1]; simpa using hlt)
        rw [h1] at this
        rw [show i + 1 + l.findIdx q = i + (l.findIdx q + 1) by omega]; exact this
      simp only [sel]
      split <;> simp [List.find?_cons, hq, ih]

/-! ### What is kept -/
def seenP (l : List Ver) (starts : List Int) (i : Nat) : Bool := decide (i = 0) || starts.any fun s => decide (seenIdx l s = i)

theorem needed_seenP {l : List Ver} {starts : List Int} {i : Nat} (hi : i < l.length) : (mlook (seenEs l starts) (i : Int)).isSome = seenP l starts i := by
  rw [seen_needed hi, neededB, seenP, Bool.or_comm]
  congr 1
  · rw [Bool.eq_iff_iff]; simp
  · congr 1
    funext s
    rw [seenZ]
    split
    · rw [Bool.eq_iff_iff]; simp only [beq_iff_eq, decide_eq_true_eq]; omega
    · rename_i h
      have h1 : ¬ seenIdx l s = i := by omega
      simp [h1] <;> omega

theorem seenIdx_zero {v : Ver} {r : List Ver} {s : Int} (h : v.stamp ≤ s) : seenIdx (v :: r) s = 0 := by
  simp [seenIdx, List.findIdx_cons, h]
theorem noneB_iff {l : List Ver} {starts : List Int} (h : rightL l = true) : noneB l starts = true ↔ ∃ v r, l = v :: r ∧ v.dead = true ∧ ∀ s ∈ starts, v.stamp ≤ s := by
  rw [noneB, h, Bool.true_and]
  cases l with
  | nil => simp [goneL]
  | cons v r =>
    rw [goneL, Bool.and_eq_true, Bool.and_eq_true]
    constructor
    · rintro ⟨h1, _, h3⟩
      refine ⟨v, r, rfl, h1, fun s hs => ?_⟩
      simp only [List.all_eq_true] at h3
      have := h3 s hs
      simp at this; omega
    · rintro ⟨v', r', e, h1, h3⟩
      injection e with e1 e2
      subst e1; subst e2
      refine ⟨h1, ?_, ?_⟩
      · rw [seenEs, seen_all]
        simp only [List.all_cons, List.all_nil, Bool.and_true, Bool.and_eq_true, List.all_eq_true, decide_eq_true_eq]
        exact ⟨by simp, fun s hs _ => seenIdx_zero (h3 s hs)⟩
      · simp only [List.all_eq_true]
        intro s hs
        have := h3 s hs
        simp; omega

theorem keep_is {l : List Ver} {starts : List Int} (h : rightL l = true) {i : Nat} (hi : i < l.length) : keepP l starts i = (seenP l starts i && !noneB l starts) := by
  rw [keepP, h, needed_seenP hi]; simp

/-- What is kept where something is: by seenP. -/
theorem kept_eq {l : List Ver} {starts : List Int} (h : rightL l = true) (hn : noneB l starts = false) : sel (keepP l starts) 0 l = sel (seenP l starts) 0 l :=
  sel_congr l 0 fun j hj => by rw [Nat.zero_add, keep_is h hj, hn]; simp
theorem kept_none {l : List Ver} {starts : List Int} (h : rightL l = true) (hn : noneB l starts = true) : sel (keepP l starts) 0 l = [] :=
  (sel_none l 0).2 fun j hj => by rw [Nat.zero_add, keep_is h hj, hn]; simp

theorem kept_at {l : List Ver} {starts : List Int} (h : rightL l = true) (hn : noneB l starts = false) {s : Int} (hs : s ∈ starts ∨ ∃ v r, l = v :: r ∧ v.stamp ≤ s) : atL (sel (keepP l starts) 0 l) s = atL l s := by
  rw [kept_eq h hn, atL, if_pos (right_sel h _ _), atL, if_pos h]
  refine sel_find l 0 fun _ => ?_
  rw [Nat.zero_add]
  rcases hs with hs | ⟨v, r, rfl, hv⟩
  · rw [seenP, Bool.or_eq_true]; right
    rw [List.any_eq_true]
    exact ⟨s, hs, by simp [seenIdx]⟩
  · have := seenIdx_zero (r := r) hv
    rw [seenIdx] at this
    rw [this]; simp [seenP]

theorem value_dead {v : Ver} {r : List Ver} {s : Int} (h : rightL (v :: r) = true) (hd : v.dead = true) (hs : v.stamp ≤ s) : valueL (v :: r) s = none := by
  rw [valueL, at_new h hs]; simp [hd]
theorem value_nil (s : Int) : valueL [] s = none := by
  have : atL [] s = none := by rw [atL]; split <;> simp
  rw [valueL, this]

theorem kept_value {l : List Ver} {starts : List Int} (h : rightL l = true) {s : Int} (hs : s ∈ starts ∨ ∃ v r, l = v :: r ∧ v.stamp ≤ s) : valueL (sel (keepP l starts) 0 l) s = valueL l s := by
  cases hn : noneB l starts with
  | true =>
    rw [kept_none h hn, value_nil]
    obtain ⟨v, r, rfl, hd, hall⟩ := (noneB_iff h).1 hn
    refine (value_dead h hd ?_).symm
    rcases hs with hs | ⟨v', r', e, hv⟩
    · exact hall s hs
    · injection e with e1 e2; subst e1; exact hv
  | false => rw [valueL, kept_at h hn hs, valueL]

/-! ### Each that is kept -/
theorem sel_from {p : Nat → Bool} : ∀ (l : List Ver) (i : Nat) (x : Ver), x ∈ sel p i l → ∃ j, j < l.length ∧ p (i + j) = true ∧ l[j]? = some x
  | [], _, _, h => by simp [sel] at h
  | v :: l, i, x, h => by
    simp only [sel] at h
    by_cases hp : p i = true
    · rw [if_pos hp] at h
      rcases List.mem_cons.1 h with rfl | h
      · exact ⟨0, by simp, by simpa using hp, by simp⟩
      · obtain ⟨j, h1, h2, h3⟩ := sel_from l (i + 1) x h
        exact ⟨j + 1, by simpa using h1, by rw [← h2]; congr 1; omega, by simpa using h3⟩
    · rw [if_neg hp] at h
      obtain ⟨j, h1, h2, h3⟩ := sel_from l (i + 1) x h
      exact ⟨j + 1, by simpa using h1, by rw [← h2]; congr 1; omega, by simpa using h3⟩

theorem sel_head {p : Nat → Bool} {v : Ver} {r : List Ver} (hp : p 0 = true) : sel p 0 (v :: r) = v :: sel p 1 r := by simp [sel, hp]

/-- Element i of what is kept: the newest, at place 0; or what one of starts sees. -/
theorem kept_each {l : List Ver} {starts : List Int} (h : rightL l = true) {i : Nat} {x : Ver} (hx : (sel (keepP l starts) 0 l)[i]? = some x) : (i = 0 ∧ l[0]? = some x) ∨ ∃ s ∈ starts, atL l s = some x := by
  cases hn : noneB l starts with
  | true => rw [kept_none h hn] at hx; simp at hx
  | false =>
    rw [kept_eq h hn] at hx
    cases l with
    | nil => simp [sel] at hx
    | cons v r =>
      have hp0 : seenP (v :: r) starts 0 = true := by simp [seenP]
      obtain ⟨j, h1, h2, h3⟩ := sel_from _ 0 x (List.mem_of_getElem? hx)
      rw [Nat.zero_add, seenP, Bool.or_eq_true] at h2
      rcases h2 with h2 | h2
      · left
        have hj : j = 0 := by simpa using h2
        subst hj
        refine ⟨?_, h3⟩
        have hr := right_sel h (seenP (v :: r) starts) 0
        rw [sel_head hp0] at hx hr
        simp only [List.getElem?_cons_zero, Option.some.injEq] at h3
        subst h3
        cases i with
        | zero => rfl
        | succ i =>
          exfalso
          have := (List.pairwise_cons.1 (right_iff.1 hr).2).1 v (List.mem_of_getElem? (by simpa using hx))
          omega
      · right
        rw [List.any_eq_true] at h2
        obtain ⟨s, hs, h4⟩ := h2
        refine ⟨s, hs, ?_⟩
        rw [atL_idx h, show seenIdx (v :: r) s = j by simpa using h4, h3]

theorem fall_inj {l : List Ver} (h : rightL l = true) {i j : Nat} {x : Ver} (hi : l[i]? = some x) (hj : l[j]? = some x) : i = j := by
  obtain ⟨hi1, hi2⟩ := List.getElem?_eq_some_iff.1 hi
  obtain ⟨hj1, hj2⟩ := List.getElem?_eq_some_iff.1 hj
  have hp := List.pairwise_iff_getElem.1 (right_iff.1 h).2
  rcases Nat.lt_trichotomy i j with h1 | h1 | h1
  · have := hp i j hi1 hj1 h1; rw [hi2, hj2] at this; omega
  · exact h1
  · have := hp j i hj1 hi1 h1; rw [hi2, hj2] at this; omega

/-- Pruned again, all is kept. -/
theorem again_all {l : List Ver} {starts : List Int} (h : rightL l = true) : ∀ j, j < (sel (keepP l starts) 0 l).length → keepP (sel (keepP l starts) 0 l) starts (0 + j) = true := by
  intro j hj
  have hk := right_sel h (keepP l starts) 0
  cases hn : noneB l starts with
  | true => rw [kept_none h hn] at hj; simp at hj
  | false =>
    rw [Nat.zero_add, keep_is hk hj, Bool.and_eq_true]
    have hx := List.getElem?_eq_getElem hj
    refine ⟨?_, ?_⟩
    · rw [seenP, Bool.or_eq_true]
      rcases kept_each h hx with ⟨h1, _⟩ | ⟨s, hs, h1⟩
      · left; simpa using h1
      · right
        rw [List.any_eq_true]
        refine ⟨s, hs, ?_⟩
        have h2 := kept_at h hn (.inl hs)
        rw [h1, atL_idx hk] at h2
        simpa using fall_inj hk h2 hx
    · cases hm : noneB (sel (keepP l starts) 0 l) starts with
      | false => rfl
      | true =>
        exfalso
        obtain ⟨v, r, e, hd, hall⟩ := (noneB_iff hk).1 hm
        cases l with
        | nil => simp [sel] at hj
        | cons v' r' =>
          have hp0 : keepP (v' :: r') starts 0 = true := by rw [keep_is h (by simp), hn]; simp [seenP]
          rw [sel_head hp0] at e
          injection e with e1 e2
          subst e1
          have : noneB (v' :: r') starts = true := (noneB_iff h).2 ⟨v', r', rfl, hd, hall⟩
          rw [hn] at this; cases this
theorem again_eq {l : List Ver} {starts : List Int} (h : rightL l = true) : sel (keepP (sel (keepP l starts) 0 l) starts) 0 (sel (keepP l starts) 0 l) = sel (keepP l starts) 0 l := sel_all _ 0 (again_all h)
theorem again_none {l : List Ver} {starts : List Int} (h : rightL l = true) : sel (fun i => !keepP (sel (keepP l starts) 0 l) starts i) 0 (sel (keepP l starts) 0 l) = [] :=
  (sel_none _ 0).2 fun j hj => by have := again_all (starts := starts) h j hj; rw [this]; rfl

/-- Without starts. -/
theorem kept_dead {v : Ver} {r : List Ver} (h : rightL (v :: r) = true) (hd : v.dead = true) : sel (keepP (v :: r) []) 0 (v :: r) = [] := kept_none h ((noneB_iff h).2 ⟨v, r, rfl, hd, by simp⟩)
theorem kept_one {v : Ver} {r : List Ver} (h : rightL (v :: r) = true) (hd : v.dead = false) : sel (keepP (v :: r) []) 0 (v :: r) = [v] := by
  have hn : noneB (v :: r) [] = false := by
    cases hm : noneB (v :: r) [] with
    | false => rfl
    | true =>
      obtain ⟨v', r', e, hd', _⟩ := (noneB_iff h).1 hm
      injection e with e1 e2
      subst e1; rw [hd] at hd'; cases hd'
  rw [kept_eq h hn, sel_head (by simp [seenP])]
  have : sel (seenP (v :: r) []) 1 r = [] := (sel_none r 1).2 fun j hj => by simp [seenP]
  rw [this]
end Go.Proofs.Ytnceaimhhfjmdaa
