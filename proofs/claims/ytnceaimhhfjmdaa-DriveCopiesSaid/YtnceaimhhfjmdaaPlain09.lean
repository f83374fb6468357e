/-
  A drive and the document's: they are the same, whatever is done.
-/
import Derived.Test.YtnceaimhhfjmdaaFew
set_option linter.unusedSimpArgs false
set_option linter.unusedVariables false
namespace Go.Proofs.Ytnceaimhhfjmdaa
open Go.RowKit Go.Cib
attribute [local go_sem] cell_set Later.cell Later.frozen Grw.cell Grw.frozen

structure Sim (n : Nat) (st : DSt) (rs : RSt) : Prop where
  dead : st.dead = rs.gone
  cache : st.cache = rs.wait.map (fun e => (e.at_, e.b))
  stored : st.dead = false → ∀ k : Nat, k < n → st.stored[k]? = some (storedE rs.L k)
  rotten : st.dead = false → ∀ k : Nat, k < n → st.rotten[k]? = some (badE rs.L k)
  ok : ∀ e ∈ rs.L, EvOk e
  okw : ∀ e ∈ rs.wait, e.mask = 0 ∧ e.b.length = 64

theorem snoc_ind {α : Type} {M : List α → Prop} (h0 : M []) (h1 : ∀ l x, M l → M (l ++ [x])) : ∀ l, M l := by
  have h : ∀ l : List α, M l.reverse := fun l => by
    induction l with
    | nil => exact h0
    | cons x l ih => rw [List.reverse_cons]; exact h1 _ _ ih
  intro l
  have := h l.reverse
  rwa [List.reverse_reverse] at this
theorem seen_wait (st : DSt) (k : Nat) : ∀ l : List Ev, ({ st with cache := l.map (fun e => (e.at_, e.b)) } : DSt).seen k = waitE l k ((st.stored[k]?).getD []) := by
  refine snoc_ind ?_ ?_
  · exact DSt.seen_nil rfl k
  · intro l e ih
    rw [waitE_snoc, ← ih, List.map_append]
    exact DSt.seen_write (st := { st with cache := l.map (fun e => (e.at_, e.b)) }) (k := e.at_) (s := e.b) (j := k)
theorem Sim.seen {n : Nat} {st : DSt} {rs : RSt} (h : Sim n st rs) (hd : st.dead = false) {k : Nat} (hk : k < n) : seenE rs k = st.seen k := by
  have := seen_wait st k rs.wait
  rw [← h.cache] at this
  have e : ({ st with cache := st.cache } : DSt) = st := rfl
  rw [e, h.stored hd k hk] at this
  rw [this]; rfl
theorem Sim.new (n : Nat) : Sim n (DSt.new n) RSt.new := by
  refine ⟨rfl, rfl, fun _ k hk => ?_, fun _ k hk => ?_, by simp [RSt.new], by simp [RSt.new]⟩
  · simp [DSt.new, hk]; rfl
  · simp [DSt.new, hk]; rfl
theorem put_sim (keep : Nat → Bool) (n : Nat) : ∀ (l : List Ev) (i : Nat) (xs : List (List Int)) (L : List Ev), xs.length = n → (∀ e ∈ l, e.mask = 0 ∧ 0 ≤ e.at_ ∧ e.at_ < n) → (∀ k : Nat, k < n → xs[k]? = some (storedE L k)) →
    ∀ k : Nat, k < n → (putL keep i (l.map (fun e => (e.at_, e.b))) xs)[k]? = some (storedE (L ++ keptE keep i l) k)
  | [], i, xs, L, _, _, h, k, hk => by simpa [putL, keptE] using h k hk
  | e :: l, i, xs, L, hl, he, h, k, hk => by
    have he1 := he e (by simp)
    rw [List.map_cons, putL, keptE]
    by_cases hki : keep i = true
    · rw [if_pos hki, if_pos hki, show L ++ e :: keptE keep (i + 1) l = (L ++ [e]) ++ keptE keep (i + 1) l by simp]
      refine put_sim keep n l (i + 1) _ (L ++ [e]) (by simpa using hl) (fun d hd => he d (List.mem_cons_of_mem _ hd)) (fun j hj => ?_) k hk
      rw [storedE_snoc, if_pos he1.1]
      by_cases hj2 : e.at_ = j
      · rw [if_pos hj2, show e.at_.toNat = j by omega]; simp [hl, hj]
      · rw [if_neg hj2, List.getElem?_set_ne (by show e.at_.toNat ≠ j; omega)]; exact h j hj
    · rw [if_neg hki, if_neg hki]
      exact put_sim keep n l (i + 1) xs L hl (fun d hd => he d (List.mem_cons_of_mem _ hd)) h k hk
theorem fresh_sim (keep : Nat → Bool) (n : Nat) : ∀ (l : List Ev) (i : Nat) (xs : List Bool) (L : List Ev), xs.length = n → (∀ e ∈ l, e.mask = 0 ∧ 0 ≤ e.at_ ∧ e.at_ < n) → (∀ k : Nat, k < n → xs[k]? = some (badE L k)) →
    ∀ k : Nat, k < n → (freshL keep i (l.map (fun e => (e.at_, e.b))) xs)[k]? = some (badE (L ++ keptE keep i l) k)
  | [], i, xs, L, _, _, h, k, hk => by simpa [freshL, keptE] using h k hk
  | e :: l, i, xs, L, hl, he, h, k, hk => by
    have he1 := he e (by simp)
    rw [List.map_cons, freshL, keptE]
    by_cases hki : keep i = true
    · rw [if_pos hki, if_pos hki, show L ++ e :: keptE keep (i + 1) l = (L ++ [e]) ++ keptE keep (i + 1) l by simp]
      refine fresh_sim keep n l (i + 1) _ (L ++ [e]) (by simpa using hl) (fun d hd => he d (List.mem_cons_of_mem _ hd)) (fun j hj => ?_) k hk
      rw [badE_snoc, he1.1]
      by_cases hj2 : e.at_ = j
      · rw [if_pos hj2, show e.at_.toNat = j by omega]; simp [hl, hj]
      · rw [if_neg hj2, List.getElem?_set_ne (by show e.at_.toNat ≠ j; omega)]; exact h j hj
    · rw [if_neg hki, if_neg hki]
      exact fresh_sim keep n l (i + 1) xs L hl (fun d hd => he d (List.mem_cons_of_mem _ hd)) h k hk
theorem keptE_mem (keep : Nat → Bool) : ∀ (l : List Ev) (i : Nat) (e : Ev), e ∈ keptE keep i l → e ∈ l
  | [], i, e, h => by simp [keptE] at h
  | d :: l, i, e, h => by
    rw [keptE] at h
    split at h
    · rcases List.mem_cons.1 h with h | h
      · simp [h]
      · exact List.mem_cons_of_mem _ (keptE_mem keep l _ e h)
    · exact List.mem_cons_of_mem _ (keptE_mem keep l _ e h)
theorem keptE_true : ∀ (l : List Ev) (i : Nat), keptE (fun _ => true) i l = l
  | [], i => rfl
  | d :: l, i => by rw [keptE, if_pos rfl, keptE_true l]
theorem Sim.settle {n : Nat} {st : DSt} {rs : RSt} (h : Sim n st rs) (hok : st.ok n) (keep : Nat → Bool) : Sim n (st.settle keep) { rs with L := rs.L ++ keptE keep 0 rs.wait, wait := [] } := by
  have hw : ∀ e ∈ rs.wait, e.mask = 0 ∧ 0 ≤ e.at_ ∧ e.at_ < n := fun e he => by
    have := hok.cat (e.at_, e.b) (by rw [h.cache]; exact List.mem_map.2 ⟨e, he, rfl⟩)
    exact ⟨(h.okw e he).1, this.1, this.2⟩
  refine ⟨h.dead, rfl, fun hd k hk => ?_, fun hd k hk => ?_, fun e he => ?_, by simp⟩
  · show (putL keep 0 st.cache st.stored)[k]? = _
    rw [h.cache]
    exact put_sim keep n rs.wait 0 st.stored rs.L hok.sl hw (h.stored hd) k hk
  · show (freshL keep 0 st.cache st.rotten)[k]? = _
    rw [h.cache]
    exact fresh_sim keep n rs.wait 0 st.rotten rs.L hok.rl hw (h.rotten hd) k hk
  · rcases List.mem_append.1 he with h1 | h1
    · exact h.ok e h1
    · exact .inl (h.okw e (keptE_mem keep _ _ e h1))
theorem Sim.write {n : Nat} {st : DSt} {rs : RSt} (h : Sim n st rs) (z : Int) (bs : List Int) : Sim n (wrD n st z bs) (wrR n rs z bs) := by
  unfold wrD wrR
  by_cases hc : readyE st.dead n z = 0 ∧ bs.length = 64
  · have hr := (ready_iff st n z).1 hc.1
    rw [if_pos hc, if_pos (show wrOk rs n z bs.length from ⟨h.dead ▸ hr.1, hr.2, hc.2⟩)]
    refine ⟨h.dead, by simp [DSt.write, h.cache], h.stored, h.rotten, h.ok, fun e he => ?_⟩
    rcases List.mem_append.1 he with h1 | h1
    · exact h.okw e h1
    · simp only [List.mem_singleton] at h1; subst h1; exact ⟨rfl, hc.2⟩
  · rw [if_neg hc, if_neg (fun hw : wrOk rs n z bs.length => hc ⟨(ready_iff st n z).2 ⟨h.dead.trans hw.1, hw.2.1⟩, hw.2.2⟩)]
    exact h
theorem Sim.flush {n : Nat} {st : DSt} {rs : RSt} (h : Sim n st rs) (hok : st.ok n) : Sim n (flD st) (flR rs) := by
  unfold flD flR
  by_cases hc : st.dead = false
  · rw [if_pos hc, if_pos (h.dead ▸ hc)]
    have := h.settle hok (fun _ => true)
    rwa [keptE_true] at this
  · rw [if_neg hc, if_neg (fun e => hc (h.dead.trans e))]
    exact h
theorem Sim.rot {n : Nat} {st : DSt} {rs : RSt} (h : Sim n st rs) (hok : st.ok n) (z off mask : Int) : Sim n (rtD n st z off mask) (rtR n rs z off mask) := by
  unfold rtD rtR
  have hb : st.dead = false → 0 ≤ z → z < n → st.rotten[z.toNat]? = some (badE rs.L z) := fun hd h0 hn => by
    have := h.rotten hd z.toNat (by omega)
    rwa [show ((z.toNat : Nat) : Int) = z by omega] at this
  by_cases hc : rotDOk st n z off mask
  · have hr : rrotOk rs n z off mask := ⟨h.dead ▸ hc.1.1, hc.1.2, hc.2.1.1, hc.2.1.2, by
      have := hb hc.1.1 hc.1.2.1 hc.1.2.2
      rw [hc.2.2] at this
      injection this with this
      exact this.symm⟩
    rw [if_pos hc, if_pos hr]
    obtain ⟨⟨hd, h0, hn⟩, ⟨ho, hm⟩, _⟩ := hc
    refine ⟨h.dead, h.cache, fun hd k hk => ?_, fun hd k hk => ?_, fun e he => ?_, h.okw⟩
    · show (st.stored.set z.toNat (rotTo ((st.stored[z.toNat]?).getD []) off.toNat mask 4))[k]? = _
      rw [storedE_snoc]
      by_cases hk2 : z = k
      · subst hk2
        have := h.stored hd k hk
        simp only [Int.toNat_natCast, ↓reduceIte, hm, this, Option.getD_some]
        rw [List.getElem?_set_self (by rw [hok.sl]; exact hk)]
      · rw [if_neg hk2, List.getElem?_set_ne (by omega)]
        exact h.stored hd k hk
    · show (st.rotten.set z.toNat true)[k]? = _
      rw [badE_snoc]
      by_cases hk2 : z = k
      · subst hk2
        have hmb : (mask == 0) = false := by simpa using hm
        simp only [Int.toNat_natCast, ↓reduceIte, hmb, Bool.not_false]
        rw [List.getElem?_set_self (by rw [hok.rl]; exact hk)]
      · rw [if_neg hk2, List.getElem?_set_ne (by omega)]
        exact h.rotten hd k hk
    · rcases List.mem_append.1 he with h1 | h1
      · exact h.ok e h1
      · simp only [List.mem_singleton] at h1; subst h1; exact .inr ⟨hm, ho⟩
  · rw [if_neg hc, if_neg (fun hr : rrotOk rs n z off mask => hc ⟨⟨h.dead.trans hr.1, hr.2.1⟩, ⟨hr.2.2.1, hr.2.2.2.1⟩, by
      have := hb (h.dead.trans hr.1) hr.2.1.1 hr.2.1.2
      rw [this, hr.2.2.2.2]⟩)]
    exact h
theorem Sim.act {n : Nat} {st : DSt} {rs : RSt} (h : Sim n st rs) (hok : st.ok n) (a : ActV) : Sim n (actD n st a) (actR n rs a) := by
  unfold actD actR
  split
  · exact h.write _ _
  split
  · exact h.flush hok
  split
  · exact h.settle hok _
  split
  · exact ⟨rfl, rfl, fun hd => by simp [DSt.gone] at hd, fun hd => by simp [DSt.gone] at hd, by simp, by simp⟩
  split
  · exact Sim.new n
  split
  · exact h.rot hok _ _ _
  split
  · exact h.write _ _
  · exact h
/-- How much was done. -/
def RSt.size (rs : RSt) : Nat := rs.L.length + rs.wait.length
theorem wrR_size (n : Nat) (rs : RSt) (z : Int) (bs : List Int) : (wrR n rs z bs).size ≤ rs.size + 1 := by
  unfold wrR RSt.size
  split <;> simp <;> omega
theorem actR_size (n : Nat) (rs : RSt) (a : ActV) : (actR n rs a).size ≤ rs.size + 1 := by
  unfold actR
  split
  · exact wrR_size _ _ _ _
  split
  · unfold flR RSt.size; split <;> simp <;> omega
  split
  · have := keptE_len (keepOf a.keep) rs.wait 0
    simp [RSt.size]; omega
  split
  · simp [RSt.size]
  split
  · simp [RSt.size]
  split
  · unfold rtR RSt.size; split <;> simp <;> omega
  split
  · exact wrR_size _ _ _ _
  · omega
def stD (n : Nat) (st : DSt) (l : List ActV) : DSt := l.foldl (actD n) st
def stR (n : Nat) (rs : RSt) (l : List ActV) : RSt := l.foldl (actR n) rs
theorem stD_snoc (n : Nat) (st : DSt) (l : List ActV) (a : ActV) : stD n st (l ++ [a]) = actD n (stD n st l) a := by simp [stD]
theorem stR_snoc (n : Nat) (rs : RSt) (l : List ActV) (a : ActV) : stR n rs (l ++ [a]) = actR n (stR n rs l) a := by simp [stR]
end Go.Proofs.Ytnceaimhhfjmdaa
