/-
  Drives side by side: how they lie.
-/
import Derived.Test.YtolmpopjonkfgaaDrvZ
set_option linter.unusedSimpArgs false
set_option linter.unusedVariables false
namespace Go.Proofs.Ytolmpopjonkfgaa
open Go.RowKit Go.Cib
attribute [local go_sem] cell_set Later.cell Later.frozen Grw.cell Grw.frozen

/-- A pointer, whole. -/
def PtrR (_ : Nat → Prop) (_ : World) (cs : List Value) (x : Nat) : Prop := cs = [.pointer (some ⟨x, 0, none⟩)]
theorem PtrR.stable : Stable PtrR := fun _ _ _ _ _ _ h _ => h
theorem PtrR.one : ∀ S w cs x, PtrR S w cs x → ∀ u ∈ cs, u.oneCell' = true := by
  rintro S w cs x rfl u hu
  simp at hu
  subst hu; rfl
structure ArrB (U : Nat → Prop) (w : World) (a : Nat) (v : Value) (Fs : Nat → Nat → Prop) (ps : List Nat) (s : Nat) (sts : List DSt) : Prop where
  box : BoxAt w a #[v]
  own : OwnL PtrR 25 1 0 (fun _ => False) w v ps.length ps
  len : sts.length = ps.length
  drv : ∀ i p st, ps[i]? = some p → sts[i]? = some st → DrvAt (Fs i) w p s st
  apart : ∀ i j k, Fs i k → Fs j k → i = j
  va : v.ownBlock ≠ some a
  fx : ∀ i k, Fs i k → k ≠ a ∧ v.ownBlock ≠ some k
  ua : U a
  uv : ∀ k, v.ownBlock = some k → U k
  uf : ∀ i k, Fs i k → U k
  lt : ∀ k, U k → k < w.heap.size
def ArrAt (U : Nat → Prop) (w : World) (a s : Nat) (sts : List DSt) : Prop := ∃ v Fs ps, ArrB U w a v Fs ps s sts
def AUpd (U : Nat → Prop) (w w' : World) (a s : Nat) (sts : List DSt) : Prop := ∃ U', ArrAt U' w' a s sts ∧ (∀ k, U' k → k < w.heap.size → U k) ∧ Keep U w w'

theorem ArrB.keep {U G : Nat → Prop} {w w' : World} {a s : Nat} {v : Value} {Fs : Nat → Nat → Prop} {ps : List Nat} {sts : List DSt} (h : ArrB U w a v Fs ps s sts) (hk : Keep G w w') (hd : ∀ k, U k → ¬ G k) : ArrB U w' a v Fs ps s sts := by
  have hh : ∀ k, U k → w'.heap[k]? = w.heap[k]? := fun k hu => hk.block k (h.lt k hu) (hd k hu)
  refine ⟨h.box.keep (hh a h.ua), ?_, h.len, fun i p st h1 h2 => (h.drv i p st h1 h2).keep hk (fun k hf => hd k (h.uf i k hf)), h.apart, h.va, h.fx, h.ua, h.uv, h.uf, fun k hu => Nat.lt_of_lt_of_le (h.lt k hu) hk.size⟩
  obtain ⟨css, h1, h2, h3, h4, h5⟩ := h.own
  exact ⟨css, ownsRow_keep h1 (fun k hk2 => hh k (h.uv k hk2)), h2, h3, h4, fun i cs x hc hx => h5 i cs x hc hx⟩
theorem ArrB.below {U : Nat → Prop} {w w' : World} {a s : Nat} {v : Value} {Fs : Nat → Nat → Prop} {ps : List Nat} {sts : List DSt} (h : ArrB U w a v Fs ps s sts) (hk : Below w.heap.size w w') : ArrB U w' a v Fs ps s sts := h.keep (Keep.of_below (F := fun _ => False) hk) (fun _ _ h => h)
theorem ArrAt.keep {U G : Nat → Prop} {w w' : World} {a s : Nat} {sts : List DSt} (h : ArrAt U w a s sts) (hk : Keep G w w') (hd : ∀ k, U k → ¬ G k) : ArrAt U w' a s sts := by
  obtain ⟨v, Fs, ps, h⟩ := h; exact ⟨v, Fs, ps, h.keep hk hd⟩
theorem ArrAt.below {U : Nat → Prop} {w w' : World} {a s : Nat} {sts : List DSt} (h : ArrAt U w a s sts) (hk : Below w.heap.size w w') : ArrAt U w' a s sts := by
  obtain ⟨v, Fs, ps, h⟩ := h; exact ⟨v, Fs, ps, h.below hk⟩
theorem ArrAt.lt {U : Nat → Prop} {w : World} {a s : Nat} {sts : List DSt} (h : ArrAt U w a s sts) {k : Nat} (hk : U k) : k < w.heap.size := by
  obtain ⟨v, Fs, ps, h⟩ := h; exact h.lt k hk
theorem ArrAt.ok {U : Nat → Prop} {w : World} {a s : Nat} {sts : List DSt} (h : ArrAt U w a s sts) : ∀ st ∈ sts, st.ok s := by
  obtain ⟨v, Fs, ps, h⟩ := h
  intro st hst
  obtain ⟨i, hi, rfl⟩ := List.mem_iff_getElem.1 hst
  exact (h.drv i (ps[i]'(by rw [← h.len]; exact hi)) _ (List.getElem?_eq_getElem _) (List.getElem?_eq_getElem _)).ok
theorem ArrAt.upd {U : Nat → Prop} {w w' : World} {a s : Nat} {sts : List DSt} (h : ArrAt U w a s sts) (hk : Below w.heap.size w w') : AUpd U w w' a s sts := ⟨U, h.below hk, fun _ h _ => h, Keep.of_below hk⟩
theorem AUpd.trans {U U1 : Nat → Prop} {w w1 w2 : World} {a s : Nat} {sts : List DSt} (hU : ∀ k, U1 k → k < w.heap.size → U k) (hK : Keep U w w1) (h : AUpd U1 w1 w2 a s sts) : AUpd U w w2 a s sts := by
  obtain ⟨U2, hA, h2, hK2⟩ := h
  exact ⟨U2, hA, fun k h1 hlt => hU k (h2 k h1 (Nat.lt_of_lt_of_le hlt hK.size)) hlt, hK.trans hK2 (fun k h hlt => hU k h hlt)⟩
/-- One drive went on. -/
theorem ArrB.upd1 {U : Nat → Prop} {w w' : World} {a s : Nat} {v : Value} {Fs : Nat → Nat → Prop} {ps : List Nat} {sts : List DSt} (h : ArrB U w a v Fs ps s sts) {i p : Nat} {st' : DSt} (hp : ps[i]? = some p) (hu : Upd (Fs i) w w' p s st') :
    ∃ U' Fs', ArrB U' w' a v Fs' ps s (sts.set i st') ∧ (∀ k, U' k → k < w.heap.size → U k) ∧ Keep U w w' := by
  obtain ⟨F', hD, hF, hK⟩ := hu
  have hil : i < sts.length := by rw [h.len]; exact (List.getElem?_eq_some_iff.1 hp).1
  have hKU : Keep U w w' := hK.mono (fun k hf _ => h.uf i k hf)
  have hlt' : ∀ k, F' k → k < w'.heap.size := fun k hk => hD.lt hk
  refine ⟨fun k => U k ∨ F' k, fun j k => if j = i then F' k else Fs j k, ⟨?_, ?_, by simpa using h.len, ?_, ?_, h.va, ?_, .inl h.ua, fun k hk => .inl (h.uv k hk), ?_, ?_⟩, fun k hk hlt => hk.elim id (fun hf => h.uf i k (hF k hf hlt)), hKU⟩
  · exact h.box.keep (hK.block a (h.lt a h.ua) (fun hf => (h.fx i a hf).1 rfl))
  · obtain ⟨css, h1, h2, h3, h4, h5⟩ := h.own
    exact ⟨css, ownsRow_keep h1 (fun k hk2 => hK.block k (h.lt k (h.uv k hk2)) (fun hf => (h.fx i k hf).2 hk2)), h2, h3, h4, fun i cs x hc hx => h5 i cs x hc hx⟩
  · intro j q st h1 h2
    by_cases hj : j = i
    · subst hj
      rw [hp] at h1
      injection h1 with h1
      subst h1
      rw [List.getElem?_set_self hil] at h2
      injection h2 with h2
      subst h2
      simpa using hD
    · rw [List.getElem?_set_ne (fun e => hj e.symm)] at h2
      simp only [if_neg hj]
      exact (h.drv j q st h1 h2).keep hK (fun k hf hf2 => hj (h.apart j i k hf hf2))
  · intro j1 j2 k
    by_cases e1 : j1 = i <;> by_cases e2 : j2 = i <;> simp only [e1, e2, if_pos, if_neg, not_false_eq_true]
    · intros; trivial
    · intro hf hg
      exact (h.apart _ _ k (hF k hf (h.lt k (h.uf _ k hg))) hg)
    · intro hf hg
      exact e1 (h.apart _ _ k hf (hF k hg (h.lt k (h.uf _ k hf))))
    · exact h.apart j1 j2 k
  · intro j k hf
    by_cases e1 : j = i
    · simp only [e1, if_pos] at hf
      constructor
      · rintro rfl
        exact (h.fx i k (hF k hf (h.lt k h.ua))).1 rfl
      · intro hv
        exact (h.fx i k (hF k hf (h.lt k (h.uv k hv)))).2 hv
    · simp only [e1, if_neg, not_false_eq_true] at hf
      exact h.fx j k hf
  · intro j k hf
    by_cases e1 : j = i
    · simp only [e1, if_pos] at hf; exact .inr hf
    · simp only [e1, if_neg, not_false_eq_true] at hf; exact .inl (h.uf j k hf)
  · rintro k (hk | hk)
    · exact Nat.lt_of_lt_of_le (h.lt k hk) hK.size
    · exact hlt' k hk
theorem arr_cells {U : Nat → Prop} {w : World} {a s : Nat} {v : Value} {Fs : Nat → Nat → Prop} {ps : List Nat} {sts : List DSt} (h : ArrB U w a v Fs ps s sts) : ∃ A c, v = .slice A sts.length c ∧ w.cell? ⟨a, 0, none⟩ = some (.slice A sts.length c) ∧
    ∀ i, i < sts.length → ∃ g p st, A = some ⟨g, 0, none⟩ ∧ ps[i]? = some p ∧ sts[i]? = some st ∧ w.cell? ⟨g, i, none⟩ = some (.pointer (some ⟨p, 0, none⟩)) ∧ DrvAt (Fs i) w p s st := by
  obtain ⟨A, c, rfl, _⟩ := h.own.form
  refine ⟨A, c, by rw [h.len], by rw [h.len]; exact h.box.cell 0, fun i hi => ?_⟩
  rw [h.len] at hi
  obtain ⟨css, h1, h2, h3, h4, h5⟩ := h.own
  obtain ⟨g, cap, e0, _, _⟩ := h1.form (by omega)
  obtain ⟨rfl, rfl⟩ : A = some ⟨g, 0, none⟩ ∧ c = cap := by simpa using e0
  have hic : css[i]? = some (css[i]'(by omega)) := List.getElem?_eq_getElem (by omega)
  have hip : ps[i]? = some (ps[i]'(by omega)) := List.getElem?_eq_getElem (by omega)
  have his : sts[i]? = some (sts[i]'(by rw [h.len]; exact hi)) := List.getElem?_eq_getElem _
  have hcs := h5 i _ _ hic hip
  refine ⟨g, _, _, rfl, hip, his, ?_, h.drv i _ _ hip his⟩
  have := h1.cellAt i (by omega)
  rw [this]
  have := flatten_get css h4 i _ 0 hic (by omega)
  rw [Nat.mul_one, Nat.add_zero] at this
  rw [this]
  rw [show css[i] = [.pointer (some ⟨ps[i], 0, none⟩)] from hcs]; rfl
end Go.Proofs.Ytolmpopjonkfgaa
