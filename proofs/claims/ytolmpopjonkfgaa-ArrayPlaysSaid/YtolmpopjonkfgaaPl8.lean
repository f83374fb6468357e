/-
  The document's drives side by side: how they lie.
  An act, on both.
  An act, on both: those whose regions draw their order.
  The document's drives side by side: one drive.
-/
import Derived.Test.YtolmpopjonkfgaaPl5
import Derived.Test.YtolmpopjonkfgaaPl7
import Derived.Test.YtolmpopjonkfgaaPl4
set_option linter.unusedSimpArgs false
set_option linter.unusedVariables false
namespace Go.Proofs.Ytolmpopjonkfgaa
open Go.RowKit Go.Cib
attribute [local go_sem] cell_set Later.cell Later.frozen Grw.cell Grw.frozen

structure RArrB (U : Nat → Prop) (w : World) (a : Nat) (v : Value) (Fs : Nat → Nat → Prop) (ps : List Nat) (s : Nat) (sts : List RSt) : Prop where
  box : BoxAt w a #[v]
  own : OwnL PtrR 48 1 0 (fun _ => False) w v ps.length ps
  len : sts.length = ps.length
  drv : ∀ i p st, ps[i]? = some p → sts[i]? = some st → RefAt (Fs i) w p s st
  apart : ∀ i j k, Fs i k → Fs j k → i = j
  va : v.ownBlock ≠ some a
  fx : ∀ i k, Fs i k → k ≠ a ∧ v.ownBlock ≠ some k
  ua : U a
  uv : ∀ k, v.ownBlock = some k → U k
  uf : ∀ i k, Fs i k → U k
  lt : ∀ k, U k → k < w.heap.size
def RArrAt (U : Nat → Prop) (w : World) (a s : Nat) (sts : List RSt) : Prop := ∃ v Fs ps, RArrB U w a v Fs ps s sts
def RAUpd (U : Nat → Prop) (w w' : World) (a s : Nat) (sts : List RSt) : Prop := ∃ U', RArrAt U' w' a s sts ∧ (∀ k, U' k → k < w.heap.size → U k) ∧ Keep U w w'

theorem RArrB.keep {U G : Nat → Prop} {w w' : World} {a s : Nat} {v : Value} {Fs : Nat → Nat → Prop} {ps : List Nat} {sts : List RSt} (h : RArrB U w a v Fs ps s sts) (hk : Keep G w w') (hd : ∀ k, U k → ¬ G k) : RArrB U w' a v Fs ps s sts := by
  have hh : ∀ k, U k → w'.heap[k]? = w.heap[k]? := fun k hu => hk.block k (h.lt k hu) (hd k hu)
  refine ⟨h.box.keep (hh a h.ua), ?_, h.len, fun i p st h1 h2 => (h.drv i p st h1 h2).keep hk (fun k hf => hd k (h.uf i k hf)), h.apart, h.va, h.fx, h.ua, h.uv, h.uf, fun k hu => Nat.lt_of_lt_of_le (h.lt k hu) hk.size⟩
  obtain ⟨css, h1, h2, h3, h4, h5⟩ := h.own
  exact ⟨css, ownsRow_keep h1 (fun k hk2 => hh k (h.uv k hk2)), h2, h3, h4, fun i cs x hc hx => h5 i cs x hc hx⟩
theorem RArrB.below {U : Nat → Prop} {w w' : World} {a s : Nat} {v : Value} {Fs : Nat → Nat → Prop} {ps : List Nat} {sts : List RSt} (h : RArrB U w a v Fs ps s sts) (hk : Below w.heap.size w w') : RArrB U w' a v Fs ps s sts := h.keep (Keep.of_below (F := fun _ => False) hk) (fun _ _ h => h)
theorem RArrAt.keep {U G : Nat → Prop} {w w' : World} {a s : Nat} {sts : List RSt} (h : RArrAt U w a s sts) (hk : Keep G w w') (hd : ∀ k, U k → ¬ G k) : RArrAt U w' a s sts := by
  obtain ⟨v, Fs, ps, h⟩ := h; exact ⟨v, Fs, ps, h.keep hk hd⟩
theorem RArrAt.below {U : Nat → Prop} {w w' : World} {a s : Nat} {sts : List RSt} (h : RArrAt U w a s sts) (hk : Below w.heap.size w w') : RArrAt U w' a s sts := by
  obtain ⟨v, Fs, ps, h⟩ := h; exact ⟨v, Fs, ps, h.below hk⟩
theorem RArrAt.lt {U : Nat → Prop} {w : World} {a s : Nat} {sts : List RSt} (h : RArrAt U w a s sts) {k : Nat} (hk : U k) : k < w.heap.size := by
  obtain ⟨v, Fs, ps, h⟩ := h; exact h.lt k hk
theorem RArrAt.upd {U : Nat → Prop} {w w' : World} {a s : Nat} {sts : List RSt} (h : RArrAt U w a s sts) (hk : Below w.heap.size w w') : RAUpd U w w' a s sts := ⟨U, h.below hk, fun _ h _ => h, Keep.of_below hk⟩
theorem RAUpd.trans {U U1 : Nat → Prop} {w w1 w2 : World} {a s : Nat} {sts : List RSt} (hU : ∀ k, U1 k → k < w.heap.size → U k) (hK : Keep U w w1) (h : RAUpd U1 w1 w2 a s sts) : RAUpd U w w2 a s sts := by
  obtain ⟨U2, hA, h2, hK2⟩ := h
  exact ⟨U2, hA, fun k h1 hlt => hU k (h2 k h1 (Nat.lt_of_lt_of_le hlt hK.size)) hlt, hK.trans hK2 (fun k h hlt => hU k h hlt)⟩
/-- One drive went on. -/
theorem RArrB.upd1 {U : Nat → Prop} {w w' : World} {a s : Nat} {v : Value} {Fs : Nat → Nat → Prop} {ps : List Nat} {sts : List RSt} (h : RArrB U w a v Fs ps s sts) {i p : Nat} {st' : RSt} (hp : ps[i]? = some p) (hu : RUpd (Fs i) w w' p s st') :
    ∃ U' Fs', RArrB U' w' a v Fs' ps s (sts.set i st') ∧ (∀ k, U' k → k < w.heap.size → U k) ∧ Keep U w w' := by
  obtain ⟨F', hD, hF, hK⟩ := hu
  have hil : i < sts.length := by rw [h.len]; exact (List.getElem?_eq_some_iff.1 hp).1
  have hKU : Keep U w w' := hK.mono (fun k hf _ => h.uf i k hf)
  have hlt' : ∀ k, F' k → k < w'.heap.size := fun k hk => hD.lt hk
  refine ⟨fun k => U k ∨ F' k, fun j k => if j = i then F' k else Fs j k, ⟨?_, ?_, by simpa using h.len, ?_, ?_, h.va, ?_, .inl h.ua, fun k hk => .inl (h.uv k hk), ?_, ?_⟩, fun k hk hlt => hk.elim id (fun hf => h.uf i k (hF k hf hlt)), hKU⟩
  · exact h.box.keep (hK.block a (h.lt a h.ua) (fun hf => (h.fx i a hf).1 rfl))
  · obtain ⟨css, h1, h2, h3, h4, h5⟩ := h.own
    exact ⟨css, ownsRow_keep h1 (fun k hk2 => hK.block k (h.lt k (h.uv k hk2)) (fun hf => (h.fx i k hf).2 hk2)), h2, h3, h4, fun i cs x hc hx => h5 i cs x hc hx⟩
  · intro j q st h1 h2
    by_cases hj : j = i
    · subst hj
      rw [hp] at h1
      injection h1 with h1
      subst h1
      rw [List.getElem?_set_self hil] at h2
      injection h2 with h2
      subst h2
      simpa using hD
    · rw [List.getElem?_set_ne (fun e => hj e.symm)] at h2
      simp only [if_neg hj]
      exact (h.drv j q st h1 h2).keep hK (fun k hf hf2 => hj (h.apart j i k hf hf2))
  · intro j1 j2 k
    by_cases e1 : j1 = i <;> by_cases e2 : j2 = i <;> simp only [e1, e2, if_pos, if_neg, not_false_eq_true]
    · intros; trivial
    · intro hf hg
      exact (h.apart _ _ k (hF k hf (h.lt k (h.uf _ k hg))) hg)
    · intro hf hg
      exact e1 (h.apart _ _ k hf (hF k hg (h.lt k (h.uf _ k hf))))
    · exact h.apart j1 j2 k
  · intro j k hf
    by_cases e1 : j = i
    · simp only [e1, if_pos] at hf
      constructor
      · rintro rfl
        exact (h.fx i k (hF k hf (h.lt k h.ua))).1 rfl
      · intro hv
        exact (h.fx i k (hF k hf (h.lt k (h.uv k hv)))).2 hv
    · simp only [e1, if_neg, not_false_eq_true] at hf
      exact h.fx j k hf
  · intro j k hf
    by_cases e1 : j = i
    · simp only [e1, if_pos] at hf; exact .inr hf
    · simp only [e1, if_neg, not_false_eq_true] at hf; exact .inl (h.uf j k hf)
  · rintro k (hk | hk)
    · exact Nat.lt_of_lt_of_le (h.lt k hk) hK.size
    · exact hlt' k hk
theorem rarr_cells {U : Nat → Prop} {w : World} {a s : Nat} {v : Value} {Fs : Nat → Nat → Prop} {ps : List Nat} {sts : List RSt} (h : RArrB U w a v Fs ps s sts) : ∃ A c, v = .slice A sts.length c ∧ w.cell? ⟨a, 0, none⟩ = some (.slice A sts.length c) ∧
    ∀ i, i < sts.length → ∃ g p st, A = some ⟨g, 0, none⟩ ∧ ps[i]? = some p ∧ sts[i]? = some st ∧ w.cell? ⟨g, i, none⟩ = some (.pointer (some ⟨p, 0, none⟩)) ∧ RefAt (Fs i) w p s st := by
  obtain ⟨A, c, rfl, _⟩ := h.own.form
  refine ⟨A, c, by rw [h.len], by rw [h.len]; exact h.box.cell 0, fun i hi => ?_⟩
  rw [h.len] at hi
  obtain ⟨css, h1, h2, h3, h4, h5⟩ := h.own
  obtain ⟨g, cap, e0, _, _⟩ := h1.form (by omega)
  obtain ⟨rfl, rfl⟩ : A = some ⟨g, 0, none⟩ ∧ c = cap := by simpa using e0
  have hic : css[i]? = some (css[i]'(by omega)) := List.getElem?_eq_getElem (by omega)
  have hip : ps[i]? = some (ps[i]'(by omega)) := List.getElem?_eq_getElem (by omega)
  have his : sts[i]? = some (sts[i]'(by rw [h.len]; exact hi)) := List.getElem?_eq_getElem _
  have hcs := h5 i _ _ hic hip
  refine ⟨g, _, _, rfl, hip, his, ?_, h.drv i _ _ hip his⟩
  have := h1.cellAt i (by omega)
  rw [this]
  have := flatten_get css h4 i _ 0 hic (by omega)
  rw [Nat.mul_one, Nat.add_zero] at this
  rw [this]
  rw [show css[i] = [.pointer (some ⟨ps[i], 0, none⟩)] from hcs]; rfl
theorem slRPtr : SlTy Try.prog 115 48 (.pointer none) 1 8 := ⟨Try.underlying115, by kernel_rfl, rfl, by omega⟩
section
variable {U : Nat → Prop} {w : World} {a s : Nat} {v : Value} {Fs : Nat → Nat → Prop} {ps : List Nat} {sts : List RSt}
/-- One drive more. -/
theorem RArrB.push (h : RArrB U w a v Fs ps s sts) {u : World} {F : Nat → Prop} {p : Nat} {st : RSt} {vN : Value} (hD : RefAt F w p s st) (hF : ∀ k, F k → ¬ U k) (hu : w.grownBy u v.ownBlock) (hs : w.heap.size < u.heap.size)
    (own : OwnL PtrR 48 1 0 (fun _ => False) u vN (ps.length + 1) (ps ++ [p])) (hat : vN.ownBlock = v.ownBlock ∨ vN.ownBlock = some (w.heap.size + 1)) :
    ∃ U' Fs', RArrB U' (u.setCell ⟨a, 0, none⟩ vN) a vN Fs' (ps ++ [p]) s (sts ++ [st]) ∧ (∀ k, U' k → k < w.heap.size → U k ∨ F k) ∧ Keep U w (u.setCell ⟨a, 0, none⟩ vN) := by
  have hset : ∀ k, k ≠ a → (u.setCell ⟨a, 0, none⟩ vN).heap[k]? = u.heap[k]? := fun k hk => Below.heap_setCell _ _ _ _ hk
  have hK : Keep (fun k => k = a ∨ v.ownBlock = some k) w (u.setCell ⟨a, 0, none⟩ vN) := ⟨hu.os, hu.tape, hu.output, by simpa using hu.size, fun k hk hg => (hset k (fun e => hg (.inl e))).trans (hu.block k hk (fun e => hg (.inr e.symm)))⟩
  have hla := h.lt a h.ua
  have hN : ∀ k, vN.ownBlock = some k → (v.ownBlock = some k) ∨ k = w.heap.size + 1 := fun k hk => by
    rcases hat with h | h
    · exact .inl (h ▸ hk)
    · rw [h] at hk; injection hk with hk; exact .inr hk.symm
  have hNa : vN.ownBlock ≠ some a := fun e => by
    rcases hN a e with h2 | h2
    · exact h.va h2
    · omega
  have hFlt : ∀ k, F k → k < w.heap.size := fun k hk => hD.lt hk
  refine ⟨fun k => U k ∨ F k ∨ (w.heap.size ≤ k ∧ k < u.heap.size), fun j k => if j = ps.length then F k else Fs j k, ⟨?_, ?_, by simp [h.len], ?_, ?_, hNa, ?_, .inl h.ua, ?_, ?_, ?_⟩, ?_, hK.mono (fun k hk _ => hk.elim (fun e => e ▸ h.ua) (h.uv k))⟩
  · exact (h.box.keep (hu.block a hla (fun e => h.va e.symm))).set 0 vN
  · obtain ⟨css, h1, h2, h3, h4, h5⟩ := own
    rw [show (ps ++ [p]).length = ps.length + 1 by simp]
    exact ⟨css, ownsRow_keep h1 (fun k hk => hset k (fun e => hNa (e ▸ hk))), h2, h3, h4, fun i cs x hc hx => h5 i cs x hc hx⟩
  · intro i q st' h1 h2
    by_cases hi : i = ps.length
    · subst hi
      rw [List.getElem?_append_right (Nat.le_refl _)] at h1
      rw [List.getElem?_append_right (by rw [h.len]; exact Nat.le_refl _), h.len] at h2
      simp only [Nat.sub_self, List.getElem?_cons_zero, Option.some.injEq] at h1 h2
      subst h1; subst h2
      simp only [if_true]
      exact hD.keep hK (fun k hk hg => hF k hk (hg.elim (fun e => e ▸ h.ua) (h.uv k)))
    · have hil : i < ps.length := by
        have := (List.getElem?_eq_some_iff.1 h1).1
        simp at this; omega
      rw [List.getElem?_append_left hil] at h1
      rw [List.getElem?_append_left (by rw [h.len]; exact hil)] at h2
      simp only [if_neg hi]
      exact (h.drv i q st' h1 h2).keep hK (fun k hk hg => hg.elim (h.fx i k hk).1 (h.fx i k hk).2)
  · intro i j k
    by_cases e1 : i = ps.length <;> by_cases e2 : j = ps.length <;> simp only [e1, e2, if_true, if_false]
    · intros; trivial
    · intro hf hg; exact absurd (h.uf j k hg) (hF k hf)
    · intro hf hg; exact absurd (h.uf i k hf) (hF k hg)
    · exact h.apart i j k
  · intro i k
    by_cases e1 : i = ps.length <;> simp only [e1, if_true, if_false]
    · intro hf
      refine ⟨fun e => hF k hf (e ▸ h.ua), fun e => ?_⟩
      have := hFlt k hf
      rcases hN k e with h2 | h2
      · exact hF k hf (h.uv k h2)
      · omega
    · intro hf
      refine ⟨(h.fx i k hf).1, fun e => ?_⟩
      have := h.lt k (h.uf i k hf)
      rcases hN k e with h2 | h2
      · exact (h.fx i k hf).2 h2
      · omega
  · intro k hk
    rcases hN k hk with h2 | h2
    · exact .inl (h.uv k h2)
    · have := (own.lt k hk).2
      exact .inr (.inr ⟨by omega, this⟩)
  · intro i k
    by_cases e1 : i = ps.length <;> simp only [e1, if_true, if_false]
    · intro hf; exact .inr (.inl hf)
    · intro hf; exact .inl (h.uf i k hf)
  · rintro k (hk | hk | hk)
    · have := h.lt k hk; simp; omega
    · have := hFlt k hk; simp; omega
    · simpa using hk.2
  · rintro k (hk | hk | hk) hlt
    · exact .inl hk
    · exact .inr hk
    · omega
/-- An array of no drives yet. -/
theorem RArrB.empty (w : World) (s : Nat) (T : TypeId) : RArrB (fun k => k = w.heap.size) (w.alloc (.cells #[.slice none 0 0] T)) w.heap.size (.slice none 0 0) (fun _ _ => False) [] s [] := by
  refine ⟨BoxAt.new _ _ _, OwnL.nil_, rfl, ?_, ?_, ?_, ?_, rfl, ?_, ?_, ?_⟩
  · intro i p st h1; simp at h1
  · intro i j k h; exact h.elim
  · simp [Value.ownBlock]
  · intro i k h; exact h.elim
  · intro k hk; simp [Value.ownBlock] at hk
  · intro i k h; exact h.elim
  · rintro k rfl; simp
end
section
variable {U : Nat → Prop} {w : World} {a s : Nat} {v : Value} {Fs : Nat → Nat → Prop} {ps : List Nat} {sts : List RSt}
theorem rarr_c0 {A : Option Addr} {k c : Nat} (h : RArrB U w a (.slice A k c) Fs ps s sts) : w.cell? ⟨a, 0, none⟩ = some (.slice A k c) := h.box.cell 0
theorem rarr_cg {g k c : Nat} (h : RArrB U w a (.slice (some ⟨g, 0, none⟩) k c) Fs ps s sts) {i p : Nat} (hp : ps[i]? = some p) : w.cell? ⟨g, i, none⟩ = some (.pointer (some ⟨p, 0, none⟩)) := by
  have hi : i < sts.length := by rw [h.len]; exact (List.getElem?_eq_some_iff.1 hp).1
  obtain ⟨A, c', hv, _, hc⟩ := rarr_cells h
  obtain ⟨g', p', st, hA, hp', _, hcell, _⟩ := hc i hi
  subst hA
  simp only [Value.slice.injEq, Option.some.injEq, Addr.mk.injEq, and_true] at hv
  rw [hp] at hp'
  injection hp' with hp'
  rw [hv.1, hp']; exact hcell
theorem rarr_form (h : RArrB U w a v Fs ps s sts) (hk : 0 < sts.length) : ∃ g c, v = .slice (some ⟨g, 0, none⟩) sts.length c := by
  obtain ⟨A, c, hv, _, hc⟩ := rarr_cells h
  obtain ⟨g, _, _, hA, _⟩ := hc 0 hk
  exact ⟨g, c, by rw [hv, hA]⟩
theorem RArrB.p_at (h : RArrB U w a v Fs ps s sts) {d : Nat} {st : RSt} (hst : sts[d]? = some st) : ∃ p, ps[d]? = some p ∧ RefAt (Fs d) w p s st ∧ d < sts.length := by
  have hd : d < sts.length := (List.getElem?_eq_some_iff.1 hst).1
  exact ⟨_, List.getElem?_eq_getElem (by rw [← h.len]; exact hd), h.drv d _ _ (List.getElem?_eq_getElem _) hst, hd⟩
/-- One drive goes on behind something that changed nothing. -/
theorem RArrB.upd2 (h : RArrB U w a v Fs ps s sts) {w1 w2 : World} {i p : Nat} {st' : RSt} (hb : Below w.heap.size w w1) (hp : ps[i]? = some p) (hu : RUpd (Fs i) w1 w2 p s st') : RAUpd U w w2 a s (sts.set i st') := by
  obtain ⟨U', Fs', hB, h1, h2⟩ := (h.below hb).upd1 hp hu
  exact ⟨U', ⟨v, Fs', ps, hB⟩, fun k hk hlt => h1 k hk (Nat.lt_of_lt_of_le hlt hb.size), (Keep.of_below (F := U) hb).trans h2 (fun k h _ => h)⟩
end
end Go.Proofs.Ytolmpopjonkfgaa

set_option linter.unusedSimpArgs false
set_option linter.unusedVariables false
namespace Go.Proofs.Ytolmpopjonkfgaa
open Go.RowKit Go.Cib
attribute [local go_sem] cell_set Later.cell Later.frozen Grw.cell Grw.frozen

theorem write_some {F : Nat → Prop} {w : World} {p n : Nat} {st : DSt} (h : Hid (DrvAt F w p n st)) (z : Int) {S : Nat → Prop} {A : Option Addr} {m c : Nat} {bs : List Int} (hb : Hid (RdL U8R 1 S w A m bs)) (hS : ∀ b, S b → ¬ F b) (hcl : st.cache.length < 1000000) :
    Calls Try.prog 12 #[.pointer (some ⟨p, 0, none⟩), .int .i64 z, .slice A m c] w fun e w' => (∃ E, e = .returned (.int .i64 E)) ∧ Upd F w w' p n (if readyE st.dead n z = 0 ∧ m = 64 then st.write z bs else st) :=
  (write_all h z hb hS hcl).mono fun e w' ⟨h1, h2⟩ => ⟨⟨_, h1⟩, h2⟩

structure ActV where
  kind : Int
  at_ : Int
  off : Int
  c : Int
  mask : Int
  keep : List Bool
  b : List Int
def wrD (n : Nat) (st : DSt) (z : Int) (bs : List Int) : DSt := if readyE st.dead n z = 0 ∧ bs.length = 64 then st.write z bs else st
def wrR (n : Nat) (rs : RSt) (z : Int) (bs : List Int) : RSt := if wrOk rs n z bs.length then { rs with wait := rs.wait ++ [⟨z, bs, 0, 0⟩] } else rs
def flD (st : DSt) : DSt := if st.dead = false then st.settle (fun _ => true) else st
def flR (rs : RSt) : RSt := if rs.gone = false then { rs with L := rs.L ++ rs.wait, wait := [] } else rs
def rtD (n : Nat) (st : DSt) (z off mask : Int) : DSt := if rotDOk st n z off mask then st.rot z.toNat off.toNat mask else st
def rtR (n : Nat) (rs : RSt) (z off mask : Int) : RSt := if rrotOk rs n z off mask then { rs with L := rs.L ++ [⟨z, [], off, mask⟩] } else rs
def RetB (e : Ending) : Prop := ∃ r, e = .returned (.bool r)
def actD (n : Nat) (st : DSt) (a : ActV) : DSt :=
  if a.kind = 0 ∨ a.kind = 1 ∨ a.kind = 2 then wrD n st a.at_ (rep a.c)
  else if a.kind = 3 then flD st
  else if a.kind = 4 then st.settle (keepOf a.keep)
  else if a.kind = 5 then DSt.gone n
  else if a.kind = 6 then DSt.new n
  else if a.kind = 7 then rtD n st a.at_ a.off a.mask
  else if a.kind = 9 then wrD n st a.at_ a.b
  else st
def actR (n : Nat) (rs : RSt) (a : ActV) : RSt :=
  if a.kind = 0 ∨ a.kind = 1 ∨ a.kind = 2 then wrR n rs a.at_ (rep a.c)
  else if a.kind = 3 then flR rs
  else if a.kind = 4 then { rs with L := rs.L ++ keptE (keepOf a.keep) 0 rs.wait, wait := [] }
  else if a.kind = 5 then ⟨[], [], true⟩
  else if a.kind = 6 then ⟨[], [], false⟩
  else if a.kind = 7 then rtR n rs a.at_ a.off a.mask
  else if a.kind = 9 then wrR n rs a.at_ a.b
  else rs
theorem Both.mk {F G F1 G1 : Nat → Prop} {w w1 w2 w3 w4 : World} {p x n : Nat} {st : DSt} {rs : RSt} (b1 : Below w.heap.size w w1) (k1 : Keep F w1 w2) (b2 : Below w2.heap.size w2 w3) (k2 : Keep G w3 w4) (hF : ∀ k, F1 k → k < w1.heap.size → F k) (hG : ∀ k, G1 k → k < w3.heap.size → G k) (T : Two F1 G1 w4 p x n st rs) : Both F G w w4 p x n st rs := by
  have s1 := b1.size
  have s2 := k1.size
  have s3 := b2.size
  refine ⟨F1, G1, T, fun k h1 h2 => hF k h1 (by omega), fun k h1 h2 => hG k h1 (by omega), ?_⟩
  refine ((((Keep.of_below (F := fun k => F k ∨ G k) b1).trans (G := fun k => F k ∨ G k) (k1.mono (fun k h _ => .inl h)) (fun k h _ => h)).trans (G := fun _ => False) (Keep.of_below b2) (fun _ h => h.elim)).trans (G := fun k => F k ∨ G k) (k2.mono (fun k h _ => .inr h)) (fun k h _ => h))


set_option maxRecDepth 100000 in
set_option maxHeartbeats 4000000 in
theorem act_flush {F G : Nat → Prop} {w : World} {p x n : Nat} {st : DSt} {rs : RSt} (h : Hid (Two F G w p x n st rs)) (hc1 : st.cache.length < 1000000) (hc2 : rs.L.length + rs.wait.length < 1000000) {S : Nat → Prop} {KA BA : Option Addr} {km kc bm bc : Nat} {ks : List Bool} {bs : List Int} (hk : Hid (RdL BoolR 1 S w KA km ks)) (hb : Hid (RdL U8R 1 S w BA bm bs)) (hS : ∀ b, S b → ¬ F b ∧ ¬ G b ∧ b < w.heap.size) (z off c mask : Int) :
    Calls Try.prog 25 #[.pointer (some ⟨p, 0, none⟩), .pointer (some ⟨x, 0, none⟩), .agg #[.int .i64 3, .int .i64 z, .int .i64 off, .int .u8 c, .int .u32 mask, .slice KA km kc, .slice BA bm bc]] w fun e w' => RetB e ∧ Both F G w w' p x n (flD st) (flR rs) := by
  have b0 : Below w.heap.size w (w.alloc (.cells #[.int .i64 3, .int .i64 z, .int .i64 off, .int .u8 c, .int .u32 mask, .slice KA km kc, .slice BA bm bc] 52)) := (Below.refl _ _).alloc (Nat.le_refl _) _
  have X0 := Lib.hid (BoxAt.new w #[.int .i64 3, .int .i64 z, .int .i64 off, .int .u8 c, .int .u32 mask, .slice KA km kc, .slice BA bm bc] 52)
  obtain ⟨w0, hw0⟩ : ∃ w0, w.alloc (.cells #[.int .i64 3, .int .i64 z, .int .i64 off, .int .u8 c, .int .u32 mask, .slice KA km kc, .slice BA bm bc] 52) = w0 := ⟨_, rfl⟩
  rw [hw0] at b0 X0
  have T0 := Lib.hid (h.out.below b0)
  have hbF : ∀ k, F k → k < w.heap.size := fun k hk => drvAt_lt h.out.d hk
  have hbG : ∀ k, G k → k < w.heap.size := fun k hk => h.out.r.lt hk
  have HbF := Lib.hid hbF
  have HbG := Lib.hid hbG
  have HS := Lib.hid hS
  have q0 : w0.cell? ⟨w.heap.size, 0, none⟩ = some (.int .i64 3) := X0.out.cell 0
  have q1 : w0.cell? ⟨w.heap.size, 1, none⟩ = some (.int .i64 z) := X0.out.cell 1
  have q2 : w0.cell? ⟨w.heap.size, 2, none⟩ = some (.int .i64 off) := X0.out.cell 2
  have q3 : w0.cell? ⟨w.heap.size, 3, none⟩ = some (.int .u8 c) := X0.out.cell 3
  have q4 : w0.cell? ⟨w.heap.size, 4, none⟩ = some (.int .u32 mask) := X0.out.cell 4
  have q5 : w0.cell? ⟨w.heap.size, 5, none⟩ = some (.slice KA km kc) := X0.out.cell 5
  have q6 : w0.cell? ⟨w.heap.size, 6, none⟩ = some (.slice BA bm bc) := X0.out.cell 6
  have B0 := Lib.hid b0
  clear hbF hbG hS b0
  go_enter Try.func25, Try.ntmps25
  go_wp2_with fail
  refine (flush_all (Lib.hid T0.out.d) hc1).mono ?_
  rintro e w1 ⟨⟨E1, rfl⟩, u1⟩
  obtain ⟨F1, T1, hF1, K1⟩ := T0.out.drv u1
  have X1 := Lib.hid (X0.out.keeps K1 (fun hf => Nat.lt_irrefl _ (HbF.out _ hf)))
  have q5 : w1.cell? ⟨w.heap.size, 5, none⟩ = some (.slice KA km kc) := X1.out.cell 5
  have T1 := Lib.hid T1
  go_wp2_with fail
  refine (rflush_all (Lib.hid T1.out.r) hc2).mono ?_
  rintro e w2 ⟨⟨E2, rfl⟩, u2⟩
  obtain ⟨G1, T2, hG1, K2⟩ := T1.out.ref u2
  have T2 := Lib.hid T2
  clear q5
  go_wp2_with fail
  go_ret
  exact ⟨⟨_, rfl⟩, Both.mk B0.out K1 (Below.refl _ _) K2 hF1 hG1 T2.out⟩

set_option maxRecDepth 100000 in
set_option maxHeartbeats 4000000 in
theorem act_crash {F G : Nat → Prop} {w : World} {p x n : Nat} {st : DSt} {rs : RSt} (h : Hid (Two F G w p x n st rs)) (hc1 : st.cache.length < 1000000) (hc2 : rs.L.length + rs.wait.length < 1000000) {S : Nat → Prop} {KA BA : Option Addr} {km kc bm bc : Nat} {ks : List Bool} {bs : List Int} (hk : Hid (RdL BoolR 1 S w KA km ks)) (hb : Hid (RdL U8R 1 S w BA bm bs)) (hS : ∀ b, S b → ¬ F b ∧ ¬ G b ∧ b < w.heap.size) (z off c mask : Int) :
    Calls Try.prog 25 #[.pointer (some ⟨p, 0, none⟩), .pointer (some ⟨x, 0, none⟩), .agg #[.int .i64 4, .int .i64 z, .int .i64 off, .int .u8 c, .int .u32 mask, .slice KA km kc, .slice BA bm bc]] w fun e w' => RetB e ∧ Both F G w w' p x n (st.settle (keepOf ks)) ({ rs with L := rs.L ++ keptE (keepOf ks) 0 rs.wait, wait := [] }) := by
  have b0 : Below w.heap.size w (w.alloc (.cells #[.int .i64 4, .int .i64 z, .int .i64 off, .int .u8 c, .int .u32 mask, .slice KA km kc, .slice BA bm bc] 52)) := (Below.refl _ _).alloc (Nat.le_refl _) _
  have X0 := Lib.hid (BoxAt.new w #[.int .i64 4, .int .i64 z, .int .i64 off, .int .u8 c, .int .u32 mask, .slice KA km kc, .slice BA bm bc] 52)
  obtain ⟨w0, hw0⟩ : ∃ w0, w.alloc (.cells #[.int .i64 4, .int .i64 z, .int .i64 off, .int .u8 c, .int .u32 mask, .slice KA km kc, .slice BA bm bc] 52) = w0 := ⟨_, rfl⟩
  rw [hw0] at b0 X0
  have T0 := Lib.hid (h.out.below b0)
  have hbF : ∀ k, F k → k < w.heap.size := fun k hk => drvAt_lt h.out.d hk
  have hbG : ∀ k, G k → k < w.heap.size := fun k hk => h.out.r.lt hk
  have HbF := Lib.hid hbF
  have HbG := Lib.hid hbG
  have HS := Lib.hid hS
  have q0 : w0.cell? ⟨w.heap.size, 0, none⟩ = some (.int .i64 4) := X0.out.cell 0
  have q1 : w0.cell? ⟨w.heap.size, 1, none⟩ = some (.int .i64 z) := X0.out.cell 1
  have q2 : w0.cell? ⟨w.heap.size, 2, none⟩ = some (.int .i64 off) := X0.out.cell 2
  have q3 : w0.cell? ⟨w.heap.size, 3, none⟩ = some (.int .u8 c) := X0.out.cell 3
  have q4 : w0.cell? ⟨w.heap.size, 4, none⟩ = some (.int .u32 mask) := X0.out.cell 4
  have q5 : w0.cell? ⟨w.heap.size, 5, none⟩ = some (.slice KA km kc) := X0.out.cell 5
  have q6 : w0.cell? ⟨w.heap.size, 6, none⟩ = some (.slice BA bm bc) := X0.out.cell 6
  have B0 := Lib.hid b0
  clear hbF hbG hS b0
  go_enter Try.func25, Try.ntmps25
  go_wp2_with fail
  refine (crash_any (Lib.hid T0.out.d) hc1 (Lib.hid (hk.out.below BoolR.stable B0.out)) (fun b hb => (HS.out b hb).1)).mono ?_
  rintro e w1 ⟨rfl, u1⟩
  obtain ⟨F1, T1, hF1, K1⟩ := T0.out.drv u1
  have X1 := Lib.hid (X0.out.keeps K1 (fun hf => Nat.lt_irrefl _ (HbF.out _ hf)))
  have q5 : w1.cell? ⟨w.heap.size, 5, none⟩ = some (.slice KA km kc) := X1.out.cell 5
  have T1 := Lib.hid T1
  go_wp2_with fail
  refine (rcrash_any (Lib.hid T1.out.r) hc2 (Lib.hid ((hk.out.below BoolR.stable B0.out).keep BoolR.stable K1 (fun b hb => (HS.out b hb).1))) (fun b hb => (HS.out b hb).2.1)).mono ?_
  rintro e w2 ⟨rfl, u2⟩
  obtain ⟨G1, T2, hG1, K2⟩ := T1.out.ref u2
  have T2 := Lib.hid T2
  clear q5
  go_wp2_with fail
  go_ret
  exact ⟨⟨_, rfl⟩, Both.mk B0.out K1 (Below.refl _ _) K2 hF1 hG1 T2.out⟩

set_option maxRecDepth 100000 in
set_option maxHeartbeats 4000000 in
theorem act_fail {F G : Nat → Prop} {w : World} {p x n : Nat} {st : DSt} {rs : RSt} (h : Hid (Two F G w p x n st rs)) (hc1 : st.cache.length < 1000000) (hc2 : rs.L.length + rs.wait.length < 1000000) {S : Nat → Prop} {KA BA : Option Addr} {km kc bm bc : Nat} {ks : List Bool} {bs : List Int} (hk : Hid (RdL BoolR 1 S w KA km ks)) (hb : Hid (RdL U8R 1 S w BA bm bs)) (hS : ∀ b, S b → ¬ F b ∧ ¬ G b ∧ b < w.heap.size) (z off c mask : Int) :
    Calls Try.prog 25 #[.pointer (some ⟨p, 0, none⟩), .pointer (some ⟨x, 0, none⟩), .agg #[.int .i64 5, .int .i64 z, .int .i64 off, .int .u8 c, .int .u32 mask, .slice KA km kc, .slice BA bm bc]] w fun e w' => RetB e ∧ Both F G w w' p x n (DSt.gone n) (⟨[], [], true⟩) := by
  have b0 : Below w.heap.size w (w.alloc (.cells #[.int .i64 5, .int .i64 z, .int .i64 off, .int .u8 c, .int .u32 mask, .slice KA km kc, .slice BA bm bc] 52)) := (Below.refl _ _).alloc (Nat.le_refl _) _
  have X0 := Lib.hid (BoxAt.new w #[.int .i64 5, .int .i64 z, .int .i64 off, .int .u8 c, .int .u32 mask, .slice KA km kc, .slice BA bm bc] 52)
  obtain ⟨w0, hw0⟩ : ∃ w0, w.alloc (.cells #[.int .i64 5, .int .i64 z, .int .i64 off, .int .u8 c, .int .u32 mask, .slice KA km kc, .slice BA bm bc] 52) = w0 := ⟨_, rfl⟩
  rw [hw0] at b0 X0
  have T0 := Lib.hid (h.out.below b0)
  have hbF : ∀ k, F k → k < w.heap.size := fun k hk => drvAt_lt h.out.d hk
  have hbG : ∀ k, G k → k < w.heap.size := fun k hk => h.out.r.lt hk
  have HbF := Lib.hid hbF
  have HbG := Lib.hid hbG
  have HS := Lib.hid hS
  have q0 : w0.cell? ⟨w.heap.size, 0, none⟩ = some (.int .i64 5) := X0.out.cell 0
  have q1 : w0.cell? ⟨w.heap.size, 1, none⟩ = some (.int .i64 z) := X0.out.cell 1
  have q2 : w0.cell? ⟨w.heap.size, 2, none⟩ = some (.int .i64 off) := X0.out.cell 2
  have q3 : w0.cell? ⟨w.heap.size, 3, none⟩ = some (.int .u8 c) := X0.out.cell 3
  have q4 : w0.cell? ⟨w.heap.size, 4, none⟩ = some (.int .u32 mask) := X0.out.cell 4
  have q5 : w0.cell? ⟨w.heap.size, 5, none⟩ = some (.slice KA km kc) := X0.out.cell 5
  have q6 : w0.cell? ⟨w.heap.size, 6, none⟩ = some (.slice BA bm bc) := X0.out.cell 6
  have B0 := Lib.hid b0
  clear hbF hbG hS b0
  go_enter Try.func25, Try.ntmps25
  go_wp2_with fail
  refine (fail_any (Lib.hid T0.out.d)).mono ?_
  rintro e w1 ⟨rfl, u1⟩
  obtain ⟨F1, T1, hF1, K1⟩ := T0.out.drv u1
  have X1 := Lib.hid (X0.out.keeps K1 (fun hf => Nat.lt_irrefl _ (HbF.out _ hf)))
  have q5 : w1.cell? ⟨w.heap.size, 5, none⟩ = some (.slice KA km kc) := X1.out.cell 5
  have T1 := Lib.hid T1
  go_wp2_with fail
  refine (rfail_any (Lib.hid T1.out.r)).mono ?_
  rintro e w2 ⟨rfl, u2⟩
  obtain ⟨G1, T2, hG1, K2⟩ := T1.out.ref u2
  have T2 := Lib.hid T2
  clear q5
  go_wp2_with fail
  go_ret
  exact ⟨⟨_, rfl⟩, Both.mk B0.out K1 (Below.refl _ _) K2 hF1 hG1 T2.out⟩

set_option maxRecDepth 100000 in
set_option maxHeartbeats 4000000 in
theorem act_replace {F G : Nat → Prop} {w : World} {p x n : Nat} {st : DSt} {rs : RSt} (h : Hid (Two F G w p x n st rs)) (hc1 : st.cache.length < 1000000) (hc2 : rs.L.length + rs.wait.length < 1000000) {S : Nat → Prop} {KA BA : Option Addr} {km kc bm bc : Nat} {ks : List Bool} {bs : List Int} (hk : Hid (RdL BoolR 1 S w KA km ks)) (hb : Hid (RdL U8R 1 S w BA bm bs)) (hS : ∀ b, S b → ¬ F b ∧ ¬ G b ∧ b < w.heap.size) (z off c mask : Int) :
    Calls Try.prog 25 #[.pointer (some ⟨p, 0, none⟩), .pointer (some ⟨x, 0, none⟩), .agg #[.int .i64 6, .int .i64 z, .int .i64 off, .int .u8 c, .int .u32 mask, .slice KA km kc, .slice BA bm bc]] w fun e w' => RetB e ∧ Both F G w w' p x n (DSt.new n) (⟨[], [], false⟩) := by
  have b0 : Below w.heap.size w (w.alloc (.cells #[.int .i64 6, .int .i64 z, .int .i64 off, .int .u8 c, .int .u32 mask, .slice KA km kc, .slice BA bm bc] 52)) := (Below.refl _ _).alloc (Nat.le_refl _) _
  have X0 := Lib.hid (BoxAt.new w #[.int .i64 6, .int .i64 z, .int .i64 off, .int .u8 c, .int .u32 mask, .slice KA km kc, .slice BA bm bc] 52)
  obtain ⟨w0, hw0⟩ : ∃ w0, w.alloc (.cells #[.int .i64 6, .int .i64 z, .int .i64 off, .int .u8 c, .int .u32 mask, .slice KA km kc, .slice BA bm bc] 52) = w0 := ⟨_, rfl⟩
  rw [hw0] at b0 X0
  have T0 := Lib.hid (h.out.below b0)
  have hbF : ∀ k, F k → k < w.heap.size := fun k hk => drvAt_lt h.out.d hk
  have hbG : ∀ k, G k → k < w.heap.size := fun k hk => h.out.r.lt hk
  have HbF := Lib.hid hbF
  have HbG := Lib.hid hbG
  have HS := Lib.hid hS
  have q0 : w0.cell? ⟨w.heap.size, 0, none⟩ = some (.int .i64 6) := X0.out.cell 0
  have q1 : w0.cell? ⟨w.heap.size, 1, none⟩ = some (.int .i64 z) := X0.out.cell 1
  have q2 : w0.cell? ⟨w.heap.size, 2, none⟩ = some (.int .i64 off) := X0.out.cell 2
  have q3 : w0.cell? ⟨w.heap.size, 3, none⟩ = some (.int .u8 c) := X0.out.cell 3
  have q4 : w0.cell? ⟨w.heap.size, 4, none⟩ = some (.int .u32 mask) := X0.out.cell 4
  have q5 : w0.cell? ⟨w.heap.size, 5, none⟩ = some (.slice KA km kc) := X0.out.cell 5
  have q6 : w0.cell? ⟨w.heap.size, 6, none⟩ = some (.slice BA bm bc) := X0.out.cell 6
  have B0 := Lib.hid b0
  clear hbF hbG hS b0
  go_enter Try.func25, Try.ntmps25
  go_wp2_with fail
  refine (replace_any (Lib.hid T0.out.d)).mono ?_
  rintro e w1 ⟨rfl, u1⟩
  obtain ⟨F1, T1, hF1, K1⟩ := T0.out.drv u1
  have X1 := Lib.hid (X0.out.keeps K1 (fun hf => Nat.lt_irrefl _ (HbF.out _ hf)))
  have q5 : w1.cell? ⟨w.heap.size, 5, none⟩ = some (.slice KA km kc) := X1.out.cell 5
  have T1 := Lib.hid T1
  go_wp2_with fail
  refine (rreplace_any (Lib.hid T1.out.r)).mono ?_
  rintro e w2 ⟨rfl, u2⟩
  obtain ⟨G1, T2, hG1, K2⟩ := T1.out.ref u2
  have T2 := Lib.hid T2
  clear q5
  go_wp2_with fail
  go_ret
  exact ⟨⟨_, rfl⟩, Both.mk B0.out K1 (Below.refl _ _) K2 hF1 hG1 T2.out⟩

set_option maxRecDepth 100000 in
set_option maxHeartbeats 4000000 in
theorem act_none {F G : Nat → Prop} {w : World} {p x n : Nat} {st : DSt} {rs : RSt} (h : Hid (Two F G w p x n st rs)) (hc1 : st.cache.length < 1000000) (hc2 : rs.L.length + rs.wait.length < 1000000) {S : Nat → Prop} {KA BA : Option Addr} {km kc bm bc : Nat} {ks : List Bool} {bs : List Int} (hk : Hid (RdL BoolR 1 S w KA km ks)) (hb : Hid (RdL U8R 1 S w BA bm bs)) (hS : ∀ b, S b → ¬ F b ∧ ¬ G b ∧ b < w.heap.size) (z off c mask : Int) (kind : Int) (e0 : (kind == 0) = false) (e1 : (kind == 1) = false) (e2 : (kind == 2) = false) (e3 : (kind == 3) = false) (e4 : (kind == 4) = false) (e5 : (kind == 5) = false) (e6 : (kind == 6) = false) (e7 : (kind == 7) = false) (e9 : (kind == 9) = false) :
    Calls Try.prog 25 #[.pointer (some ⟨p, 0, none⟩), .pointer (some ⟨x, 0, none⟩), .agg #[.int .i64 kind, .int .i64 z, .int .i64 off, .int .u8 c, .int .u32 mask, .slice KA km kc, .slice BA bm bc]] w fun e w' => RetB e ∧ Both F G w w' p x n (st) (rs) := by
  have b0 : Below w.heap.size w (w.alloc (.cells #[.int .i64 kind, .int .i64 z, .int .i64 off, .int .u8 c, .int .u32 mask, .slice KA km kc, .slice BA bm bc] 52)) := (Below.refl _ _).alloc (Nat.le_refl _) _
  have X0 := Lib.hid (BoxAt.new w #[.int .i64 kind, .int .i64 z, .int .i64 off, .int .u8 c, .int .u32 mask, .slice KA km kc, .slice BA bm bc] 52)
  obtain ⟨w0, hw0⟩ : ∃ w0, w.alloc (.cells #[.int .i64 kind, .int .i64 z, .int .i64 off, .int .u8 c, .int .u32 mask, .slice KA km kc, .slice BA bm bc] 52) = w0 := ⟨_, rfl⟩
  rw [hw0] at b0 X0
  have T0 := Lib.hid (h.out.below b0)
  have hbF : ∀ k, F k → k < w.heap.size := fun k hk => drvAt_lt h.out.d hk
  have hbG : ∀ k, G k → k < w.heap.size := fun k hk => h.out.r.lt hk
  have HbF := Lib.hid hbF
  have HbG := Lib.hid hbG
  have HS := Lib.hid hS
  have q0 : w0.cell? ⟨w.heap.size, 0, none⟩ = some (.int .i64 kind) := X0.out.cell 0
  have q1 : w0.cell? ⟨w.heap.size, 1, none⟩ = some (.int .i64 z) := X0.out.cell 1
  have q2 : w0.cell? ⟨w.heap.size, 2, none⟩ = some (.int .i64 off) := X0.out.cell 2
  have q3 : w0.cell? ⟨w.heap.size, 3, none⟩ = some (.int .u8 c) := X0.out.cell 3
  have q4 : w0.cell? ⟨w.heap.size, 4, none⟩ = some (.int .u32 mask) := X0.out.cell 4
  have q5 : w0.cell? ⟨w.heap.size, 5, none⟩ = some (.slice KA km kc) := X0.out.cell 5
  have q6 : w0.cell? ⟨w.heap.size, 6, none⟩ = some (.slice BA bm bc) := X0.out.cell 6
  have B0 := Lib.hid b0
  clear hbF hbG hS b0
  go_enter Try.func25, Try.ntmps25
  go_wp2_with fail
  go_ret
  exact ⟨⟨_, rfl⟩, Both.mk B0.out (Keep.refl _ _) (Below.refl _ _) (Keep.refl _ _) (fun _ h _ => h) (fun _ h _ => h) T0.out⟩
end Go.Proofs.Ytolmpopjonkfgaa

set_option linter.unusedSimpArgs false
set_option linter.unusedVariables false
namespace Go.Proofs.Ytolmpopjonkfgaa
open Go.RowKit Go.Cib
attribute [local go_sem] cell_set Later.cell Later.frozen Grw.cell Grw.frozen

set_option maxRecDepth 100000 in
set_option maxHeartbeats 4000000 in
theorem act_write0 {F G : Nat → Prop} {w : World} {p x n : Nat} {st : DSt} {rs : RSt} (h : Hid (Two F G w p x n st rs)) (hc1 : st.cache.length < 1000000) (hc2 : rs.L.length + rs.wait.length < 1000000) {S : Nat → Prop} {KA BA : Option Addr} {km kc bm bc : Nat} {ks : List Bool} {bs : List Int} (hk : Hid (RdL BoolR 1 S w KA km ks)) (hb : Hid (RdL U8R 1 S w BA bm bs)) (hS : ∀ b, S b → ¬ F b ∧ ¬ G b ∧ b < w.heap.size) (z off c mask : Int) :
    Calls Try.prog 25 #[.pointer (some ⟨p, 0, none⟩), .pointer (some ⟨x, 0, none⟩), .agg #[.int .i64 0, .int .i64 z, .int .i64 off, .int .u8 c, .int .u32 mask, .slice KA km kc, .slice BA bm bc]] w fun e w' => RetB e ∧ Both F G w w' p x n (wrD n st z (rep c)) (wrR n rs z (rep c)) := by
  have b0 : Below w.heap.size w (w.alloc (.cells #[.int .i64 0, .int .i64 z, .int .i64 off, .int .u8 c, .int .u32 mask, .slice KA km kc, .slice BA bm bc] 52)) := (Below.refl _ _).alloc (Nat.le_refl _) _
  have X0 := Lib.hid (BoxAt.new w #[.int .i64 0, .int .i64 z, .int .i64 off, .int .u8 c, .int .u32 mask, .slice KA km kc, .slice BA bm bc] 52)
  obtain ⟨w0, hw0⟩ : ∃ w0, w.alloc (.cells #[.int .i64 0, .int .i64 z, .int .i64 off, .int .u8 c, .int .u32 mask, .slice KA km kc, .slice BA bm bc] 52) = w0 := ⟨_, rfl⟩
  rw [hw0] at b0 X0
  have T0 := Lib.hid (h.out.below b0)
  have hbF : ∀ k, F k → k < w.heap.size := fun k hk => drvAt_lt h.out.d hk
  have hbG : ∀ k, G k → k < w.heap.size := fun k hk => h.out.r.lt hk
  have HbF := Lib.hid hbF
  have HbG := Lib.hid hbG
  have HS := Lib.hid hS
  have q0 : w0.cell? ⟨w.heap.size, 0, none⟩ = some (.int .i64 0) := X0.out.cell 0
  have q1 : w0.cell? ⟨w.heap.size, 1, none⟩ = some (.int .i64 z) := X0.out.cell 1
  have q2 : w0.cell? ⟨w.heap.size, 2, none⟩ = some (.int .i64 off) := X0.out.cell 2
  have q3 : w0.cell? ⟨w.heap.size, 3, none⟩ = some (.int .u8 c) := X0.out.cell 3
  have q4 : w0.cell? ⟨w.heap.size, 4, none⟩ = some (.int .u32 mask) := X0.out.cell 4
  have q5 : w0.cell? ⟨w.heap.size, 5, none⟩ = some (.slice KA km kc) := X0.out.cell 5
  have q6 : w0.cell? ⟨w.heap.size, 6, none⟩ = some (.slice BA bm bc) := X0.out.cell 6
  have B0 := Lib.hid b0
  clear hbF hbG hS b0
  go_enter Try.func25, Try.ntmps25
  clear q2 q4 q5 q6
  go_wp2_with fail
  clear q0
  refine wp_region_held_drew (S := fun w' => w'.cell? ⟨w.heap.size, 1, none⟩ = some (.int .i64 z) ∧ w'.cell? ⟨w.heap.size, 3, none⟩ = some (.int .u8 c)) (by kernel_rfl) (by exact ⟨q1, q3⟩) (fun hHeld => ?_)
  refine wpAnyH_take (i := 0) (v := ?_) rfl (by kernel_rfl) (by kernel_rfl) (by kernel_rfl) (fun _ _ _ h => h) (Or.inl ⟨by rfl, ?_⟩) (by assumption) ?_
  rotate_left
  · (intro wq hSw; (try dsimp only at hSw); (try simp only [List.getElem_toArray, List.getElem_cons_succ, List.getElem_cons_zero]); go_simp); try with_reducible rfl
  try simp only [List.getElem_toArray, List.getElem_cons_succ, List.getElem_cons_zero, Act.put, List.setIfInBounds_toArray, List.set_cons_zero, List.set_cons_succ]
  refine wpAnyH_take (i := 1) (v := ?_) rfl (by kernel_rfl) (by kernel_rfl) (by kernel_rfl) (fun _ _ _ h => h) (Or.inl ⟨by rfl, ?_⟩) (by assumption) ?_
  rotate_left
  · (intro wq hSw; (try dsimp only at hSw); (try simp only [List.getElem_toArray, List.getElem_cons_succ, List.getElem_cons_zero]); go_simp); try with_reducible rfl
  try simp only [List.getElem_toArray, List.getElem_cons_succ, List.getElem_cons_zero, Act.put, List.setIfInBounds_toArray, List.set_cons_zero, List.set_cons_succ]
  refine wpAnyH_take (i := 2) (v := ?_) rfl (by kernel_rfl) (by kernel_rfl) (by kernel_rfl) (fun _ _ _ h => h) (Or.inl ⟨by rfl, ?_⟩) (by assumption) ?_
  rotate_left
  · (intro wq hSw; (try dsimp only at hSw); (try simp only [List.getElem_toArray, List.getElem_cons_succ, List.getElem_cons_zero]); go_simp); try with_reducible rfl
  try simp only [List.getElem_toArray, List.getElem_cons_succ, List.getElem_cons_zero, Act.put, List.setIfInBounds_toArray, List.set_cons_zero, List.set_cons_succ]
  refine wpAnyH_take (i := 3) (v := ?_) rfl (by kernel_rfl) (by kernel_rfl) (by kernel_rfl) (fun _ _ _ h => h) (Or.inl ⟨by rfl, ?_⟩) (by assumption) ?_
  rotate_left
  · (intro wq hSw; (try dsimp only at hSw); (try simp only [List.getElem_toArray, List.getElem_cons_succ, List.getElem_cons_zero]); go_simp); try with_reducible rfl
  try simp only [List.getElem_toArray, List.getElem_cons_succ, List.getElem_cons_zero, Act.put, List.setIfInBounds_toArray, List.set_cons_zero, List.set_cons_succ]
  refine wpAnyH_take (i := 4) (v := ?_) rfl (by kernel_rfl) (by kernel_rfl) (by kernel_rfl) (fun _ _ _ h => h) (Or.inl ⟨by rfl, ?_⟩) (by assumption) ?_
  rotate_left
  · (intro wq hSw; (try dsimp only at hSw); (try simp only [List.getElem_toArray, List.getElem_cons_succ, List.getElem_cons_zero]); go_simp); try with_reducible rfl
  try simp only [List.getElem_toArray, List.getElem_cons_succ, List.getElem_cons_zero, Act.put, List.setIfInBounds_toArray, List.set_cons_zero, List.set_cons_succ]
  refine wpAnyH_take (i := 7) (v := ?_) rfl (by kernel_rfl) (by kernel_rfl) (by kernel_rfl) (fun _ _ _ h => h) (Or.inl ⟨by rfl, ?_⟩) (by assumption) ?_
  rotate_left
  · (intro wq hSw; (try dsimp only at hSw); (try simp only [List.getElem_toArray, List.getElem_cons_succ, List.getElem_cons_zero]); go_simp); try with_reducible rfl
  try simp only [List.getElem_toArray, List.getElem_cons_succ, List.getElem_cons_zero, Act.put, List.setIfInBounds_toArray, List.set_cons_zero, List.set_cons_succ]
  refine wpAnyH_take (i := 8) (v := ?_) rfl (by kernel_rfl) (by kernel_rfl) (by kernel_rfl) (fun _ _ _ h => h) (Or.inl ⟨by rfl, ?_⟩) (by assumption) ?_
  rotate_left
  · (intro wq hSw; (try dsimp only at hSw); (try simp only [List.getElem_toArray, List.getElem_cons_succ, List.getElem_cons_zero]); go_simp); try with_reducible rfl
  try simp only [List.getElem_toArray, List.getElem_cons_succ, List.getElem_cons_zero, Act.put, List.setIfInBounds_toArray, List.set_cons_zero, List.set_cons_succ]
  refine wpAnyH_take (i := 9) (v := ?_) rfl (by kernel_rfl) (by kernel_rfl) (by kernel_rfl) (fun _ _ _ h => h) (Or.inl ⟨by rfl, ?_⟩) (by assumption) ?_
  rotate_left
  · (intro wq hSw; (try dsimp only at hSw); (try simp only [List.getElem_toArray, List.getElem_cons_succ, List.getElem_cons_zero]); go_simp); try with_reducible rfl
  try simp only [List.getElem_toArray, List.getElem_cons_succ, List.getElem_cons_zero, Act.put, List.setIfInBounds_toArray, List.set_cons_zero, List.set_cons_succ]
  refine wpAnyH_take (i := 10) (v := ?_) rfl (by kernel_rfl) (by kernel_rfl) (by kernel_rfl) (fun _ _ _ h => h) (Or.inl ⟨by rfl, ?_⟩) (by assumption) ?_
  rotate_left
  · (intro wq hSw; (try dsimp only at hSw); (try simp only [List.getElem_toArray, List.getElem_cons_succ, List.getElem_cons_zero]); go_simp); try with_reducible rfl
  try simp only [List.getElem_toArray, List.getElem_cons_succ, List.getElem_cons_zero, Act.put, List.setIfInBounds_toArray, List.set_cons_zero, List.set_cons_succ]
  refine wpAnyH_take (i := 11) (v := ?_) rfl (by kernel_rfl) (by kernel_rfl) (by kernel_rfl) (fun _ _ _ h => h) (Or.inl ⟨by rfl, ?_⟩) (by assumption) ?_
  rotate_left
  · (intro wq hSw; (try dsimp only at hSw); (try simp only [List.getElem_toArray, List.getElem_cons_succ, List.getElem_cons_zero]); go_simp); try with_reducible rfl
  try simp only [List.getElem_toArray, List.getElem_cons_succ, List.getElem_cons_zero, Act.put, List.setIfInBounds_toArray, List.set_cons_zero, List.set_cons_succ]
  refine wpAnyH_ready (rs := [5]) (by kernel_rfl) (by simp) ?_
  refine AllReadyH.cons rfl (fun K hK => ?_) AllReadyH.nil
  try simp only [List.getElem_toArray, List.getElem_cons_succ, List.getElem_cons_zero]
  go_simp
  refine (full_box c _).mono ?_
  rintro e w1 ⟨b1, rfl, l1, Q1, t1⟩
  have T1 := Lib.hid ((T0.out.below (Below.refl _ _).drew).below t1)
  have X1 := Lib.hid ((X0.out.below (Below.refl _ _).drew).below t1)
  have Q1 := Lib.hid Q1
  clear q1 q3
  have q1 : w1.cell? ⟨w.heap.size, 1, none⟩ = some (.int .i64 z) := X1.out.cell 1
  have q3 : w1.cell? ⟨w.heap.size, 3, none⟩ = some (.int .u8 c) := X1.out.cell 3
  try (go_wp2_with fail)
  refine hK.out _ _ (by exact ⟨q1, q3⟩) (fun hHeld => ?_)
  clear hK K
  try simp only [List.getElem_toArray, List.getElem_cons_succ, List.getElem_cons_zero, Act.put, List.setIfInBounds_toArray, List.set_cons_zero, List.set_cons_succ]
  refine wpAnyH_ready (rs := [6]) (by kernel_rfl) (by simp) ?_
  refine AllReadyH.cons rfl (fun K hK => ?_) AllReadyH.nil
  try simp only [List.getElem_toArray, List.getElem_cons_succ, List.getElem_cons_zero]
  go_simp
  refine (write_some (Lib.hid T1.out.d) z (S := (· = b1)) (Lib.hid (Q1.out.bytes (S := (· = b1)) rfl)) (by rintro b rfl hf; have := HbF.out _ hf; have := B0.out.size; have := l1; simp at this; omega) hc1).mono ?_
  rintro e w2 ⟨⟨E1, rfl⟩, u2⟩
  obtain ⟨F1, T2, hF1, K1⟩ := T1.out.drv u2
  have X2 := Lib.hid (X1.out.keeps K1 (fun hf => Nat.lt_irrefl _ (HbF.out _ hf)))
  have T2 := Lib.hid T2
  clear q1 q3
  have q1 : w2.cell? ⟨w.heap.size, 1, none⟩ = some (.int .i64 z) := X2.out.cell 1
  have q3 : w2.cell? ⟨w.heap.size, 3, none⟩ = some (.int .u8 c) := X2.out.cell 3
  try (go_wp2_with fail)
  refine hK.out _ _ (by exact ⟨q1, q3⟩) (fun hHeld => ?_)
  clear hK K
  try simp only [List.getElem_toArray, List.getElem_cons_succ, List.getElem_cons_zero, Act.put, List.setIfInBounds_toArray, List.set_cons_zero, List.set_cons_succ]
  refine wpAnyH_ready (rs := [12]) (by kernel_rfl) (by simp) ?_
  refine AllReadyH.cons rfl (fun K hK => ?_) AllReadyH.nil
  try simp only [List.getElem_toArray, List.getElem_cons_succ, List.getElem_cons_zero]
  go_simp
  refine (full_box c _).mono ?_
  rintro e w3 ⟨b3, rfl, l3, Q3, t3⟩
  have T3 := Lib.hid (T2.out.below t3)
  have X3 := Lib.hid (X2.out.below t3)
  have Q3 := Lib.hid Q3
  clear q1 q3
  have q1 : w3.cell? ⟨w.heap.size, 1, none⟩ = some (.int .i64 z) := X3.out.cell 1
  have q3 : w3.cell? ⟨w.heap.size, 3, none⟩ = some (.int .u8 c) := X3.out.cell 3
  try (go_wp2_with fail)
  refine hK.out _ _ (by exact ⟨q1, q3⟩) (fun hHeld => ?_)
  clear hK K
  try simp only [List.getElem_toArray, List.getElem_cons_succ, List.getElem_cons_zero, Act.put, List.setIfInBounds_toArray, List.set_cons_zero, List.set_cons_succ]
  refine wpAnyH_ready (rs := [13]) (by kernel_rfl) (by simp) ?_
  refine AllReadyH.cons rfl (fun K hK => ?_) AllReadyH.nil
  try simp only [List.getElem_toArray, List.getElem_cons_succ, List.getElem_cons_zero]
  go_simp
  refine (rwrite_all (Lib.hid T3.out.r) z (S0 := (· = b3)) (Lib.hid (Q3.out.bytes (S := (· = b3)) rfl)) (by omega)).mono ?_
  rintro e w4 ⟨⟨E2, rfl⟩, u4⟩
  obtain ⟨G1, T4, hG1, K2⟩ := T3.out.ref u4
  have X4 := Lib.hid (X3.out.keeps K2 (fun hf => Nat.lt_irrefl _ (HbG.out _ hf)))
  have T4 := Lib.hid T4
  clear q1 q3
  have q1 : w4.cell? ⟨w.heap.size, 1, none⟩ = some (.int .i64 z) := X4.out.cell 1
  have q3 : w4.cell? ⟨w.heap.size, 3, none⟩ = some (.int .u8 c) := X4.out.cell 3
  try (go_wp2_with fail)
  refine hK.out _ _ (by exact ⟨q1, q3⟩) (fun hHeld => ?_)
  clear hK K
  try simp only [List.getElem_toArray, List.getElem_cons_succ, List.getElem_cons_zero, Act.put, List.setIfInBounds_toArray, List.set_cons_zero, List.set_cons_succ]
  refine wpAnyH_take (i := 14) (v := ?_) rfl (by kernel_rfl) (by kernel_rfl) (by kernel_rfl) (fun _ _ _ h => h) (Or.inl ⟨by rfl, ?_⟩) (by assumption) ?_
  rotate_left
  · (intro wq hSw; (try dsimp only at hSw); (try simp only [List.getElem_toArray, List.getElem_cons_succ, List.getElem_cons_zero]); go_simp); try with_reducible rfl
  try simp only [List.getElem_toArray, List.getElem_cons_succ, List.getElem_cons_zero, Act.put, List.setIfInBounds_toArray, List.set_cons_zero, List.set_cons_succ]
  refine wpAnyH_take (i := 15) (v := ?_) rfl (by kernel_rfl) (by kernel_rfl) (by kernel_rfl) (fun _ _ _ h => h) (Or.inl ⟨by rfl, ?_⟩) (by assumption) ?_
  rotate_left
  · (intro wq hSw; (try dsimp only at hSw); (try simp only [List.getElem_toArray, List.getElem_cons_succ, List.getElem_cons_zero]); go_simp); try with_reducible rfl
  try simp only [List.getElem_toArray, List.getElem_cons_succ, List.getElem_cons_zero, Act.put, List.setIfInBounds_toArray, List.set_cons_zero, List.set_cons_succ]
  refine wpAnyH_done (by kernel_rfl) ?_ _
  go_wp2_with fail
  go_ret
  exact ⟨⟨_, rfl⟩, Both.mk (B0.out.trans (((Below.refl _ _).drew.trans t1).mono B0.out.size)) K1 t3 K2 hF1 hG1 (show Two F1 G1 w4 p x n (wrD n st z (rep c)) (wrR n rs z (rep c)) from T4.out)⟩

set_option maxRecDepth 100000 in
set_option maxHeartbeats 4000000 in
theorem act_write1 {F G : Nat → Prop} {w : World} {p x n : Nat} {st : DSt} {rs : RSt} (h : Hid (Two F G w p x n st rs)) (hc1 : st.cache.length < 1000000) (hc2 : rs.L.length + rs.wait.length < 1000000) {S : Nat → Prop} {KA BA : Option Addr} {km kc bm bc : Nat} {ks : List Bool} {bs : List Int} (hk : Hid (RdL BoolR 1 S w KA km ks)) (hb : Hid (RdL U8R 1 S w BA bm bs)) (hS : ∀ b, S b → ¬ F b ∧ ¬ G b ∧ b < w.heap.size) (z off c mask : Int) :
    Calls Try.prog 25 #[.pointer (some ⟨p, 0, none⟩), .pointer (some ⟨x, 0, none⟩), .agg #[.int .i64 1, .int .i64 z, .int .i64 off, .int .u8 c, .int .u32 mask, .slice KA km kc, .slice BA bm bc]] w fun e w' => RetB e ∧ Both F G w w' p x n (wrD n st z (rep c)) (wrR n rs z (rep c)) := by
  have b0 : Below w.heap.size w (w.alloc (.cells #[.int .i64 1, .int .i64 z, .int .i64 off, .int .u8 c, .int .u32 mask, .slice KA km kc, .slice BA bm bc] 52)) := (Below.refl _ _).alloc (Nat.le_refl _) _
  have X0 := Lib.hid (BoxAt.new w #[.int .i64 1, .int .i64 z, .int .i64 off, .int .u8 c, .int .u32 mask, .slice KA km kc, .slice BA bm bc] 52)
  obtain ⟨w0, hw0⟩ : ∃ w0, w.alloc (.cells #[.int .i64 1, .int .i64 z, .int .i64 off, .int .u8 c, .int .u32 mask, .slice KA km kc, .slice BA bm bc] 52) = w0 := ⟨_, rfl⟩
  rw [hw0] at b0 X0
  have T0 := Lib.hid (h.out.below b0)
  have hbF : ∀ k, F k → k < w.heap.size := fun k hk => drvAt_lt h.out.d hk
  have hbG : ∀ k, G k → k < w.heap.size := fun k hk => h.out.r.lt hk
  have HbF := Lib.hid hbF
  have HbG := Lib.hid hbG
  have HS := Lib.hid hS
  have q0 : w0.cell? ⟨w.heap.size, 0, none⟩ = some (.int .i64 1) := X0.out.cell 0
  have q1 : w0.cell? ⟨w.heap.size, 1, none⟩ = some (.int .i64 z) := X0.out.cell 1
  have q2 : w0.cell? ⟨w.heap.size, 2, none⟩ = some (.int .i64 off) := X0.out.cell 2
  have q3 : w0.cell? ⟨w.heap.size, 3, none⟩ = some (.int .u8 c) := X0.out.cell 3
  have q4 : w0.cell? ⟨w.heap.size, 4, none⟩ = some (.int .u32 mask) := X0.out.cell 4
  have q5 : w0.cell? ⟨w.heap.size, 5, none⟩ = some (.slice KA km kc) := X0.out.cell 5
  have q6 : w0.cell? ⟨w.heap.size, 6, none⟩ = some (.slice BA bm bc) := X0.out.cell 6
  have B0 := Lib.hid b0
  clear hbF hbG hS b0
  go_enter Try.func25, Try.ntmps25
  clear q2 q4 q5 q6
  go_wp2_with fail
  clear q0
  refine wp_region_held_drew (S := fun w' => w'.cell? ⟨w.heap.size, 1, none⟩ = some (.int .i64 z) ∧ w'.cell? ⟨w.heap.size, 3, none⟩ = some (.int .u8 c)) (by kernel_rfl) (by exact ⟨q1, q3⟩) (fun hHeld => ?_)
  refine wpAnyH_take (i := 0) (v := ?_) rfl (by kernel_rfl) (by kernel_rfl) (by kernel_rfl) (fun _ _ _ h => h) (Or.inl ⟨by rfl, ?_⟩) (by assumption) ?_
  rotate_left
  · (intro wq hSw; (try dsimp only at hSw); (try simp only [List.getElem_toArray, List.getElem_cons_succ, List.getElem_cons_zero]); go_simp); try with_reducible rfl
  try simp only [List.getElem_toArray, List.getElem_cons_succ, List.getElem_cons_zero, Act.put, List.setIfInBounds_toArray, List.set_cons_zero, List.set_cons_succ]
  refine wpAnyH_take (i := 1) (v := ?_) rfl (by kernel_rfl) (by kernel_rfl) (by kernel_rfl) (fun _ _ _ h => h) (Or.inl ⟨by rfl, ?_⟩) (by assumption) ?_
  rotate_left
  · (intro wq hSw; (try dsimp only at hSw); (try simp only [List.getElem_toArray, List.getElem_cons_succ, List.getElem_cons_zero]); go_simp); try with_reducible rfl
  try simp only [List.getElem_toArray, List.getElem_cons_succ, List.getElem_cons_zero, Act.put, List.setIfInBounds_toArray, List.set_cons_zero, List.set_cons_succ]
  refine wpAnyH_take (i := 2) (v := ?_) rfl (by kernel_rfl) (by kernel_rfl) (by kernel_rfl) (fun _ _ _ h => h) (Or.inl ⟨by rfl, ?_⟩) (by assumption) ?_
  rotate_left
  · (intro wq hSw; (try dsimp only at hSw); (try simp only [List.getElem_toArray, List.getElem_cons_succ, List.getElem_cons_zero]); go_simp); try with_reducible rfl
  try simp only [List.getElem_toArray, List.getElem_cons_succ, List.getElem_cons_zero, Act.put, List.setIfInBounds_toArray, List.set_cons_zero, List.set_cons_succ]
  refine wpAnyH_take (i := 3) (v := ?_) rfl (by kernel_rfl) (by kernel_rfl) (by kernel_rfl) (fun _ _ _ h => h) (Or.inl ⟨by rfl, ?_⟩) (by assumption) ?_
  rotate_left
  · (intro wq hSw; (try dsimp only at hSw); (try simp only [List.getElem_toArray, List.getElem_cons_succ, List.getElem_cons_zero]); go_simp); try with_reducible rfl
  try simp only [List.getElem_toArray, List.getElem_cons_succ, List.getElem_cons_zero, Act.put, List.setIfInBounds_toArray, List.set_cons_zero, List.set_cons_succ]
  refine wpAnyH_take (i := 4) (v := ?_) rfl (by kernel_rfl) (by kernel_rfl) (by kernel_rfl) (fun _ _ _ h => h) (Or.inl ⟨by rfl, ?_⟩) (by assumption) ?_
  rotate_left
  · (intro wq hSw; (try dsimp only at hSw); (try simp only [List.getElem_toArray, List.getElem_cons_succ, List.getElem_cons_zero]); go_simp); try with_reducible rfl
  try simp only [List.getElem_toArray, List.getElem_cons_succ, List.getElem_cons_zero, Act.put, List.setIfInBounds_toArray, List.set_cons_zero, List.set_cons_succ]
  refine wpAnyH_take (i := 7) (v := ?_) rfl (by kernel_rfl) (by kernel_rfl) (by kernel_rfl) (fun _ _ _ h => h) (Or.inl ⟨by rfl, ?_⟩) (by assumption) ?_
  rotate_left
  · (intro wq hSw; (try dsimp only at hSw); (try simp only [List.getElem_toArray, List.getElem_cons_succ, List.getElem_cons_zero]); go_simp); try with_reducible rfl
  try simp only [List.getElem_toArray, List.getElem_cons_succ, List.getElem_cons_zero, Act.put, List.setIfInBounds_toArray, List.set_cons_zero, List.set_cons_succ]
  refine wpAnyH_take (i := 8) (v := ?_) rfl (by kernel_rfl) (by kernel_rfl) (by kernel_rfl) (fun _ _ _ h => h) (Or.inl ⟨by rfl, ?_⟩) (by assumption) ?_
  rotate_left
  · (intro wq hSw; (try dsimp only at hSw); (try simp only [List.getElem_toArray, List.getElem_cons_succ, List.getElem_cons_zero]); go_simp); try with_reducible rfl
  try simp only [List.getElem_toArray, List.getElem_cons_succ, List.getElem_cons_zero, Act.put, List.setIfInBounds_toArray, List.set_cons_zero, List.set_cons_succ]
  refine wpAnyH_take (i := 9) (v := ?_) rfl (by kernel_rfl) (by kernel_rfl) (by kernel_rfl) (fun _ _ _ h => h) (Or.inl ⟨by rfl, ?_⟩) (by assumption) ?_
  rotate_left
  · (intro wq hSw; (try dsimp only at hSw); (try simp only [List.getElem_toArray, List.getElem_cons_succ, List.getElem_cons_zero]); go_simp); try with_reducible rfl
  try simp only [List.getElem_toArray, List.getElem_cons_succ, List.getElem_cons_zero, Act.put, List.setIfInBounds_toArray, List.set_cons_zero, List.set_cons_succ]
  refine wpAnyH_take (i := 10) (v := ?_) rfl (by kernel_rfl) (by kernel_rfl) (by kernel_rfl) (fun _ _ _ h => h) (Or.inl ⟨by rfl, ?_⟩) (by assumption) ?_
  rotate_left
  · (intro wq hSw; (try dsimp only at hSw); (try simp only [List.getElem_toArray, List.getElem_cons_succ, List.getElem_cons_zero]); go_simp); try with_reducible rfl
  try simp only [List.getElem_toArray, List.getElem_cons_succ, List.getElem_cons_zero, Act.put, List.setIfInBounds_toArray, List.set_cons_zero, List.set_cons_succ]
  refine wpAnyH_take (i := 11) (v := ?_) rfl (by kernel_rfl) (by kernel_rfl) (by kernel_rfl) (fun _ _ _ h => h) (Or.inl ⟨by rfl, ?_⟩) (by assumption) ?_
  rotate_left
  · (intro wq hSw; (try dsimp only at hSw); (try simp only [List.getElem_toArray, List.getElem_cons_succ, List.getElem_cons_zero]); go_simp); try with_reducible rfl
  try simp only [List.getElem_toArray, List.getElem_cons_succ, List.getElem_cons_zero, Act.put, List.setIfInBounds_toArray, List.set_cons_zero, List.set_cons_succ]
  refine wpAnyH_ready (rs := [5]) (by kernel_rfl) (by simp) ?_
  refine AllReadyH.cons rfl (fun K hK => ?_) AllReadyH.nil
  try simp only [List.getElem_toArray, List.getElem_cons_succ, List.getElem_cons_zero]
  go_simp
  refine (full_box c _).mono ?_
  rintro e w1 ⟨b1, rfl, l1, Q1, t1⟩
  have T1 := Lib.hid ((T0.out.below (Below.refl _ _).drew).below t1)
  have X1 := Lib.hid ((X0.out.below (Below.refl _ _).drew).below t1)
  have Q1 := Lib.hid Q1
  clear q1 q3
  have q1 : w1.cell? ⟨w.heap.size, 1, none⟩ = some (.int .i64 z) := X1.out.cell 1
  have q3 : w1.cell? ⟨w.heap.size, 3, none⟩ = some (.int .u8 c) := X1.out.cell 3
  try (go_wp2_with fail)
  refine hK.out _ _ (by exact ⟨q1, q3⟩) (fun hHeld => ?_)
  clear hK K
  try simp only [List.getElem_toArray, List.getElem_cons_succ, List.getElem_cons_zero, Act.put, List.setIfInBounds_toArray, List.set_cons_zero, List.set_cons_succ]
  refine wpAnyH_ready (rs := [6]) (by kernel_rfl) (by simp) ?_
  refine AllReadyH.cons rfl (fun K hK => ?_) AllReadyH.nil
  try simp only [List.getElem_toArray, List.getElem_cons_succ, List.getElem_cons_zero]
  go_simp
  refine (write_some (Lib.hid T1.out.d) z (S := (· = b1)) (Lib.hid (Q1.out.bytes (S := (· = b1)) rfl)) (by rintro b rfl hf; have := HbF.out _ hf; have := B0.out.size; have := l1; simp at this; omega) hc1).mono ?_
  rintro e w2 ⟨⟨E1, rfl⟩, u2⟩
  obtain ⟨F1, T2, hF1, K1⟩ := T1.out.drv u2
  have X2 := Lib.hid (X1.out.keeps K1 (fun hf => Nat.lt_irrefl _ (HbF.out _ hf)))
  have T2 := Lib.hid T2
  clear q1 q3
  have q1 : w2.cell? ⟨w.heap.size, 1, none⟩ = some (.int .i64 z) := X2.out.cell 1
  have q3 : w2.cell? ⟨w.heap.size, 3, none⟩ = some (.int .u8 c) := X2.out.cell 3
  try (go_wp2_with fail)
  refine hK.out _ _ (by exact ⟨q1, q3⟩) (fun hHeld => ?_)
  clear hK K
  try simp only [List.getElem_toArray, List.getElem_cons_succ, List.getElem_cons_zero, Act.put, List.setIfInBounds_toArray, List.set_cons_zero, List.set_cons_succ]
  refine wpAnyH_ready (rs := [12]) (by kernel_rfl) (by simp) ?_
  refine AllReadyH.cons rfl (fun K hK => ?_) AllReadyH.nil
  try simp only [List.getElem_toArray, List.getElem_cons_succ, List.getElem_cons_zero]
  go_simp
  refine (full_box c _).mono ?_
  rintro e w3 ⟨b3, rfl, l3, Q3, t3⟩
  have T3 := Lib.hid (T2.out.below t3)
  have X3 := Lib.hid (X2.out.below t3)
  have Q3 := Lib.hid Q3
  clear q1 q3
  have q1 : w3.cell? ⟨w.heap.size, 1, none⟩ = some (.int .i64 z) := X3.out.cell 1
  have q3 : w3.cell? ⟨w.heap.size, 3, none⟩ = some (.int .u8 c) := X3.out.cell 3
  try (go_wp2_with fail)
  refine hK.out _ _ (by exact ⟨q1, q3⟩) (fun hHeld => ?_)
  clear hK K
  try simp only [List.getElem_toArray, List.getElem_cons_succ, List.getElem_cons_zero, Act.put, List.setIfInBounds_toArray, List.set_cons_zero, List.set_cons_succ]
  refine wpAnyH_ready (rs := [13]) (by kernel_rfl) (by simp) ?_
  refine AllReadyH.cons rfl (fun K hK => ?_) AllReadyH.nil
  try simp only [List.getElem_toArray, List.getElem_cons_succ, List.getElem_cons_zero]
  go_simp
  refine (rwrite_all (Lib.hid T3.out.r) z (S0 := (· = b3)) (Lib.hid (Q3.out.bytes (S := (· = b3)) rfl)) (by omega)).mono ?_
  rintro e w4 ⟨⟨E2, rfl⟩, u4⟩
  obtain ⟨G1, T4, hG1, K2⟩ := T3.out.ref u4
  have X4 := Lib.hid (X3.out.keeps K2 (fun hf => Nat.lt_irrefl _ (HbG.out _ hf)))
  have T4 := Lib.hid T4
  clear q1 q3
  have q1 : w4.cell? ⟨w.heap.size, 1, none⟩ = some (.int .i64 z) := X4.out.cell 1
  have q3 : w4.cell? ⟨w.heap.size, 3, none⟩ = some (.int .u8 c) := X4.out.cell 3
  try (go_wp2_with fail)
  refine hK.out _ _ (by exact ⟨q1, q3⟩) (fun hHeld => ?_)
  clear hK K
  try simp only [List.getElem_toArray, List.getElem_cons_succ, List.getElem_cons_zero, Act.put, List.setIfInBounds_toArray, List.set_cons_zero, List.set_cons_succ]
  refine wpAnyH_take (i := 14) (v := ?_) rfl (by kernel_rfl) (by kernel_rfl) (by kernel_rfl) (fun _ _ _ h => h) (Or.inl ⟨by rfl, ?_⟩) (by assumption) ?_
  rotate_left
  · (intro wq hSw; (try dsimp only at hSw); (try simp only [List.getElem_toArray, List.getElem_cons_succ, List.getElem_cons_zero]); go_simp); try with_reducible rfl
  try simp only [List.getElem_toArray, List.getElem_cons_succ, List.getElem_cons_zero, Act.put, List.setIfInBounds_toArray, List.set_cons_zero, List.set_cons_succ]
  refine wpAnyH_take (i := 15) (v := ?_) rfl (by kernel_rfl) (by kernel_rfl) (by kernel_rfl) (fun _ _ _ h => h) (Or.inl ⟨by rfl, ?_⟩) (by assumption) ?_
  rotate_left
  · (intro wq hSw; (try dsimp only at hSw); (try simp only [List.getElem_toArray, List.getElem_cons_succ, List.getElem_cons_zero]); go_simp); try with_reducible rfl
  try simp only [List.getElem_toArray, List.getElem_cons_succ, List.getElem_cons_zero, Act.put, List.setIfInBounds_toArray, List.set_cons_zero, List.set_cons_succ]
  refine wpAnyH_done (by kernel_rfl) ?_ _
  go_wp2_with fail
  go_ret
  exact ⟨⟨_, rfl⟩, Both.mk (B0.out.trans (((Below.refl _ _).drew.trans t1).mono B0.out.size)) K1 t3 K2 hF1 hG1 (show Two F1 G1 w4 p x n (wrD n st z (rep c)) (wrR n rs z (rep c)) from T4.out)⟩

set_option maxRecDepth 100000 in
set_option maxHeartbeats 4000000 in
theorem act_write2 {F G : Nat → Prop} {w : World} {p x n : Nat} {st : DSt} {rs : RSt} (h : Hid (Two F G w p x n st rs)) (hc1 : st.cache.length < 1000000) (hc2 : rs.L.length + rs.wait.length < 1000000) {S : Nat → Prop} {KA BA : Option Addr} {km kc bm bc : Nat} {ks : List Bool} {bs : List Int} (hk : Hid (RdL BoolR 1 S w KA km ks)) (hb : Hid (RdL U8R 1 S w BA bm bs)) (hS : ∀ b, S b → ¬ F b ∧ ¬ G b ∧ b < w.heap.size) (z off c mask : Int) :
    Calls Try.prog 25 #[.pointer (some ⟨p, 0, none⟩), .pointer (some ⟨x, 0, none⟩), .agg #[.int .i64 2, .int .i64 z, .int .i64 off, .int .u8 c, .int .u32 mask, .slice KA km kc, .slice BA bm bc]] w fun e w' => RetB e ∧ Both F G w w' p x n (wrD n st z (rep c)) (wrR n rs z (rep c)) := by
  have b0 : Below w.heap.size w (w.alloc (.cells #[.int .i64 2, .int .i64 z, .int .i64 off, .int .u8 c, .int .u32 mask, .slice KA km kc, .slice BA bm bc] 52)) := (Below.refl _ _).alloc (Nat.le_refl _) _
  have X0 := Lib.hid (BoxAt.new w #[.int .i64 2, .int .i64 z, .int .i64 off, .int .u8 c, .int .u32 mask, .slice KA km kc, .slice BA bm bc] 52)
  obtain ⟨w0, hw0⟩ : ∃ w0, w.alloc (.cells #[.int .i64 2, .int .i64 z, .int .i64 off, .int .u8 c, .int .u32 mask, .slice KA km kc, .slice BA bm bc] 52) = w0 := ⟨_, rfl⟩
  rw [hw0] at b0 X0
  have T0 := Lib.hid (h.out.below b0)
  have hbF : ∀ k, F k → k < w.heap.size := fun k hk => drvAt_lt h.out.d hk
  have hbG : ∀ k, G k → k < w.heap.size := fun k hk => h.out.r.lt hk
  have HbF := Lib.hid hbF
  have HbG := Lib.hid hbG
  have HS := Lib.hid hS
  have q0 : w0.cell? ⟨w.heap.size, 0, none⟩ = some (.int .i64 2) := X0.out.cell 0
  have q1 : w0.cell? ⟨w.heap.size, 1, none⟩ = some (.int .i64 z) := X0.out.cell 1
  have q2 : w0.cell? ⟨w.heap.size, 2, none⟩ = some (.int .i64 off) := X0.out.cell 2
  have q3 : w0.cell? ⟨w.heap.size, 3, none⟩ = some (.int .u8 c) := X0.out.cell 3
  have q4 : w0.cell? ⟨w.heap.size, 4, none⟩ = some (.int .u32 mask) := X0.out.cell 4
  have q5 : w0.cell? ⟨w.heap.size, 5, none⟩ = some (.slice KA km kc) := X0.out.cell 5
  have q6 : w0.cell? ⟨w.heap.size, 6, none⟩ = some (.slice BA bm bc) := X0.out.cell 6
  have B0 := Lib.hid b0
  clear hbF hbG hS b0
  go_enter Try.func25, Try.ntmps25
  clear q2 q4 q5 q6
  go_wp2_with fail
  clear q0
  refine wp_region_held_drew (S := fun w' => w'.cell? ⟨w.heap.size, 1, none⟩ = some (.int .i64 z) ∧ w'.cell? ⟨w.heap.size, 3, none⟩ = some (.int .u8 c)) (by kernel_rfl) (by exact ⟨q1, q3⟩) (fun hHeld => ?_)
  refine wpAnyH_take (i := 0) (v := ?_) rfl (by kernel_rfl) (by kernel_rfl) (by kernel_rfl) (fun _ _ _ h => h) (Or.inl ⟨by rfl, ?_⟩) (by assumption) ?_
  rotate_left
  · (intro wq hSw; (try dsimp only at hSw); (try simp only [List.getElem_toArray, List.getElem_cons_succ, List.getElem_cons_zero]); go_simp); try with_reducible rfl
  try simp only [List.getElem_toArray, List.getElem_cons_succ, List.getElem_cons_zero, Act.put, List.setIfInBounds_toArray, List.set_cons_zero, List.set_cons_succ]
  refine wpAnyH_take (i := 1) (v := ?_) rfl (by kernel_rfl) (by kernel_rfl) (by kernel_rfl) (fun _ _ _ h => h) (Or.inl ⟨by rfl, ?_⟩) (by assumption) ?_
  rotate_left
  · (intro wq hSw; (try dsimp only at hSw); (try simp only [List.getElem_toArray, List.getElem_cons_succ, List.getElem_cons_zero]); go_simp); try with_reducible rfl
  try simp only [List.getElem_toArray, List.getElem_cons_succ, List.getElem_cons_zero, Act.put, List.setIfInBounds_toArray, List.set_cons_zero, List.set_cons_succ]
  refine wpAnyH_take (i := 2) (v := ?_) rfl (by kernel_rfl) (by kernel_rfl) (by kernel_rfl) (fun _ _ _ h => h) (Or.inl ⟨by rfl, ?_⟩) (by assumption) ?_
  rotate_left
  · (intro wq hSw; (try dsimp only at hSw); (try simp only [List.getElem_toArray, List.getElem_cons_succ, List.getElem_cons_zero]); go_simp); try with_reducible rfl
  try simp only [List.getElem_toArray, List.getElem_cons_succ, List.getElem_cons_zero, Act.put, List.setIfInBounds_toArray, List.set_cons_zero, List.set_cons_succ]
  refine wpAnyH_take (i := 3) (v := ?_) rfl (by kernel_rfl) (by kernel_rfl) (by kernel_rfl) (fun _ _ _ h => h) (Or.inl ⟨by rfl, ?_⟩) (by assumption) ?_
  rotate_left
  · (intro wq hSw; (try dsimp only at hSw); (try simp only [List.getElem_toArray, List.getElem_cons_succ, List.getElem_cons_zero]); go_simp); try with_reducible rfl
  try simp only [List.getElem_toArray, List.getElem_cons_succ, List.getElem_cons_zero, Act.put, List.setIfInBounds_toArray, List.set_cons_zero, List.set_cons_succ]
  refine wpAnyH_take (i := 4) (v := ?_) rfl (by kernel_rfl) (by kernel_rfl) (by kernel_rfl) (fun _ _ _ h => h) (Or.inl ⟨by rfl, ?_⟩) (by assumption) ?_
  rotate_left
  · (intro wq hSw; (try dsimp only at hSw); (try simp only [List.getElem_toArray, List.getElem_cons_succ, List.getElem_cons_zero]); go_simp); try with_reducible rfl
  try simp only [List.getElem_toArray, List.getElem_cons_succ, List.getElem_cons_zero, Act.put, List.setIfInBounds_toArray, List.set_cons_zero, List.set_cons_succ]
  refine wpAnyH_take (i := 7) (v := ?_) rfl (by kernel_rfl) (by kernel_rfl) (by kernel_rfl) (fun _ _ _ h => h) (Or.inl ⟨by rfl, ?_⟩) (by assumption) ?_
  rotate_left
  · (intro wq hSw; (try dsimp only at hSw); (try simp only [List.getElem_toArray, List.getElem_cons_succ, List.getElem_cons_zero]); go_simp); try with_reducible rfl
  try simp only [List.getElem_toArray, List.getElem_cons_succ, List.getElem_cons_zero, Act.put, List.setIfInBounds_toArray, List.set_cons_zero, List.set_cons_succ]
  refine wpAnyH_take (i := 8) (v := ?_) rfl (by kernel_rfl) (by kernel_rfl) (by kernel_rfl) (fun _ _ _ h => h) (Or.inl ⟨by rfl, ?_⟩) (by assumption) ?_
  rotate_left
  · (intro wq hSw; (try dsimp only at hSw); (try simp only [List.getElem_toArray, List.getElem_cons_succ, List.getElem_cons_zero]); go_simp); try with_reducible rfl
  try simp only [List.getElem_toArray, List.getElem_cons_succ, List.getElem_cons_zero, Act.put, List.setIfInBounds_toArray, List.set_cons_zero, List.set_cons_succ]
  refine wpAnyH_take (i := 9) (v := ?_) rfl (by kernel_rfl) (by kernel_rfl) (by kernel_rfl) (fun _ _ _ h => h) (Or.inl ⟨by rfl, ?_⟩) (by assumption) ?_
  rotate_left
  · (intro wq hSw; (try dsimp only at hSw); (try simp only [List.getElem_toArray, List.getElem_cons_succ, List.getElem_cons_zero]); go_simp); try with_reducible rfl
  try simp only [List.getElem_toArray, List.getElem_cons_succ, List.getElem_cons_zero, Act.put, List.setIfInBounds_toArray, List.set_cons_zero, List.set_cons_succ]
  refine wpAnyH_take (i := 10) (v := ?_) rfl (by kernel_rfl) (by kernel_rfl) (by kernel_rfl) (fun _ _ _ h => h) (Or.inl ⟨by rfl, ?_⟩) (by assumption) ?_
  rotate_left
  · (intro wq hSw; (try dsimp only at hSw); (try simp only [List.getElem_toArray, List.getElem_cons_succ, List.getElem_cons_zero]); go_simp); try with_reducible rfl
  try simp only [List.getElem_toArray, List.getElem_cons_succ, List.getElem_cons_zero, Act.put, List.setIfInBounds_toArray, List.set_cons_zero, List.set_cons_succ]
  refine wpAnyH_take (i := 11) (v := ?_) rfl (by kernel_rfl) (by kernel_rfl) (by kernel_rfl) (fun _ _ _ h => h) (Or.inl ⟨by rfl, ?_⟩) (by assumption) ?_
  rotate_left
  · (intro wq hSw; (try dsimp only at hSw); (try simp only [List.getElem_toArray, List.getElem_cons_succ, List.getElem_cons_zero]); go_simp); try with_reducible rfl
  try simp only [List.getElem_toArray, List.getElem_cons_succ, List.getElem_cons_zero, Act.put, List.setIfInBounds_toArray, List.set_cons_zero, List.set_cons_succ]
  refine wpAnyH_ready (rs := [5]) (by kernel_rfl) (by simp) ?_
  refine AllReadyH.cons rfl (fun K hK => ?_) AllReadyH.nil
  try simp only [List.getElem_toArray, List.getElem_cons_succ, List.getElem_cons_zero]
  go_simp
  refine (full_box c _).mono ?_
  rintro e w1 ⟨b1, rfl, l1, Q1, t1⟩
  have T1 := Lib.hid ((T0.out.below (Below.refl _ _).drew).below t1)
  have X1 := Lib.hid ((X0.out.below (Below.refl _ _).drew).below t1)
  have Q1 := Lib.hid Q1
  clear q1 q3
  have q1 : w1.cell? ⟨w.heap.size, 1, none⟩ = some (.int .i64 z) := X1.out.cell 1
  have q3 : w1.cell? ⟨w.heap.size, 3, none⟩ = some (.int .u8 c) := X1.out.cell 3
  try (go_wp2_with fail)
  refine hK.out _ _ (by exact ⟨q1, q3⟩) (fun hHeld => ?_)
  clear hK K
  try simp only [List.getElem_toArray, List.getElem_cons_succ, List.getElem_cons_zero, Act.put, List.setIfInBounds_toArray, List.set_cons_zero, List.set_cons_succ]
  refine wpAnyH_ready (rs := [6]) (by kernel_rfl) (by simp) ?_
  refine AllReadyH.cons rfl (fun K hK => ?_) AllReadyH.nil
  try simp only [List.getElem_toArray, List.getElem_cons_succ, List.getElem_cons_zero]
  go_simp
  refine (write_some (Lib.hid T1.out.d) z (S := (· = b1)) (Lib.hid (Q1.out.bytes (S := (· = b1)) rfl)) (by rintro b rfl hf; have := HbF.out _ hf; have := B0.out.size; have := l1; simp at this; omega) hc1).mono ?_
  rintro e w2 ⟨⟨E1, rfl⟩, u2⟩
  obtain ⟨F1, T2, hF1, K1⟩ := T1.out.drv u2
  have X2 := Lib.hid (X1.out.keeps K1 (fun hf => Nat.lt_irrefl _ (HbF.out _ hf)))
  have T2 := Lib.hid T2
  clear q1 q3
  have q1 : w2.cell? ⟨w.heap.size, 1, none⟩ = some (.int .i64 z) := X2.out.cell 1
  have q3 : w2.cell? ⟨w.heap.size, 3, none⟩ = some (.int .u8 c) := X2.out.cell 3
  try (go_wp2_with fail)
  refine hK.out _ _ (by exact ⟨q1, q3⟩) (fun hHeld => ?_)
  clear hK K
  try simp only [List.getElem_toArray, List.getElem_cons_succ, List.getElem_cons_zero, Act.put, List.setIfInBounds_toArray, List.set_cons_zero, List.set_cons_succ]
  refine wpAnyH_ready (rs := [12]) (by kernel_rfl) (by simp) ?_
  refine AllReadyH.cons rfl (fun K hK => ?_) AllReadyH.nil
  try simp only [List.getElem_toArray, List.getElem_cons_succ, List.getElem_cons_zero]
  go_simp
  refine (full_box c _).mono ?_
  rintro e w3 ⟨b3, rfl, l3, Q3, t3⟩
  have T3 := Lib.hid (T2.out.below t3)
  have X3 := Lib.hid (X2.out.below t3)
  have Q3 := Lib.hid Q3
  clear q1 q3
  have q1 : w3.cell? ⟨w.heap.size, 1, none⟩ = some (.int .i64 z) := X3.out.cell 1
  have q3 : w3.cell? ⟨w.heap.size, 3, none⟩ = some (.int .u8 c) := X3.out.cell 3
  try (go_wp2_with fail)
  refine hK.out _ _ (by exact ⟨q1, q3⟩) (fun hHeld => ?_)
  clear hK K
  try simp only [List.getElem_toArray, List.getElem_cons_succ, List.getElem_cons_zero, Act.put, List.setIfInBounds_toArray, List.set_cons_zero, List.set_cons_succ]
  refine wpAnyH_ready (rs := [13]) (by kernel_rfl) (by simp) ?_
  refine AllReadyH.cons rfl (fun K hK => ?_) AllReadyH.nil
  try simp only [List.getElem_toArray, List.getElem_cons_succ, List.getElem_cons_zero]
  go_simp
  refine (rwrite_all (Lib.hid T3.out.r) z (S0 := (· = b3)) (Lib.hid (Q3.out.bytes (S := (· = b3)) rfl)) (by omega)).mono ?_
  rintro e w4 ⟨⟨E2, rfl⟩, u4⟩
  obtain ⟨G1, T4, hG1, K2⟩ := T3.out.ref u4
  have X4 := Lib.hid (X3.out.keeps K2 (fun hf => Nat.lt_irrefl _ (HbG.out _ hf)))
  have T4 := Lib.hid T4
  clear q1 q3
  have q1 : w4.cell? ⟨w.heap.size, 1, none⟩ = some (.int .i64 z) := X4.out.cell 1
  have q3 : w4.cell? ⟨w.heap.size, 3, none⟩ = some (.int .u8 c) := X4.out.cell 3
  try (go_wp2_with fail)
  refine hK.out _ _ (by exact ⟨q1, q3⟩) (fun hHeld => ?_)
  clear hK K
  try simp only [List.getElem_toArray, List.getElem_cons_succ, List.getElem_cons_zero, Act.put, List.setIfInBounds_toArray, List.set_cons_zero, List.set_cons_succ]
  refine wpAnyH_take (i := 14) (v := ?_) rfl (by kernel_rfl) (by kernel_rfl) (by kernel_rfl) (fun _ _ _ h => h) (Or.inl ⟨by rfl, ?_⟩) (by assumption) ?_
  rotate_left
  · (intro wq hSw; (try dsimp only at hSw); (try simp only [List.getElem_toArray, List.getElem_cons_succ, List.getElem_cons_zero]); go_simp); try with_reducible rfl
  try simp only [List.getElem_toArray, List.getElem_cons_succ, List.getElem_cons_zero, Act.put, List.setIfInBounds_toArray, List.set_cons_zero, List.set_cons_succ]
  refine wpAnyH_take (i := 15) (v := ?_) rfl (by kernel_rfl) (by kernel_rfl) (by kernel_rfl) (fun _ _ _ h => h) (Or.inl ⟨by rfl, ?_⟩) (by assumption) ?_
  rotate_left
  · (intro wq hSw; (try dsimp only at hSw); (try simp only [List.getElem_toArray, List.getElem_cons_succ, List.getElem_cons_zero]); go_simp); try with_reducible rfl
  try simp only [List.getElem_toArray, List.getElem_cons_succ, List.getElem_cons_zero, Act.put, List.setIfInBounds_toArray, List.set_cons_zero, List.set_cons_succ]
  refine wpAnyH_done (by kernel_rfl) ?_ _
  go_wp2_with fail
  go_ret
  exact ⟨⟨_, rfl⟩, Both.mk (B0.out.trans (((Below.refl _ _).drew.trans t1).mono B0.out.size)) K1 t3 K2 hF1 hG1 (show Two F1 G1 w4 p x n (wrD n st z (rep c)) (wrR n rs z (rep c)) from T4.out)⟩

set_option maxRecDepth 100000 in
set_option maxHeartbeats 4000000 in
theorem act_rot {F G : Nat → Prop} {w : World} {p x n : Nat} {st : DSt} {rs : RSt} (h : Hid (Two F G w p x n st rs)) (hc1 : st.cache.length < 1000000) (hc2 : rs.L.length + rs.wait.length < 1000000) {S : Nat → Prop} {KA BA : Option Addr} {km kc bm bc : Nat} {ks : List Bool} {bs : List Int} (hk : Hid (RdL BoolR 1 S w KA km ks)) (hb : Hid (RdL U8R 1 S w BA bm bs)) (hS : ∀ b, S b → ¬ F b ∧ ¬ G b ∧ b < w.heap.size) (z off c mask : Int) :
    Calls Try.prog 25 #[.pointer (some ⟨p, 0, none⟩), .pointer (some ⟨x, 0, none⟩), .agg #[.int .i64 7, .int .i64 z, .int .i64 off, .int .u8 c, .int .u32 mask, .slice KA km kc, .slice BA bm bc]] w fun e w' => RetB e ∧ Both F G w w' p x n (rtD n st z off mask) (rtR n rs z off mask) := by
  have b0 : Below w.heap.size w (w.alloc (.cells #[.int .i64 7, .int .i64 z, .int .i64 off, .int .u8 c, .int .u32 mask, .slice KA km kc, .slice BA bm bc] 52)) := (Below.refl _ _).alloc (Nat.le_refl _) _
  have X0 := Lib.hid (BoxAt.new w #[.int .i64 7, .int .i64 z, .int .i64 off, .int .u8 c, .int .u32 mask, .slice KA km kc, .slice BA bm bc] 52)
  obtain ⟨w0, hw0⟩ : ∃ w0, w.alloc (.cells #[.int .i64 7, .int .i64 z, .int .i64 off, .int .u8 c, .int .u32 mask, .slice KA km kc, .slice BA bm bc] 52) = w0 := ⟨_, rfl⟩
  rw [hw0] at b0 X0
  have T0 := Lib.hid (h.out.below b0)
  have hbF : ∀ k, F k → k < w.heap.size := fun k hk => drvAt_lt h.out.d hk
  have hbG : ∀ k, G k → k < w.heap.size := fun k hk => h.out.r.lt hk
  have HbF := Lib.hid hbF
  have HbG := Lib.hid hbG
  have HS := Lib.hid hS
  have q0 : w0.cell? ⟨w.heap.size, 0, none⟩ = some (.int .i64 7) := X0.out.cell 0
  have q1 : w0.cell? ⟨w.heap.size, 1, none⟩ = some (.int .i64 z) := X0.out.cell 1
  have q2 : w0.cell? ⟨w.heap.size, 2, none⟩ = some (.int .i64 off) := X0.out.cell 2
  have q3 : w0.cell? ⟨w.heap.size, 3, none⟩ = some (.int .u8 c) := X0.out.cell 3
  have q4 : w0.cell? ⟨w.heap.size, 4, none⟩ = some (.int .u32 mask) := X0.out.cell 4
  have q5 : w0.cell? ⟨w.heap.size, 5, none⟩ = some (.slice KA km kc) := X0.out.cell 5
  have q6 : w0.cell? ⟨w.heap.size, 6, none⟩ = some (.slice BA bm bc) := X0.out.cell 6
  have B0 := Lib.hid b0
  clear hbF hbG hS b0
  go_enter Try.func25, Try.ntmps25
  clear q3 q5 q6
  go_wp2_with fail
  clear q0
  refine wp_region_held_drew (S := fun w' => w'.cell? ⟨w.heap.size, 1, none⟩ = some (.int .i64 z) ∧ w'.cell? ⟨w.heap.size, 2, none⟩ = some (.int .i64 off) ∧ w'.cell? ⟨w.heap.size, 4, none⟩ = some (.int .u32 mask)) (by kernel_rfl) (by exact ⟨q1, q2, q4⟩) (fun hHeld => ?_)
  refine wpAnyH_take (i := 0) (v := ?_) rfl (by kernel_rfl) (by kernel_rfl) (by kernel_rfl) (fun _ _ _ h => h) (Or.inl ⟨by rfl, ?_⟩) (by assumption) ?_
  rotate_left
  · (intro wq hSw; (try dsimp only at hSw); (try simp only [List.getElem_toArray, List.getElem_cons_succ, List.getElem_cons_zero]); go_simp); try with_reducible rfl
  try simp only [List.getElem_toArray, List.getElem_cons_succ, List.getElem_cons_zero, Act.put, List.setIfInBounds_toArray, List.set_cons_zero, List.set_cons_succ]
  refine wpAnyH_take (i := 1) (v := ?_) rfl (by kernel_rfl) (by kernel_rfl) (by kernel_rfl) (fun _ _ _ h => h) (Or.inl ⟨by rfl, ?_⟩) (by assumption) ?_
  rotate_left
  · (intro wq hSw; (try dsimp only at hSw); (try simp only [List.getElem_toArray, List.getElem_cons_succ, List.getElem_cons_zero]); go_simp); try with_reducible rfl
  try simp only [List.getElem_toArray, List.getElem_cons_succ, List.getElem_cons_zero, Act.put, List.setIfInBounds_toArray, List.set_cons_zero, List.set_cons_succ]
  refine wpAnyH_take (i := 2) (v := ?_) rfl (by kernel_rfl) (by kernel_rfl) (by kernel_rfl) (fun _ _ _ h => h) (Or.inl ⟨by rfl, ?_⟩) (by assumption) ?_
  rotate_left
  · (intro wq hSw; (try dsimp only at hSw); (try simp only [List.getElem_toArray, List.getElem_cons_succ, List.getElem_cons_zero]); go_simp); try with_reducible rfl
  try simp only [List.getElem_toArray, List.getElem_cons_succ, List.getElem_cons_zero, Act.put, List.setIfInBounds_toArray, List.set_cons_zero, List.set_cons_succ]
  refine wpAnyH_take (i := 3) (v := ?_) rfl (by kernel_rfl) (by kernel_rfl) (by kernel_rfl) (fun _ _ _ h => h) (Or.inl ⟨by rfl, ?_⟩) (by assumption) ?_
  rotate_left
  · (intro wq hSw; (try dsimp only at hSw); (try simp only [List.getElem_toArray, List.getElem_cons_succ, List.getElem_cons_zero]); go_simp); try with_reducible rfl
  try simp only [List.getElem_toArray, List.getElem_cons_succ, List.getElem_cons_zero, Act.put, List.setIfInBounds_toArray, List.set_cons_zero, List.set_cons_succ]
  refine wpAnyH_take (i := 4) (v := ?_) rfl (by kernel_rfl) (by kernel_rfl) (by kernel_rfl) (fun _ _ _ h => h) (Or.inl ⟨by rfl, ?_⟩) (by assumption) ?_
  rotate_left
  · (intro wq hSw; (try dsimp only at hSw); (try simp only [List.getElem_toArray, List.getElem_cons_succ, List.getElem_cons_zero]); go_simp); try with_reducible rfl
  try simp only [List.getElem_toArray, List.getElem_cons_succ, List.getElem_cons_zero, Act.put, List.setIfInBounds_toArray, List.set_cons_zero, List.set_cons_succ]
  refine wpAnyH_take (i := 5) (v := ?_) rfl (by kernel_rfl) (by kernel_rfl) (by kernel_rfl) (fun _ _ _ h => h) (Or.inl ⟨by rfl, ?_⟩) (by assumption) ?_
  rotate_left
  · (intro wq hSw; (try dsimp only at hSw); (try simp only [List.getElem_toArray, List.getElem_cons_succ, List.getElem_cons_zero]); go_simp); try with_reducible rfl
  try simp only [List.getElem_toArray, List.getElem_cons_succ, List.getElem_cons_zero, Act.put, List.setIfInBounds_toArray, List.set_cons_zero, List.set_cons_succ]
  refine wpAnyH_take (i := 6) (v := ?_) rfl (by kernel_rfl) (by kernel_rfl) (by kernel_rfl) (fun _ _ _ h => h) (Or.inl ⟨by rfl, ?_⟩) (by assumption) ?_
  rotate_left
  · (intro wq hSw; (try dsimp only at hSw); (try simp only [List.getElem_toArray, List.getElem_cons_succ, List.getElem_cons_zero]); go_simp); try with_reducible rfl
  try simp only [List.getElem_toArray, List.getElem_cons_succ, List.getElem_cons_zero, Act.put, List.setIfInBounds_toArray, List.set_cons_zero, List.set_cons_succ]
  refine wpAnyH_take (i := 8) (v := ?_) rfl (by kernel_rfl) (by kernel_rfl) (by kernel_rfl) (fun _ _ _ h => h) (Or.inl ⟨by rfl, ?_⟩) (by assumption) ?_
  rotate_left
  · (intro wq hSw; (try dsimp only at hSw); (try simp only [List.getElem_toArray, List.getElem_cons_succ, List.getElem_cons_zero]); go_simp); try with_reducible rfl
  try simp only [List.getElem_toArray, List.getElem_cons_succ, List.getElem_cons_zero, Act.put, List.setIfInBounds_toArray, List.set_cons_zero, List.set_cons_succ]
  refine wpAnyH_take (i := 9) (v := ?_) rfl (by kernel_rfl) (by kernel_rfl) (by kernel_rfl) (fun _ _ _ h => h) (Or.inl ⟨by rfl, ?_⟩) (by assumption) ?_
  rotate_left
  · (intro wq hSw; (try dsimp only at hSw); (try simp only [List.getElem_toArray, List.getElem_cons_succ, List.getElem_cons_zero]); go_simp); try with_reducible rfl
  try simp only [List.getElem_toArray, List.getElem_cons_succ, List.getElem_cons_zero, Act.put, List.setIfInBounds_toArray, List.set_cons_zero, List.set_cons_succ]
  refine wpAnyH_take (i := 10) (v := ?_) rfl (by kernel_rfl) (by kernel_rfl) (by kernel_rfl) (fun _ _ _ h => h) (Or.inl ⟨by rfl, ?_⟩) (by assumption) ?_
  rotate_left
  · (intro wq hSw; (try dsimp only at hSw); (try simp only [List.getElem_toArray, List.getElem_cons_succ, List.getElem_cons_zero]); go_simp); try with_reducible rfl
  try simp only [List.getElem_toArray, List.getElem_cons_succ, List.getElem_cons_zero, Act.put, List.setIfInBounds_toArray, List.set_cons_zero, List.set_cons_succ]
  refine wpAnyH_take (i := 11) (v := ?_) rfl (by kernel_rfl) (by kernel_rfl) (by kernel_rfl) (fun _ _ _ h => h) (Or.inl ⟨by rfl, ?_⟩) (by assumption) ?_
  rotate_left
  · (intro wq hSw; (try dsimp only at hSw); (try simp only [List.getElem_toArray, List.getElem_cons_succ, List.getElem_cons_zero]); go_simp); try with_reducible rfl
  try simp only [List.getElem_toArray, List.getElem_cons_succ, List.getElem_cons_zero, Act.put, List.setIfInBounds_toArray, List.set_cons_zero, List.set_cons_succ]
  refine wpAnyH_take (i := 12) (v := ?_) rfl (by kernel_rfl) (by kernel_rfl) (by kernel_rfl) (fun _ _ _ h => h) (Or.inl ⟨by rfl, ?_⟩) (by assumption) ?_
  rotate_left
  · (intro wq hSw; (try dsimp only at hSw); (try simp only [List.getElem_toArray, List.getElem_cons_succ, List.getElem_cons_zero]); go_simp); try with_reducible rfl
  try simp only [List.getElem_toArray, List.getElem_cons_succ, List.getElem_cons_zero, Act.put, List.setIfInBounds_toArray, List.set_cons_zero, List.set_cons_succ]
  refine wpAnyH_take (i := 13) (v := ?_) rfl (by kernel_rfl) (by kernel_rfl) (by kernel_rfl) (fun _ _ _ h => h) (Or.inl ⟨by rfl, ?_⟩) (by assumption) ?_
  rotate_left
  · (intro wq hSw; (try dsimp only at hSw); (try simp only [List.getElem_toArray, List.getElem_cons_succ, List.getElem_cons_zero]); go_simp); try with_reducible rfl
  try simp only [List.getElem_toArray, List.getElem_cons_succ, List.getElem_cons_zero, Act.put, List.setIfInBounds_toArray, List.set_cons_zero, List.set_cons_succ]
  refine wpAnyH_take (i := 14) (v := ?_) rfl (by kernel_rfl) (by kernel_rfl) (by kernel_rfl) (fun _ _ _ h => h) (Or.inl ⟨by rfl, ?_⟩) (by assumption) ?_
  rotate_left
  · (intro wq hSw; (try dsimp only at hSw); (try simp only [List.getElem_toArray, List.getElem_cons_succ, List.getElem_cons_zero]); go_simp); try with_reducible rfl
  try simp only [List.getElem_toArray, List.getElem_cons_succ, List.getElem_cons_zero, Act.put, List.setIfInBounds_toArray, List.set_cons_zero, List.set_cons_succ]
  refine wpAnyH_ready (rs := [7]) (by kernel_rfl) (by simp) ?_
  refine AllReadyH.cons rfl (fun K hK => ?_) AllReadyH.nil
  try simp only [List.getElem_toArray, List.getElem_cons_succ, List.getElem_cons_zero]
  go_simp
  refine (rot_all (Lib.hid (T0.out.below (Below.refl _ _).drew).d) z off mask).mono ?_
  rintro e w1 ⟨⟨E1, rfl⟩, u1⟩
  obtain ⟨F1, T1, hF1, K1⟩ := (T0.out.below (Below.refl _ _).drew).drv u1
  have X1 := Lib.hid ((X0.out.below (Below.refl _ _).drew).keeps K1 (fun hf => Nat.lt_irrefl _ (HbF.out _ hf)))
  have T1 := Lib.hid T1
  clear q1 q2 q4
  have q1 : w1.cell? ⟨w.heap.size, 1, none⟩ = some (.int .i64 z) := X1.out.cell 1
  have q2 : w1.cell? ⟨w.heap.size, 2, none⟩ = some (.int .i64 off) := X1.out.cell 2
  have q4 : w1.cell? ⟨w.heap.size, 4, none⟩ = some (.int .u32 mask) := X1.out.cell 4
  try (go_wp2_with fail)
  refine hK.out _ _ (by exact ⟨q1, q2, q4⟩) (fun hHeld => ?_)
  clear hK K
  try simp only [List.getElem_toArray, List.getElem_cons_succ, List.getElem_cons_zero, Act.put, List.setIfInBounds_toArray, List.set_cons_zero, List.set_cons_succ]
  refine wpAnyH_ready (rs := [15]) (by kernel_rfl) (by simp) ?_
  refine AllReadyH.cons rfl (fun K hK => ?_) AllReadyH.nil
  try simp only [List.getElem_toArray, List.getElem_cons_succ, List.getElem_cons_zero]
  go_simp
  refine (rrot_all (Lib.hid T1.out.r) z off mask (by omega)).mono ?_
  rintro e w2 ⟨⟨E2, rfl⟩, u2⟩
  obtain ⟨G1, T2, hG1, K2⟩ := T1.out.ref u2
  have X2 := Lib.hid (X1.out.keeps K2 (fun hf => Nat.lt_irrefl _ (HbG.out _ hf)))
  have T2 := Lib.hid T2
  clear q1 q2 q4
  have q1 : w2.cell? ⟨w.heap.size, 1, none⟩ = some (.int .i64 z) := X2.out.cell 1
  have q2 : w2.cell? ⟨w.heap.size, 2, none⟩ = some (.int .i64 off) := X2.out.cell 2
  have q4 : w2.cell? ⟨w.heap.size, 4, none⟩ = some (.int .u32 mask) := X2.out.cell 4
  try (go_wp2_with fail)
  refine hK.out _ _ (by exact ⟨q1, q2, q4⟩) (fun hHeld => ?_)
  clear hK K
  try simp only [List.getElem_toArray, List.getElem_cons_succ, List.getElem_cons_zero, Act.put, List.setIfInBounds_toArray, List.set_cons_zero, List.set_cons_succ]
  refine wpAnyH_take (i := 16) (v := ?_) rfl (by kernel_rfl) (by kernel_rfl) (by kernel_rfl) (fun _ _ _ h => h) (Or.inl ⟨by rfl, ?_⟩) (by assumption) ?_
  rotate_left
  · (intro wq hSw; (try dsimp only at hSw); (try simp only [List.getElem_toArray, List.getElem_cons_succ, List.getElem_cons_zero]); go_simp); try with_reducible rfl
  try simp only [List.getElem_toArray, List.getElem_cons_succ, List.getElem_cons_zero, Act.put, List.setIfInBounds_toArray, List.set_cons_zero, List.set_cons_succ]
  refine wpAnyH_take (i := 17) (v := ?_) rfl (by kernel_rfl) (by kernel_rfl) (by kernel_rfl) (fun _ _ _ h => h) (Or.inl ⟨by rfl, ?_⟩) (by assumption) ?_
  rotate_left
  · (intro wq hSw; (try dsimp only at hSw); (try simp only [List.getElem_toArray, List.getElem_cons_succ, List.getElem_cons_zero]); go_simp); try with_reducible rfl
  try simp only [List.getElem_toArray, List.getElem_cons_succ, List.getElem_cons_zero, Act.put, List.setIfInBounds_toArray, List.set_cons_zero, List.set_cons_succ]
  refine wpAnyH_done (by kernel_rfl) ?_ _
  go_wp2_with fail
  go_ret
  exact ⟨⟨_, rfl⟩, Both.mk (B0.out.trans ((Below.refl _ _).drew.mono B0.out.size)) K1 (Below.refl _ _) K2 hF1 hG1 (show Two F1 G1 w2 p x n (rtD n st z off mask) (rtR n rs z off mask) from T2.out)⟩

set_option maxRecDepth 100000 in
set_option maxHeartbeats 4000000 in
theorem act_put {F G : Nat → Prop} {w : World} {p x n : Nat} {st : DSt} {rs : RSt} (h : Hid (Two F G w p x n st rs)) (hc1 : st.cache.length < 1000000) (hc2 : rs.L.length + rs.wait.length < 1000000) {S : Nat → Prop} {KA BA : Option Addr} {km kc bm bc : Nat} {ks : List Bool} {bs : List Int} (hk : Hid (RdL BoolR 1 S w KA km ks)) (hb : Hid (RdL U8R 1 S w BA bm bs)) (hS : ∀ b, S b → ¬ F b ∧ ¬ G b ∧ b < w.heap.size) (z off c mask : Int) :
    Calls Try.prog 25 #[.pointer (some ⟨p, 0, none⟩), .pointer (some ⟨x, 0, none⟩), .agg #[.int .i64 9, .int .i64 z, .int .i64 off, .int .u8 c, .int .u32 mask, .slice KA km kc, .slice BA bm bc]] w fun e w' => RetB e ∧ Both F G w w' p x n (wrD n st z bs) (wrR n rs z bs) := by
  have b0 : Below w.heap.size w (w.alloc (.cells #[.int .i64 9, .int .i64 z, .int .i64 off, .int .u8 c, .int .u32 mask, .slice KA km kc, .slice BA bm bc] 52)) := (Below.refl _ _).alloc (Nat.le_refl _) _
  have X0 := Lib.hid (BoxAt.new w #[.int .i64 9, .int .i64 z, .int .i64 off, .int .u8 c, .int .u32 mask, .slice KA km kc, .slice BA bm bc] 52)
  obtain ⟨w0, hw0⟩ : ∃ w0, w.alloc (.cells #[.int .i64 9, .int .i64 z, .int .i64 off, .int .u8 c, .int .u32 mask, .slice KA km kc, .slice BA bm bc] 52) = w0 := ⟨_, rfl⟩
  rw [hw0] at b0 X0
  have T0 := Lib.hid (h.out.below b0)
  have hbF : ∀ k, F k → k < w.heap.size := fun k hk => drvAt_lt h.out.d hk
  have hbG : ∀ k, G k → k < w.heap.size := fun k hk => h.out.r.lt hk
  have HbF := Lib.hid hbF
  have HbG := Lib.hid hbG
  have HS := Lib.hid hS
  have q0 : w0.cell? ⟨w.heap.size, 0, none⟩ = some (.int .i64 9) := X0.out.cell 0
  have q1 : w0.cell? ⟨w.heap.size, 1, none⟩ = some (.int .i64 z) := X0.out.cell 1
  have q2 : w0.cell? ⟨w.heap.size, 2, none⟩ = some (.int .i64 off) := X0.out.cell 2
  have q3 : w0.cell? ⟨w.heap.size, 3, none⟩ = some (.int .u8 c) := X0.out.cell 3
  have q4 : w0.cell? ⟨w.heap.size, 4, none⟩ = some (.int .u32 mask) := X0.out.cell 4
  have q5 : w0.cell? ⟨w.heap.size, 5, none⟩ = some (.slice KA km kc) := X0.out.cell 5
  have q6 : w0.cell? ⟨w.heap.size, 6, none⟩ = some (.slice BA bm bc) := X0.out.cell 6
  have B0 := Lib.hid b0
  clear hbF hbG hS b0
  go_enter Try.func25, Try.ntmps25
  clear q2 q3 q4 q5
  obtain rfl : bs.length = bm := hb.out.1
  go_wp2_with fail
  clear q0
  refine wp_region_held_drew (S := fun w' => w'.cell? ⟨w.heap.size, 1, none⟩ = some (.int .i64 z) ∧ w'.cell? ⟨w.heap.size, 6, none⟩ = some (.slice BA bs.length bc)) (by kernel_rfl) (by exact ⟨q1, q6⟩) (fun hHeld => ?_)
  refine wpAnyH_take (i := 0) (v := ?_) rfl (by kernel_rfl) (by kernel_rfl) (by kernel_rfl) (fun _ _ _ h => h) (Or.inl ⟨by rfl, ?_⟩) (by assumption) ?_
  rotate_left
  · (intro wq hSw; (try dsimp only at hSw); (try simp only [List.getElem_toArray, List.getElem_cons_succ, List.getElem_cons_zero]); go_simp); try with_reducible rfl
  try simp only [List.getElem_toArray, List.getElem_cons_succ, List.getElem_cons_zero, Act.put, List.setIfInBounds_toArray, List.set_cons_zero, List.set_cons_succ]
  refine wpAnyH_take (i := 1) (v := ?_) rfl (by kernel_rfl) (by kernel_rfl) (by kernel_rfl) (fun _ _ _ h => h) (Or.inl ⟨by rfl, ?_⟩) (by assumption) ?_
  rotate_left
  · (intro wq hSw; (try dsimp only at hSw); (try simp only [List.getElem_toArray, List.getElem_cons_succ, List.getElem_cons_zero]); go_simp); try with_reducible rfl
  try simp only [List.getElem_toArray, List.getElem_cons_succ, List.getElem_cons_zero, Act.put, List.setIfInBounds_toArray, List.set_cons_zero, List.set_cons_succ]
  refine wpAnyH_take (i := 2) (v := ?_) rfl (by kernel_rfl) (by kernel_rfl) (by kernel_rfl) (fun _ _ _ h => h) (Or.inl ⟨by rfl, ?_⟩) (by assumption) ?_
  rotate_left
  · (intro wq hSw; (try dsimp only at hSw); (try simp only [List.getElem_toArray, List.getElem_cons_succ, List.getElem_cons_zero]); go_simp); try with_reducible rfl
  try simp only [List.getElem_toArray, List.getElem_cons_succ, List.getElem_cons_zero, Act.put, List.setIfInBounds_toArray, List.set_cons_zero, List.set_cons_succ]
  refine wpAnyH_take (i := 3) (v := ?_) rfl (by kernel_rfl) (by kernel_rfl) (by kernel_rfl) (fun _ _ _ h => h) (Or.inl ⟨by rfl, ?_⟩) (by assumption) ?_
  rotate_left
  · (intro wq hSw; (try dsimp only at hSw); (try simp only [List.getElem_toArray, List.getElem_cons_succ, List.getElem_cons_zero]); go_simp); try with_reducible rfl
  try simp only [List.getElem_toArray, List.getElem_cons_succ, List.getElem_cons_zero, Act.put, List.setIfInBounds_toArray, List.set_cons_zero, List.set_cons_succ]
  refine wpAnyH_take (i := 4) (v := ?_) rfl (by kernel_rfl) (by kernel_rfl) (by kernel_rfl) (fun _ _ _ h => h) (Or.inl ⟨by rfl, ?_⟩) (by assumption) ?_
  rotate_left
  · (intro wq hSw; (try dsimp only at hSw); (try simp only [List.getElem_toArray, List.getElem_cons_succ, List.getElem_cons_zero]); go_simp); try with_reducible rfl
  try simp only [List.getElem_toArray, List.getElem_cons_succ, List.getElem_cons_zero, Act.put, List.setIfInBounds_toArray, List.set_cons_zero, List.set_cons_succ]
  refine wpAnyH_take (i := 6) (v := ?_) rfl (by kernel_rfl) (by kernel_rfl) (by kernel_rfl) (fun _ _ _ h => h) (Or.inl ⟨by rfl, ?_⟩) (by assumption) ?_
  rotate_left
  · (intro wq hSw; (try dsimp only at hSw); (try simp only [List.getElem_toArray, List.getElem_cons_succ, List.getElem_cons_zero]); go_simp); try with_reducible rfl
  try simp only [List.getElem_toArray, List.getElem_cons_succ, List.getElem_cons_zero, Act.put, List.setIfInBounds_toArray, List.set_cons_zero, List.set_cons_succ]
  refine wpAnyH_take (i := 7) (v := ?_) rfl (by kernel_rfl) (by kernel_rfl) (by kernel_rfl) (fun _ _ _ h => h) (Or.inl ⟨by rfl, ?_⟩) (by assumption) ?_
  rotate_left
  · (intro wq hSw; (try dsimp only at hSw); (try simp only [List.getElem_toArray, List.getElem_cons_succ, List.getElem_cons_zero]); go_simp); try with_reducible rfl
  try simp only [List.getElem_toArray, List.getElem_cons_succ, List.getElem_cons_zero, Act.put, List.setIfInBounds_toArray, List.set_cons_zero, List.set_cons_succ]
  refine wpAnyH_take (i := 8) (v := ?_) rfl (by kernel_rfl) (by kernel_rfl) (by kernel_rfl) (fun _ _ _ h => h) (Or.inl ⟨by rfl, ?_⟩) (by assumption) ?_
  rotate_left
  · (intro wq hSw; (try dsimp only at hSw); (try simp only [List.getElem_toArray, List.getElem_cons_succ, List.getElem_cons_zero]); go_simp); try with_reducible rfl
  try simp only [List.getElem_toArray, List.getElem_cons_succ, List.getElem_cons_zero, Act.put, List.setIfInBounds_toArray, List.set_cons_zero, List.set_cons_succ]
  refine wpAnyH_take (i := 9) (v := ?_) rfl (by kernel_rfl) (by kernel_rfl) (by kernel_rfl) (fun _ _ _ h => h) (Or.inl ⟨by rfl, ?_⟩) (by assumption) ?_
  rotate_left
  · (intro wq hSw; (try dsimp only at hSw); (try simp only [List.getElem_toArray, List.getElem_cons_succ, List.getElem_cons_zero]); go_simp); try with_reducible rfl
  try simp only [List.getElem_toArray, List.getElem_cons_succ, List.getElem_cons_zero, Act.put, List.setIfInBounds_toArray, List.set_cons_zero, List.set_cons_succ]
  refine wpAnyH_take (i := 10) (v := ?_) rfl (by kernel_rfl) (by kernel_rfl) (by kernel_rfl) (fun _ _ _ h => h) (Or.inl ⟨by rfl, ?_⟩) (by assumption) ?_
  rotate_left
  · (intro wq hSw; (try dsimp only at hSw); (try simp only [List.getElem_toArray, List.getElem_cons_succ, List.getElem_cons_zero]); go_simp); try with_reducible rfl
  try simp only [List.getElem_toArray, List.getElem_cons_succ, List.getElem_cons_zero, Act.put, List.setIfInBounds_toArray, List.set_cons_zero, List.set_cons_succ]
  refine wpAnyH_ready (rs := [5]) (by kernel_rfl) (by simp) ?_
  refine AllReadyH.cons rfl (fun K hK => ?_) AllReadyH.nil
  try simp only [List.getElem_toArray, List.getElem_cons_succ, List.getElem_cons_zero]
  go_simp
  refine (write_some (Lib.hid (T0.out.below (Below.refl _ _).drew).d) z (Lib.hid (hb.out.below U8R.stable (B0.out.trans ((Below.refl _ _).drew.mono B0.out.size)))) (fun b hb => (HS.out b hb).1) hc1).mono ?_
  rintro e w1 ⟨⟨E1, rfl⟩, u1⟩
  obtain ⟨F1, T1, hF1, K1⟩ := (T0.out.below (Below.refl _ _).drew).drv u1
  have X1 := Lib.hid ((X0.out.below (Below.refl _ _).drew).keeps K1 (fun hf => Nat.lt_irrefl _ (HbF.out _ hf)))
  have T1 := Lib.hid T1
  clear q1 q6
  have q1 : w1.cell? ⟨w.heap.size, 1, none⟩ = some (.int .i64 z) := X1.out.cell 1
  have q6 : w1.cell? ⟨w.heap.size, 6, none⟩ = some (.slice BA bs.length bc) := X1.out.cell 6
  try (go_wp2_with fail)
  refine hK.out _ _ (by exact ⟨q1, q6⟩) (fun hHeld => ?_)
  clear hK K
  try simp only [List.getElem_toArray, List.getElem_cons_succ, List.getElem_cons_zero, Act.put, List.setIfInBounds_toArray, List.set_cons_zero, List.set_cons_succ]
  refine wpAnyH_ready (rs := [11]) (by kernel_rfl) (by simp) ?_
  refine AllReadyH.cons rfl (fun K hK => ?_) AllReadyH.nil
  try simp only [List.getElem_toArray, List.getElem_cons_succ, List.getElem_cons_zero]
  go_simp
  refine (rwrite_all (Lib.hid T1.out.r) z (Lib.hid ((hb.out.below U8R.stable (B0.out.trans ((Below.refl _ _).drew.mono B0.out.size))).keep U8R.stable K1 (fun b hb => (HS.out b hb).1))) (by omega)).mono ?_
  rintro e w2 ⟨⟨E2, rfl⟩, u2⟩
  obtain ⟨G1, T2, hG1, K2⟩ := T1.out.ref u2
  have X2 := Lib.hid (X1.out.keeps K2 (fun hf => Nat.lt_irrefl _ (HbG.out _ hf)))
  have T2 := Lib.hid T2
  clear q1 q6
  have q1 : w2.cell? ⟨w.heap.size, 1, none⟩ = some (.int .i64 z) := X2.out.cell 1
  have q6 : w2.cell? ⟨w.heap.size, 6, none⟩ = some (.slice BA bs.length bc) := X2.out.cell 6
  try (go_wp2_with fail)
  refine hK.out _ _ (by exact ⟨q1, q6⟩) (fun hHeld => ?_)
  clear hK K
  try simp only [List.getElem_toArray, List.getElem_cons_succ, List.getElem_cons_zero, Act.put, List.setIfInBounds_toArray, List.set_cons_zero, List.set_cons_succ]
  refine wpAnyH_take (i := 12) (v := ?_) rfl (by kernel_rfl) (by kernel_rfl) (by kernel_rfl) (fun _ _ _ h => h) (Or.inl ⟨by rfl, ?_⟩) (by assumption) ?_
  rotate_left
  · (intro wq hSw; (try dsimp only at hSw); (try simp only [List.getElem_toArray, List.getElem_cons_succ, List.getElem_cons_zero]); go_simp); try with_reducible rfl
  try simp only [List.getElem_toArray, List.getElem_cons_succ, List.getElem_cons_zero, Act.put, List.setIfInBounds_toArray, List.set_cons_zero, List.set_cons_succ]
  refine wpAnyH_take (i := 13) (v := ?_) rfl (by kernel_rfl) (by kernel_rfl) (by kernel_rfl) (fun _ _ _ h => h) (Or.inl ⟨by rfl, ?_⟩) (by assumption) ?_
  rotate_left
  · (intro wq hSw; (try dsimp only at hSw); (try simp only [List.getElem_toArray, List.getElem_cons_succ, List.getElem_cons_zero]); go_simp); try with_reducible rfl
  try simp only [List.getElem_toArray, List.getElem_cons_succ, List.getElem_cons_zero, Act.put, List.setIfInBounds_toArray, List.set_cons_zero, List.set_cons_succ]
  refine wpAnyH_done (by kernel_rfl) ?_ _
  go_wp2_with fail
  go_ret
  exact ⟨⟨_, rfl⟩, Both.mk (B0.out.trans ((Below.refl _ _).drew.mono B0.out.size)) K1 (Below.refl _ _) K2 hF1 hG1 (show Two F1 G1 w2 p x n (wrD n st z bs) (wrR n rs z bs) from T2.out)⟩
/-- An act, whatever it is. -/
theorem act_any {F G : Nat → Prop} {w : World} {p x n : Nat} {st : DSt} {rs : RSt} (h : Hid (Two F G w p x n st rs)) (hc1 : st.cache.length < 1000000) (hc2 : rs.L.length + rs.wait.length < 1000000) {S : Nat → Prop} {KA BA : Option Addr} {km kc bm bc : Nat} (a : ActV) (hk : Hid (RdL BoolR 1 S w KA km a.keep)) (hb : Hid (RdL U8R 1 S w BA bm a.b)) (hS : ∀ b, S b → ¬ F b ∧ ¬ G b ∧ b < w.heap.size) :
    Calls Try.prog 25 #[.pointer (some ⟨p, 0, none⟩), .pointer (some ⟨x, 0, none⟩), .agg #[.int .i64 a.kind, .int .i64 a.at_, .int .i64 a.off, .int .u8 a.c, .int .u32 a.mask, .slice KA km kc, .slice BA bm bc]] w fun e w' => RetB e ∧ Both F G w w' p x n (actD n st a) (actR n rs a) := by
  obtain ⟨kind, z, off, c, mask, ks, bs⟩ := a
  by_cases e0 : kind = 0
  · subst e0; simp only [actD, actR]; exact act_write0 h hc1 hc2 hk hb hS z off c mask
  by_cases e1 : kind = 1
  · subst e1; simp only [actD, actR]; exact act_write1 h hc1 hc2 hk hb hS z off c mask
  by_cases e2 : kind = 2
  · subst e2; simp only [actD, actR]; exact act_write2 h hc1 hc2 hk hb hS z off c mask
  by_cases e3 : kind = 3
  · subst e3; simp only [actD, actR]; exact act_flush h hc1 hc2 hk hb hS z off c mask
  by_cases e4 : kind = 4
  · subst e4; simp only [actD, actR]; exact act_crash h hc1 hc2 hk hb hS z off c mask
  by_cases e5 : kind = 5
  · subst e5; simp only [actD, actR]; exact act_fail h hc1 hc2 hk hb hS z off c mask
  by_cases e6 : kind = 6
  · subst e6; simp only [actD, actR]; exact act_replace h hc1 hc2 hk hb hS z off c mask
  by_cases e7 : kind = 7
  · subst e7; simp only [actD, actR]; exact act_rot h hc1 hc2 hk hb hS z off c mask
  by_cases e9 : kind = 9
  · subst e9; simp only [actD, actR]; exact act_put h hc1 hc2 hk hb hS z off c mask
  have n0 : ¬ (kind = 0 ∨ kind = 1 ∨ kind = 2) := by omega
  simp only [actD, actR, if_neg n0, if_neg e3, if_neg e4, if_neg e5, if_neg e6, if_neg e7, if_neg e9]
  exact act_none h hc1 hc2 hk hb hS z off c mask kind (by simpa using e0) (by simpa using e1) (by simpa using e2) (by simpa using e3) (by simpa using e4) (by simpa using e5) (by simpa using e6) (by simpa using e7) (by simpa using e9)

end Go.Proofs.Ytolmpopjonkfgaa

set_option linter.unusedSimpArgs false
set_option linter.unusedVariables false
namespace Go.Proofs.Ytolmpopjonkfgaa
open Go.RowKit Go.Cib
attribute [local go_sem] cell_set Later.cell Later.frozen Grw.cell Grw.frozen

/-- What the contracts ask of the document's drive. -/
structure RGood (rs : RSt) : Prop where
  few : rs.L.length + rs.wait.length < 1000000
  ok : ∀ e ∈ rs.L, EvOk e
  w64 : ∀ e ∈ rs.wait, e.b.length = 64
section
variable {G : Nat → Prop} {w : World} {x n : Nat} {rs : RSt}
set_option maxRecDepth 100000 in
theorem rread_out (h : Hid (RefAt G w x n rs)) (hd : rs.gone = false) (z : Int) (hz : ¬ (0 ≤ z ∧ z < n)) :
    Calls Try.prog 68 #[.pointer (some ⟨x, 0, none⟩), .int .i64 z] w fun e w' => e = .returned (.tuple #[.slice none 0 0, .int .i64 2]) ∧ Below w.heap.size w w' := by
  obtain ⟨Sb, vL, vW, hB, _⟩ := h.out
  obtain ⟨k0, k1, k2, k3⟩ := ref_cells hB
  clear hB
  rw [hd] at k3
  have e1 : decide (0 ≤ z ∧ z < (n : Int)) = false := by simpa using hz
  go_enter Try.func68, Try.ntmps68
  go_wp2_with fail
  refine (rhas_any h z).mono ?_
  rintro e w1 ⟨rfl, t1⟩
  rw [e1]
  clear e1 hz
  go_wp2_with fail
  go_ret2
  exact ⟨rfl, t1⟩
set_option maxRecDepth 100000 in
theorem rstored_out (h : Hid (RefAt G w x n rs)) (hd : rs.gone = false) (z : Int) (hz : ¬ (0 ≤ z ∧ z < n)) :
    Calls Try.prog 70 #[.pointer (some ⟨x, 0, none⟩), .int .i64 z] w fun e w' => e = .returned (.slice none 0 0) ∧ Below w.heap.size w w' := by
  obtain ⟨Sb, vL, vW, hB, _⟩ := h.out
  obtain ⟨k0, k1, k2, k3⟩ := ref_cells hB
  clear hB
  rw [hd] at k3
  have e1 : decide (0 ≤ z ∧ z < (n : Int)) = false := by simpa using hz
  go_enter Try.func70, Try.ntmps70
  go_wp2_with fail
  refine (rhas_any h z).mono ?_
  rintro e w1 ⟨rfl, t1⟩
  rw [e1]
  clear e1 hz
  go_wp2_with fail
  go_ret
  exact ⟨rfl, t1⟩
def rreadL (rs : RSt) (n : Nat) (z : Int) : List Int := if readyE rs.gone n z = 0 then seenE rs z else []
def rstoredL (rs : RSt) (n : Nat) (z : Int) : List Int := if readyE rs.gone n z = 0 then storedE rs.L z else []
theorem ready_iff2 (d : Bool) (n : Nat) (z : Int) : readyE d n z = 0 ↔ d = false ∧ 0 ≤ z ∧ z < n := by
  cases d with
  | true => simp [readyE]
  | false => by_cases h : 0 ≤ z ∧ z < n <;> simp [readyE, h]
def ReadE (S : Nat → Prop) (w : World) (code : Int) (xs : List Int) (e : Ending) (w' : World) : Prop := ∃ A m c, e = .returned (.tuple #[.slice A m c, .int .i64 code]) ∧ RdL U8R 1 S w' A m xs ∧ Below w.heap.size w w'
def BytesE (S : Nat → Prop) (w : World) (xs : List Int) (e : Ending) (w' : World) : Prop := ∃ A m c, e = .returned (.slice A m c) ∧ RdL U8R 1 S w' A m xs ∧ Below w.heap.size w w'
theorem rread_whole (h : Hid (RefAt G w x n rs)) (hg : RGood rs) (z : Int) :
    Calls Try.prog 68 #[.pointer (some ⟨x, 0, none⟩), .int .i64 z] w fun e w' => ReadE (fun _ => True) w (readyE rs.gone n z) (rreadL rs n z) e w' := by
  unfold rreadL
  cases hd : rs.gone with
  | true =>
    refine (rread_gone h hd z).mono ?_
    rintro e w' ⟨rfl, hb⟩
    exact ⟨none, 0, 0, by simp [readyE], by simp [readyE]; exact RdL.nil, hb⟩
  | false =>
    by_cases hz : 0 ≤ z ∧ z < n
    · obtain ⟨k, rfl⟩ : ∃ k : Nat, z = k := ⟨z.toNat, by omega⟩
      refine (rread_good h hd k (by omega) (by have := hg.few; omega) (by have := hg.few; omega) (Lib.hid hg.ok) (Lib.hid hg.w64)).mono ?_
      rintro e w' ⟨A, c, rfl, hr, hb⟩
      have hE : readyE false n k = 0 := (ready_iff2 _ _ _).2 ⟨rfl, hz⟩
      rw [hE, if_pos rfl]
      exact ⟨A, 64, c, rfl, hr, hb⟩
    · refine (rread_out h hd z hz).mono ?_
      rintro e w' ⟨rfl, hb⟩
      have hE : readyE false n z = 2 := by simp [readyE, hz]
      rw [hE, if_neg (by omega)]
      exact ⟨none, 0, 0, rfl, RdL.nil, hb⟩
theorem rstored_whole (h : Hid (RefAt G w x n rs)) (hg : RGood rs) (z : Int) :
    Calls Try.prog 70 #[.pointer (some ⟨x, 0, none⟩), .int .i64 z] w fun e w' => BytesE (fun _ => True) w (rstoredL rs n z) e w' := by
  unfold rstoredL
  cases hd : rs.gone with
  | true =>
    refine (rstored_gone h hd z).mono ?_
    rintro e w' ⟨rfl, hb⟩
    exact ⟨none, 0, 0, rfl, by simp [readyE]; exact RdL.nil, hb⟩
  | false =>
    by_cases hz : 0 ≤ z ∧ z < n
    · obtain ⟨k, rfl⟩ : ∃ k : Nat, z = k := ⟨z.toNat, by omega⟩
      refine (rstored_good h hd k (by omega) (by have := hg.few; omega) (Lib.hid hg.ok)).mono ?_
      rintro e w' ⟨g, c, rfl, _, _, hr, hb⟩
      have hE : readyE false n k = 0 := (ready_iff2 _ _ _).2 ⟨rfl, hz⟩
      rw [hE, if_pos rfl]
      exact ⟨_, 64, c, rfl, hr.weaken U8R.stable (fun _ _ => trivial), hb⟩
    · refine (rstored_out h hd z hz).mono ?_
      rintro e w' ⟨rfl, hb⟩
      have hE : readyE false n z = 2 := by simp [readyE, hz]
      rw [hE, if_neg (by omega)]
      exact ⟨none, 0, 0, rfl, RdL.nil, hb⟩
end

/-! ### Ours, whatever is asked -/
section
variable {F : Nat → Prop} {w : World} {p n : Nat} {st : DSt}
def storedL (st : DSt) (n : Nat) (z : Int) : List Int := if readyE st.dead n z = 0 then (st.stored[z.toNat]?).getD [] else []
theorem stored_whole (h : Hid (DrvAt F w p n st)) (z : Int) :
    Calls Try.prog 69 #[.pointer (some ⟨p, 0, none⟩), .int .i64 z] w fun e w' => BytesE (fun _ => True) w (storedL st n z) e w' := by
  unfold storedL
  by_cases hz : readyE st.dead n z = 0
  · rw [if_pos hz]
    obtain ⟨hd, h0, hn⟩ := (ready_iff st n z).1 hz
    obtain ⟨k, rfl⟩ : ∃ k : Nat, z = k := ⟨z.toNat, by omega⟩
    have hk : st.stored[k]? = some (st.stored[k]'(by rw [h.out.ok.sl]; omega)) := List.getElem?_eq_getElem _
    refine (stored_good h hd k (by omega) hk).mono ?_
    rintro e w' ⟨A, rfl, hr, hb⟩
    rw [Int.toNat_natCast, hk]
    exact ⟨A, 64, 64, rfl, hr.weaken U8R.stable (fun _ _ => trivial), hb⟩
  · rw [if_neg hz]
    refine (stored_bad h z hz).mono ?_
    rintro e w' ⟨rfl, hb⟩
    exact ⟨none, 0, 0, rfl, RdL.nil, hb⟩
set_option maxRecDepth 100000 in
theorem rotten_out (h : Hid (DrvAt F w p n st)) (hd : st.dead = false) (z : Int) (hz : ¬ (0 ≤ z ∧ z < n)) :
    Calls Try.prog 19 #[.pointer (some ⟨p, 0, none⟩), .int .i64 z] w fun e w' => e = .returned (.bool false) ∧ Below w.heap.size w w' := by
  obtain ⟨sb, sc, rb, rc, A, cc, mb, H⟩ := h.out.box
  rw [hd] at H
  go_enter Try.func19, Try.ntmps19
  go_wp2_with fail
  refine (none_any H).mono ?_
  rintro e w1 ⟨rfl, h1⟩
  have H1 := Lib.hid (H.out.below h1)
  obtain ⟨k0, k1, k2, k3, k4⟩ := drv_cells H1.out
  go_wp2_with fail
  refine (has_any z H1).mono ?_
  rintro e w2 ⟨rfl, h2⟩
  have e1 : decide (0 ≤ z ∧ z < (n : Int)) = false := by simpa using hz
  rw [e1]
  have h12 := h1.trans (h2.mono h1.size)
  clear k0 k1 k2 k3 k4 H H1 h1 h2 e1 h hz
  go_wp2_with fail
  go_ret
  exact ⟨rfl, h12⟩
def rottenL (st : DSt) (n : Nat) (z : Int) : Bool := if readyE st.dead n z = 0 then (st.rotten[z.toNat]?).getD false else false
theorem rotten_all (h : Hid (DrvAt F w p n st)) (z : Int) :
    Calls Try.prog 19 #[.pointer (some ⟨p, 0, none⟩), .int .i64 z] w fun e w' => e = .returned (.bool (rottenL st n z)) ∧ Below w.heap.size w w' := by
  unfold rottenL
  cases hd : st.dead with
  | true =>
    refine (rotten_dead h hd z).mono ?_
    rintro e w' ⟨rfl, hb⟩
    exact ⟨by simp [readyE], hb⟩
  | false =>
    by_cases hz : 0 ≤ z ∧ z < n
    · obtain ⟨k, rfl⟩ : ∃ k : Nat, z = k := ⟨z.toNat, by omega⟩
      have hr : st.rotten[k]? = some (st.rotten[k]'(by rw [h.out.ok.rl]; omega)) := List.getElem?_eq_getElem _
      refine (rotten_any h hd k (by omega) hr).mono ?_
      rintro e w' ⟨rfl, hb⟩
      rw [(ready_iff2 false n k).2 ⟨rfl, hz⟩, if_pos rfl, Int.toNat_natCast, hr]
      exact ⟨rfl, hb⟩
    · refine (rotten_out h hd z hz).mono ?_
      rintro e w' ⟨rfl, hb⟩
      have hE : readyE false n z = 2 := by simp [readyE, hz]
      rw [hE, if_neg (by omega)]
      exact ⟨rfl, hb⟩
end

/-! ### The document's array -/
section
variable {U : Nat → Prop} {w : World} {a s : Nat} {v : Value} {Fs : Nat → Nat → Prop} {ps : List Nat} {sts : List RSt}
set_option maxRecDepth 100000 in
theorem rahas_any (h : Hid (RArrB U w a v Fs ps s sts)) (d : Int) :
    Calls Try.prog 87 #[.pointer (some ⟨a, 0, none⟩), .int .i64 d] w fun e w' => e = .returned (.bool (decide (0 ≤ d ∧ d < sts.length))) ∧ Below w.heap.size w w' := by
  obtain ⟨A, c, _, c0, _⟩ := rarr_cells h.out
  by_cases h0 : 0 ≤ d
  · go_enter Try.func87, Try.ntmps87
    go_wp2_with fail
    go_ret
    exact ⟨ret_bool2 (by simp [h0] <;> omega), Below.refl _ _⟩
  · go_enter Try.func87, Try.ntmps87
    go_wp2_with fail
    go_ret
    exact ⟨ret_bool2 (by simp [h0] <;> omega), Below.refl _ _⟩
end
end Go.Proofs.Ytolmpopjonkfgaa
