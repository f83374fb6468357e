/-
  DriveRots, walked.
  What a drive does, whatever it is asked: Stored; Write, Rot, Flush, Rotten of any drive.
  Copy.
  The drive: Rot and Flush, whatever is asked; Rotten of a dead drive.
  Drives side by side: how they lie.
  Drives side by side: one drive.
  Drives side by side: what changes one; how many answers are so.
  Drives side by side: what one is asked; how many aren't dead; all flushed.
  Drives side by side: Flush.
  Drives side by side: Crash, PutRow.
  Drives side by side: Row.
  Drives side by side: New.
  The document's drive: its state as lists, in memory; New, has, Fail, Replace.
  Drives side by side: Copy.
  Drives side by side: the example of the page.
  sync.Once: done for the first time, by one goroutine, the lock free: the function is called in between; done already: nothing changes.
  sync.Once, the slow road, and Do.
  The field of 256: plain.
  The field of 256: inverses.
  The field's tables, and how they are filled.
  Rows of bytes over the field: sums of products, multiples, and what is annihilated; plain.
  Elimination over the field: what is annihilated stays; plain.
-/
import Derived.Test.YtihnlhfngmbglaaGreatLt2
import Derived.Deep.LoopGhost
import Derived.Maps.RangeWalk
import Derived.Test.YtihnlhfngmbglaaGreatRows
import Derived.Test.YtihnlhfngmbglaaGreatLt1
import Derived.Defers
import Derived.Laws.Pointers
import Derived.Laws.LoneSync
import Derived.RegionTactic
import Derived.RegionCalls
import Derived.ChangeAlike
import Derived.Laws.NewBlocks
import Derived.Deep.RegionHeld3
import Derived.Deep.DeepMust
import Derived.Deep.RegionLaw
import Derived.IntWalk
set_option linter.unusedSimpArgs false
set_option linter.unusedVariables false
namespace Go.Proofs.YtihnlhfngmbglaaGreat
open Go.RowKit Go.Cib
attribute [local go_sem] cell_set Later.cell Later.frozen Grw.cell Grw.frozen
section

theorem freshL_false (keep : Nat → Bool) : ∀ (c : List (Int × List Int)) (i : Nat) (xs : List Bool), (∀ r ∈ xs, r = false) → ∀ r ∈ freshL keep i c xs, r = false
  | [], i, xs, h, r, hr => h r hr
  | q :: c, i, xs, h, r, hr => by
    refine freshL_false keep c (i + 1) _ ?_ r hr
    intro y hy
    split at hy
    · rcases List.mem_or_eq_of_mem_set hy with h1 | h1
      · exact h y h1
      · exact h1
    · exact h y hy
theorem rotV_eq (v mask : Int) (j : Nat) : rotV v mask j = bits BinOp.xor IntKind.u8 v (mask / 2 ^ (8 * j) % 256) := by
  unfold rotV
  rw [show (8 * (j : Int)).toNat = 8 * j by omega, IntKind.wrap_u8]
end
section
attribute [local go_sem ↓] shut_load shut_load65 shut_zero shut_zero65 shut_store shut_store65
attribute [local go_sem] run_shutZero run_shutZero65 run_shutStore run_shutStore65 run_shutLoad_set there_new there_new65

set_option maxRecDepth 100000 in
theorem write_len {F : Nat → Prop} {w : World} {p n : Nat} {st : DSt} (h : Hid (DrvAt F w p n st)) (z : Int) (hz : readyE st.dead n z = 0) (A : Option Addr) (m c : Nat) (hm : m ≠ 64) :
    Calls Tryz.prog 215 #[.pointer (some ⟨p, 0, none⟩), .int .i64 z, .slice A m c] w fun e w' => e = .returned (.int .i64 2) ∧ Below w.heap.size w w' := by
  obtain ⟨sb, sc, rb, rc, A, cc, mb, H⟩ := h.out.box
  go_enter Tryz.func215, Tryz.ntmps215
  go_wp2_with fail
  refine (dready_any z H).mono ?_
  rintro e w1 ⟨rfl, h1⟩
  rw [hz]
  have hz2 : ((m : Int) == 64) = false := by simp; omega
  have hz3 : ((m : Int) != 64) = true := by simp; omega
  have hz4 : ¬ (m : Int) = 64 := by omega
  clear H
  go_wp2_with fail
  go_ret
  exact ⟨rfl, h1⟩

/-- Write, whatever is asked. -/
theorem write_all {F : Nat → Prop} {w : World} {p n : Nat} {st : DSt} (h : Hid (DrvAt F w p n st)) (z : Int) {S : Nat → Prop} {A : Option Addr} {m c : Nat} {bs : List Int} (hb : Hid (RdL U8R 1 S w A m bs)) (hS : ∀ b, S b → ¬ F b) (hcl : st.cache.length < 1000000) :
    Calls Tryz.prog 215 #[.pointer (some ⟨p, 0, none⟩), .int .i64 z, .slice A m c] w fun e w' => e = .returned (.int .i64 (writeE st.dead n z m)) ∧ Upd F w w' p n (if readyE st.dead n z = 0 ∧ m = 64 then st.write z bs else st) := by
  by_cases hz : readyE st.dead n z = 0
  · by_cases hm : m = 64
    · subst hm
      have hd : st.dead = false := by
        cases hdd : st.dead with
        | false => rfl
        | true => rw [hdd] at hz; simp [readyE] at hz
      have hr : 0 ≤ z ∧ z < n := by
        rw [hd] at hz
        by_cases h0 : 0 ≤ z ∧ z < n
        · exact h0
        · simp [readyE, h0] at hz
      obtain ⟨b, o, rfl, hSb, _⟩ := hb.out.addr (k := 0) (by omega)
      obtain ⟨k, rfl⟩ : ∃ k : Nat, z = k := ⟨z.toNat, by omega⟩
      refine (write_good h hd k (by omega) hb (hS b hSb) hcl).mono ?_
      rintro e w' ⟨rfl, hu⟩
      rw [if_pos ⟨hz, rfl⟩]
      exact ⟨by simp [writeE, hz], hu⟩
    · refine (write_len h z hz A m c hm).mono ?_
      rintro e w' ⟨rfl, hu⟩
      rw [if_neg (fun h => hm h.2)]
      exact ⟨by simp [writeE, hz, hm], h.out.upd hu⟩
  · refine (write_bad h z hz _).mono ?_
    rintro e w' ⟨rfl, hu⟩
    rw [if_neg (fun h => hz h.1)]
    exact ⟨by simp [writeE, hz], h.out.upd hu⟩
end
section

theorem slBool : SlTy Tryz.prog 118 4 (.bool false) 1 1 := ⟨Tryz.underlying118, by kernel_rfl, rfl, by omega⟩
theorem undrew {w w' : World} {r : Option Nat} (h : w.drew.grownBy w' r) : w.grownBy w' r := ⟨h.os, h.tape, h.output, h.size, h.block⟩
end
section

set_option maxRecDepth 100000 in
theorem rot_unready {F : Nat → Prop} {w : World} {p n : Nat} {st : DSt} (h : Hid (DrvAt F w p n st)) (z off mask : Int) (hz : readyE st.dead n z ≠ 0) :
    Calls Tryz.prog 78 #[.pointer (some ⟨p, 0, none⟩), .int .i64 z, .int .i64 off, .int .u32 mask] w fun e w' => e = .returned (.int .i64 (readyE st.dead n z)) ∧ Below w.heap.size w w' := by
  obtain ⟨sb, sc, rb, rc, A, cc, mb, H⟩ := h.out.box
  go_enter Tryz.func78, Tryz.ntmps78
  go_wp2_with fail
  refine (dready_any z H).mono ?_
  rintro e w1 ⟨rfl, h1⟩
  obtain ⟨E, hE⟩ : ∃ E, readyE st.dead n z = E := ⟨_, rfl⟩
  rw [hE] at hz ⊢
  have hz2 : (E == 0) = false := by simpa using hz
  have hz3 : (E != 0) = true := by simpa using hz
  have HE := Lib.hid hE
  clear hE H
  go_wp2_with fail
  go_ret
  exact ⟨by rw [HE.out]; rfl, h1⟩
set_option maxRecDepth 100000 in
theorem rot_off {F : Nat → Prop} {w : World} {p n : Nat} {st : DSt} (h : Hid (DrvAt F w p n st)) (z off mask : Int) (hz : readyE st.dead n z = 0) (ho : ¬ ((0 ≤ off ∧ off ≤ 60) ∧ ¬ mask = 0)) :
    Calls Tryz.prog 78 #[.pointer (some ⟨p, 0, none⟩), .int .i64 z, .int .i64 off, .int .u32 mask] w fun e w' => e = .returned (.int .i64 2) ∧ Below w.heap.size w w' := by
  obtain ⟨sb, sc, rb, rc, A, cc, mb, H⟩ := h.out.box
  by_cases h1 : off < 0
  · have d1 : decide (off < 0) = true := by simpa using h1
    clear ho
    go_enter Tryz.func78, Tryz.ntmps78
    go_wp2_with fail
    refine (dready_any z H).mono ?_
    rintro e w1 ⟨rfl, t1⟩
    rw [hz]
    clear H
    go_wp2_with fail
    go_ret
    exact ⟨rfl, t1⟩
  have d1 : decide (off < 0) = false := by simpa using h1
  by_cases h2 : 60 < off
  · have d2 : decide (60 < off) = true := by simpa using h2
    clear ho
    go_enter Tryz.func78, Tryz.ntmps78
    go_wp2_with fail
    refine (dready_any z H).mono ?_
    rintro e w1 ⟨rfl, t1⟩
    rw [hz]
    clear H
    go_wp2_with fail
    go_ret
    exact ⟨rfl, t1⟩
  have d2 : decide (60 < off) = false := by simpa using h2
  have h3 : (mask == 0) = true := by
    simp only [beq_iff_eq]
    exact Classical.byContradiction fun h => ho ⟨⟨by omega, by omega⟩, h⟩
  clear ho
  go_enter Tryz.func78, Tryz.ntmps78
  go_wp2_with fail
  refine (dready_any z H).mono ?_
  rintro e w1 ⟨rfl, t1⟩
  rw [hz]
  clear H
  go_wp2_with fail
  go_ret
  exact ⟨rfl, t1⟩
theorem ready_iff (st : DSt) (n : Nat) (z : Int) : readyE st.dead n z = 0 ↔ st.dead = false ∧ 0 ≤ z ∧ z < n := by
  cases hd : st.dead with
  | true => simp [readyE]
  | false => by_cases h : 0 ≤ z ∧ z < n <;> simp [readyE, h]

def rotDOk (st : DSt) (n : Nat) (z off mask : Int) : Prop := (st.dead = false ∧ 0 ≤ z ∧ z < n) ∧ ((0 ≤ off ∧ off ≤ 60) ∧ ¬ mask = 0) ∧ st.rotten[z.toNat]? = some false
instance (st : DSt) (n : Nat) (z off mask : Int) : Decidable (rotDOk st n z off mask) := by unfold rotDOk; infer_instance
end
section

/-- A pointer, whole. -/
def PtrR (_ : Nat → Prop) (_ : World) (cs : List Value) (x : Nat) : Prop := cs = [.pointer (some ⟨x, 0, none⟩)]
theorem PtrR.stable : Stable PtrR := fun _ _ _ _ _ _ h _ => h
theorem PtrR.one : ∀ S w cs x, PtrR S w cs x → ∀ u ∈ cs, u.oneCell' = true := by
  rintro S w cs x rfl u hu
  simp at hu
  subst hu; rfl
structure ArrB (U : Nat → Prop) (w : World) (a : Nat) (v : Value) (Fs : Nat → Nat → Prop) (ps : List Nat) (s : Nat) (sts : List DSt) : Prop where
  box : BoxAt w a #[v]
  own : OwnL PtrR 113 1 0 (fun _ => False) w v ps.length ps
  len : sts.length = ps.length
  drv : ∀ i p st, ps[i]? = some p → sts[i]? = some st → DrvAt (Fs i) w p s st
  apart : ∀ i j k, Fs i k → Fs j k → i = j
  va : v.ownBlock ≠ some a
  fx : ∀ i k, Fs i k → k ≠ a ∧ v.ownBlock ≠ some k
  ua : U a
  uv : ∀ k, v.ownBlock = some k → U k
  uf : ∀ i k, Fs i k → U k
  lt : ∀ k, U k → k < w.heap.size
def ArrAt (U : Nat → Prop) (w : World) (a s : Nat) (sts : List DSt) : Prop := ∃ v Fs ps, ArrB U w a v Fs ps s sts
def AUpd (U : Nat → Prop) (w w' : World) (a s : Nat) (sts : List DSt) : Prop := ∃ U', ArrAt U' w' a s sts ∧ (∀ k, U' k → k < w.heap.size → U k) ∧ Keep U w w'

theorem ArrB.keep {U G : Nat → Prop} {w w' : World} {a s : Nat} {v : Value} {Fs : Nat → Nat → Prop} {ps : List Nat} {sts : List DSt} (h : ArrB U w a v Fs ps s sts) (hk : Keep G w w') (hd : ∀ k, U k → ¬ G k) : ArrB U w' a v Fs ps s sts := by
  have hh : ∀ k, U k → w'.heap[k]? = w.heap[k]? := fun k hu => hk.block k (h.lt k hu) (hd k hu)
  refine ⟨h.box.keep (hh a h.ua), ?_, h.len, fun i p st h1 h2 => (h.drv i p st h1 h2).keep hk (fun k hf => hd k (h.uf i k hf)), h.apart, h.va, h.fx, h.ua, h.uv, h.uf, fun k hu => Nat.lt_of_lt_of_le (h.lt k hu) hk.size⟩
  obtain ⟨css, h1, h2, h3, h4, h5⟩ := h.own
  exact ⟨css, ownsRow_keep h1 (fun k hk2 => hh k (h.uv k hk2)), h2, h3, h4, fun i cs x hc hx => h5 i cs x hc hx⟩
theorem ArrB.below {U : Nat → Prop} {w w' : World} {a s : Nat} {v : Value} {Fs : Nat → Nat → Prop} {ps : List Nat} {sts : List DSt} (h : ArrB U w a v Fs ps s sts) (hk : Below w.heap.size w w') : ArrB U w' a v Fs ps s sts := h.keep (Keep.of_below (F := fun _ => False) hk) (fun _ _ h => h)
theorem ArrAt.keep {U G : Nat → Prop} {w w' : World} {a s : Nat} {sts : List DSt} (h : ArrAt U w a s sts) (hk : Keep G w w') (hd : ∀ k, U k → ¬ G k) : ArrAt U w' a s sts := by
  obtain ⟨v, Fs, ps, h⟩ := h; exact ⟨v, Fs, ps, h.keep hk hd⟩
theorem ArrAt.below {U : Nat → Prop} {w w' : World} {a s : Nat} {sts : List DSt} (h : ArrAt U w a s sts) (hk : Below w.heap.size w w') : ArrAt U w' a s sts := by
  obtain ⟨v, Fs, ps, h⟩ := h; exact ⟨v, Fs, ps, h.below hk⟩
theorem ArrAt.lt {U : Nat → Prop} {w : World} {a s : Nat} {sts : List DSt} (h : ArrAt U w a s sts) {k : Nat} (hk : U k) : k < w.heap.size := by
  obtain ⟨v, Fs, ps, h⟩ := h; exact h.lt k hk
theorem ArrAt.ok {U : Nat → Prop} {w : World} {a s : Nat} {sts : List DSt} (h : ArrAt U w a s sts) : ∀ st ∈ sts, st.ok s := by
  obtain ⟨v, Fs, ps, h⟩ := h
  intro st hst
  obtain ⟨i, hi, rfl⟩ := List.mem_iff_getElem.1 hst
  exact (h.drv i (ps[i]'(by rw [← h.len]; exact hi)) _ (List.getElem?_eq_getElem _) (List.getElem?_eq_getElem _)).ok
theorem ArrAt.upd {U : Nat → Prop} {w w' : World} {a s : Nat} {sts : List DSt} (h : ArrAt U w a s sts) (hk : Below w.heap.size w w') : AUpd U w w' a s sts := ⟨U, h.below hk, fun _ h _ => h, Keep.of_below hk⟩
theorem AUpd.trans {U U1 : Nat → Prop} {w w1 w2 : World} {a s : Nat} {sts : List DSt} (hU : ∀ k, U1 k → k < w.heap.size → U k) (hK : Keep U w w1) (h : AUpd U1 w1 w2 a s sts) : AUpd U w w2 a s sts := by
  obtain ⟨U2, hA, h2, hK2⟩ := h
  exact ⟨U2, hA, fun k h1 hlt => hU k (h2 k h1 (Nat.lt_of_lt_of_le hlt hK.size)) hlt, hK.trans hK2 (fun k h hlt => hU k h hlt)⟩
/-- One drive went on. -/
theorem ArrB.upd1 {U : Nat → Prop} {w w' : World} {a s : Nat} {v : Value} {Fs : Nat → Nat → Prop} {ps : List Nat} {sts : List DSt} (h : ArrB U w a v Fs ps s sts) {i p : Nat} {st' : DSt} (hp : ps[i]? = some p) (hu : Upd (Fs i) w w' p s st') :
    ∃ U' Fs', ArrB U' w' a v Fs' ps s (sts.set i st') ∧ (∀ k, U' k → k < w.heap.size → U k) ∧ Keep U w w' := by
  obtain ⟨F', hD, hF, hK⟩ := hu
  have hil : i < sts.length := by rw [h.len]; exact (List.getElem?_eq_some_iff.1 hp).1
  have hKU : Keep U w w' := hK.mono (fun k hf _ => h.uf i k hf)
  have hlt' : ∀ k, F' k → k < w'.heap.size := fun k hk => hD.lt hk
  refine ⟨fun k => U k ∨ F' k, fun j k => if j = i then F' k else Fs j k, ⟨?_, ?_, by simpa using h.len, ?_, ?_, h.va, ?_, .inl h.ua, fun k hk => .inl (h.uv k hk), ?_, ?_⟩, fun k hk hlt => hk.elim id (fun hf => h.uf i k (hF k hf hlt)), hKU⟩
  · exact h.box.keep (hK.block a (h.lt a h.ua) (fun hf => (h.fx i a hf).1 rfl))
  · obtain ⟨css, h1, h2, h3, h4, h5⟩ := h.own
    exact ⟨css, ownsRow_keep h1 (fun k hk2 => hK.block k (h.lt k (h.uv k hk2)) (fun hf => (h.fx i k hf).2 hk2)), h2, h3, h4, fun i cs x hc hx => h5 i cs x hc hx⟩
  · intro j q st h1 h2
    by_cases hj : j = i
    · subst hj
      rw [hp] at h1
      injection h1 with h1
      subst h1
      rw [List.getElem?_set_self hil] at h2
      injection h2 with h2
      subst h2
      simpa using hD
    · rw [List.getElem?_set_ne (fun e => hj e.symm)] at h2
      simp only [if_neg hj]
      exact (h.drv j q st h1 h2).keep hK (fun k hf hf2 => hj (h.apart j i k hf hf2))
  · intro j1 j2 k
    by_cases e1 : j1 = i <;> by_cases e2 : j2 = i <;> simp only [e1, e2, if_pos, if_neg, not_false_eq_true]
    · intros; trivial
    · intro hf hg
      exact (h.apart _ _ k (hF k hf (h.lt k (h.uf _ k hg))) hg)
    · intro hf hg
      exact e1 (h.apart _ _ k hf (hF k hg (h.lt k (h.uf _ k hf))))
    · exact h.apart j1 j2 k
  · intro j k hf
    by_cases e1 : j = i
    · simp only [e1, if_pos] at hf
      constructor
      · rintro rfl
        exact (h.fx i k (hF k hf (h.lt k h.ua))).1 rfl
      · intro hv
        exact (h.fx i k (hF k hf (h.lt k (h.uv k hv)))).2 hv
    · simp only [e1, if_neg, not_false_eq_true] at hf
      exact h.fx j k hf
  · intro j k hf
    by_cases e1 : j = i
    · simp only [e1, if_pos] at hf; exact .inr hf
    · simp only [e1, if_neg, not_false_eq_true] at hf; exact .inl (h.uf j k hf)
  · rintro k (hk | hk)
    · exact Nat.lt_of_lt_of_le (h.lt k hk) hK.size
    · exact hlt' k hk
theorem arr_cells {U : Nat → Prop} {w : World} {a s : Nat} {v : Value} {Fs : Nat → Nat → Prop} {ps : List Nat} {sts : List DSt} (h : ArrB U w a v Fs ps s sts) : ∃ A c, v = .slice A sts.length c ∧ w.cell? ⟨a, 0, none⟩ = some (.slice A sts.length c) ∧
    ∀ i, i < sts.length → ∃ g p st, A = some ⟨g, 0, none⟩ ∧ ps[i]? = some p ∧ sts[i]? = some st ∧ w.cell? ⟨g, i, none⟩ = some (.pointer (some ⟨p, 0, none⟩)) ∧ DrvAt (Fs i) w p s st := by
  obtain ⟨A, c, rfl, _⟩ := h.own.form
  refine ⟨A, c, by rw [h.len], by rw [h.len]; exact h.box.cell 0, fun i hi => ?_⟩
  rw [h.len] at hi
  obtain ⟨css, h1, h2, h3, h4, h5⟩ := h.own
  obtain ⟨g, cap, e0, _, _⟩ := h1.form (by omega)
  obtain ⟨rfl, rfl⟩ : A = some ⟨g, 0, none⟩ ∧ c = cap := by simpa using e0
  have hic : css[i]? = some (css[i]'(by omega)) := List.getElem?_eq_getElem (by omega)
  have hip : ps[i]? = some (ps[i]'(by omega)) := List.getElem?_eq_getElem (by omega)
  have his : sts[i]? = some (sts[i]'(by rw [h.len]; exact hi)) := List.getElem?_eq_getElem _
  have hcs := h5 i _ _ hic hip
  refine ⟨g, _, _, rfl, hip, his, ?_, h.drv i _ _ hip his⟩
  have := h1.cellAt i (by omega)
  rw [this]
  have := flatten_get css h4 i _ 0 hic (by omega)
  rw [Nat.mul_one, Nat.add_zero] at this
  rw [this]
  rw [show css[i] = [.pointer (some ⟨ps[i], 0, none⟩)] from hcs]; rfl
end
section

section
variable {U : Nat → Prop} {w : World} {a s : Nat} {v : Value} {Fs : Nat → Nat → Prop} {ps : List Nat} {sts : List DSt}
set_option maxRecDepth 100000 in
theorem anone (h : Hid (ArrB U w a v Fs ps s sts)) (hk : 0 < sts.length) :
    Calls Tryz.prog 75 #[.pointer (some ⟨a, 0, none⟩)] w fun e w' => e = .returned (.bool false) ∧ Below w.heap.size w w' := by
  obtain ⟨A, c, _, c0, _⟩ := arr_cells h.out
  have hk0 : ((sts.length : Int) == 0) = false := by rw [beq_eq_false_iff_ne]; omega
  go_enter Tryz.func75, Tryz.ntmps75
  go_wp2_with fail
  go_ret
  exact ⟨rfl, Below.refl _ _⟩
set_option maxRecDepth 100000 in
theorem an_any (h : Hid (ArrB U w a v Fs ps s sts)) (hk : 0 < sts.length) :
    Calls Tryz.prog 83 #[.pointer (some ⟨a, 0, none⟩)] w fun e w' => e = .returned (.int .i64 sts.length) ∧ Below w.heap.size w w' := by
  go_enter Tryz.func83, Tryz.ntmps83
  go_wp2_with fail
  refine (anone h hk).mono ?_
  rintro e w1 ⟨rfl, t1⟩
  obtain ⟨A, c, _, c0, _⟩ := arr_cells (h.out.below t1)
  go_wp2_with fail
  go_ret
  exact ⟨rfl, t1⟩
set_option maxRecDepth 100000 in
theorem aat_in (h : Hid (ArrB U w a v Fs ps s sts)) (d : Nat) (hd : d < sts.length) {p : Nat} (hp : ps[d]? = some p) :
    Calls Tryz.prog 119 #[.pointer (some ⟨a, 0, none⟩), .int .i64 d] w fun e w' => e = .returned (.pointer (some ⟨p, 0, none⟩)) ∧ Below w.heap.size w w' := by
  have h0 : (0 : Int) ≤ (d : Int) := Int.natCast_nonneg _
  have h1 : (d : Int) < (sts.length : Int) := by omega
  go_enter Tryz.func119, Tryz.ntmps119
  go_wp2_with fail
  refine (anone h (by omega)).mono ?_
  rintro e w1 ⟨rfl, t1⟩
  obtain ⟨A, c, _, c0, hc⟩ := arr_cells (h.out.below t1)
  obtain ⟨g, p', st, rfl, hp', hst, cg, _⟩ := hc d hd
  obtain rfl : p' = p := by rw [hp] at hp'; injection hp' with hp'; exact hp'.symm
  clear hc hst
  go_wp2_with fail
  go_ret
  exact ⟨rfl, t1⟩
set_option maxRecDepth 100000 in
theorem aat_out (h : Hid (ArrB U w a v Fs ps s sts)) (hk : 0 < sts.length) (d : Int) (hd : ¬ (0 ≤ d ∧ d < sts.length)) :
    Calls Tryz.prog 119 #[.pointer (some ⟨a, 0, none⟩), .int .i64 d] w fun e w' => e = .returned (.pointer none) ∧ Below w.heap.size w w' := by
  by_cases h0 : d < 0
  · have d0 : decide (d < 0) = true := by simpa using h0
    clear hd
    go_enter Tryz.func119, Tryz.ntmps119
    go_wp2_with fail
    refine (anone h hk).mono ?_
    rintro e w1 ⟨rfl, t1⟩
    go_wp2_with fail
    go_ret
    exact ⟨rfl, t1⟩
  · have d0 : decide (d < 0) = false := by simpa using h0
    have d1 : decide ((sts.length : Int) ≤ d) = true := by simp; omega
    clear hd
    go_enter Tryz.func119, Tryz.ntmps119
    go_wp2_with fail
    refine (anone h hk).mono ?_
    rintro e w1 ⟨rfl, t1⟩
    obtain ⟨A, c, _, c0, _⟩ := arr_cells (h.out.below t1)
    go_wp2_with fail
    go_ret
    exact ⟨rfl, t1⟩
set_option maxRecDepth 100000 in
theorem areach_in (h : Hid (ArrB U w a v Fs ps s sts)) (d : Nat) (hd : d < sts.length) {p : Nat} (hp : ps[d]? = some p) :
    Calls Tryz.prog 77 #[.pointer (some ⟨a, 0, none⟩), .int .i64 d] w fun e w' => e = .returned (.tuple #[.pointer (some ⟨p, 0, none⟩), .int .i64 0]) ∧ Below w.heap.size w w' := by
  go_enter Tryz.func77, Tryz.ntmps77
  go_wp2_with fail
  refine (anone h (by omega)).mono ?_
  rintro e w1 ⟨rfl, t1⟩
  have H1 := Lib.hid (h.out.below t1)
  go_wp2_with fail
  refine (aat_in H1 d hd hp).mono ?_
  rintro e w2 ⟨rfl, t2⟩
  go_wp2_with fail
  go_ret2
  exact ⟨rfl, t1.trans (t2.mono t1.size)⟩
set_option maxRecDepth 100000 in
theorem areach_out (h : Hid (ArrB U w a v Fs ps s sts)) (hk : 0 < sts.length) (d : Int) (hd : ¬ (0 ≤ d ∧ d < sts.length)) :
    Calls Tryz.prog 77 #[.pointer (some ⟨a, 0, none⟩), .int .i64 d] w fun e w' => e = .returned (.tuple #[.pointer none, .int .i64 2]) ∧ Below w.heap.size w w' := by
  go_enter Tryz.func77, Tryz.ntmps77
  go_wp2_with fail
  refine (anone h hk).mono ?_
  rintro e w1 ⟨rfl, t1⟩
  have H1 := Lib.hid (h.out.below t1)
  go_wp2_with fail
  refine (aat_out H1 hk d hd).mono ?_
  rintro e w2 ⟨rfl, t2⟩
  go_wp2_with fail
  go_ret2
  exact ⟨rfl, t1.trans (t2.mono t1.size)⟩

/-- What a drive reads at z, or nothing. -/
def readL (st : DSt) (n : Nat) (z : Int) : List Int := if readyE st.dead n z = 0 then st.seen z.toNat else []
end
end
section

theorem BoxAt.bools {w : World} {b : Nat} {xs : List Bool} (h : BoxAt w b (xs.map Value.bool).toArray) {S : Nat → Prop} (hS : S b) : RdL BoolR 1 S w (some ⟨b, 0, none⟩) xs.length xs :=
  ⟨rfl, fun _ => ⟨b, 0, rfl, hS, h.lt, fun i x hx => ⟨[.bool x], rfl, rfl, fun j v hj => by
    match j, hj with
    | 0, hj =>
      simp only [List.getElem?_cons_zero, Option.some.injEq] at hj
      subst hj
      rw [h.cell]
      simp [hx]⟩⟩⟩
theorem bool_at {S : Nat → Prop} {w : World} {A : Option Addr} {m : Nat} {xs : List Bool} (h : RdL BoolR 1 S w A m xs) {i : Nat} (hi : i < m) : ∃ b o x, A = some ⟨b, o, none⟩ ∧ xs[i]? = some x ∧ w.cell? ⟨b, o + i, none⟩ = some (.bool x) := by
  obtain ⟨b, o, rfl, _, hlt⟩ := h.addr hi
  obtain ⟨hl, cs, h1, h2, h3⟩ := h.at hi
  have h4 : cs = [.bool xs[i]] := h2
  subst h4
  refine ⟨b, o, xs[i], rfl, by simp [hl], ?_⟩
  simpa using h3 0 _ rfl
def cnt (l : List Bool) : Nat := l.count true
theorem cnt_snoc (l : List Bool) (x : Bool) : cnt (l ++ [x]) = cnt l + (if x then 1 else 0) := by cases x <;> simp [cnt]
theorem cnt_le (l : List Bool) : cnt l ≤ l.length := List.count_le_length
set_option maxRecDepth 100000 in
theorem counted_any {S : Nat → Prop} {w : World} {A : Option Addr} {m c : Nat} {xs : List Bool} (R : Hid (RdL BoolR 1 S w A m xs)) (hm : m < 1000000) :
    Calls Tryz.prog 72 #[.slice A m c] w fun e w' => e = .returned (.int .i64 (cnt xs)) ∧ Below w.heap.size w w' := by
  go_enter Tryz.func72, Tryz.ntmps72
  go_wp2_with fail
  go_loopw [3, 8] (fun vn vi wr => ∃ i : Nat, i ≤ m ∧ vn = .int .i64 (cnt (xs.take i)) ∧ vi = .int .i64 i ∧ wr = w) (fun _ vi _ => m - (intOf vi).toNat)
  case atStart => exact ⟨0, Nat.zero_le _, rfl, rfl, rfl⟩
  case round =>
    obtain ⟨i, hi, rfl, rfl, rfl⟩ := hrel
    by_cases hlt : i < m
    · obtain ⟨b, o, x, rfl, hx, y0⟩ := bool_at R.out hlt
      have h1 : (i : Int) < (m : Int) := by omega
      have h2 : (0 : Int) ≤ (i : Int) := Int.natCast_nonneg _
      have h3 : (i : Int) < 1000000 := by omega
      have htk : xs.take (i + 1) = xs.take i ++ [x] := by
        have hil := (List.getElem?_eq_some_iff.1 hx).1
        rw [List.take_succ_eq_append_getElem hil, (List.getElem?_eq_some_iff.1 hx).2]
      have hc := cnt_snoc (xs.take i) x
      rw [← htk] at hc
      have hcl := cnt_le (xs.take i)
      have hcl2 : (xs.take i).length ≤ i := by simp; omega
      have hw : IntKind.i64.wrap ((cnt (xs.take i) : Int) + 1) = (cnt (xs.take i) : Int) + 1 := by rw [IntKind.wrap_i64]; omega
      have HC := Lib.hid hc
      clear hc htk hx hcl hcl2
      cases x with
      | true =>
        go_wp2_with fail
        refine ⟨⟨i + 1, by omega, ?_, by go_num, trivial⟩, by simp [intOf]; omega⟩
        rw [HC.out]; rfl
      | false =>
        go_wp2_with fail
        refine ⟨⟨i + 1, by omega, ?_, by go_num, trivial⟩, by simp [intOf]; omega⟩
        rw [HC.out]; rfl
    · obtain rfl : i = m := by omega
      have h1 : ¬ (i : Int) < (i : Int) := by omega
      have hx : xs.take i = xs := by rw [List.take_of_length_le]; rw [R.out.1]; exact Nat.le_refl _
      have HX := Lib.hid hx
      clear hx
      go_wp2_with fail
      go_ret
      rw [HX.out]
      exact ⟨rfl, Below.refl _ _⟩

section
variable {U : Nat → Prop} {w : World} {a s : Nat} {v : Value} {Fs : Nat → Nat → Prop} {ps : List Nat} {sts : List DSt}
theorem ArrB.p_at (h : ArrB U w a v Fs ps s sts) {d : Nat} {st : DSt} (hst : sts[d]? = some st) : ∃ p, ps[d]? = some p ∧ DrvAt (Fs d) w p s st ∧ d < sts.length := by
  have hd : d < sts.length := (List.getElem?_eq_some_iff.1 hst).1
  exact ⟨_, List.getElem?_eq_getElem (by rw [← h.len]; exact hd), h.drv d _ _ (List.getElem?_eq_getElem _) hst, hd⟩
/-- One drive goes on behind something that changed nothing. -/
theorem ArrB.upd2 (h : ArrB U w a v Fs ps s sts) {w1 w2 : World} {i p : Nat} {st' : DSt} (hb : Below w.heap.size w w1) (hp : ps[i]? = some p) (hu : Upd (Fs i) w1 w2 p s st') : AUpd U w w2 a s (sts.set i st') := by
  obtain ⟨U', Fs', hB, h1, h2⟩ := (h.below hb).upd1 hp hu
  exact ⟨U', ⟨v, Fs', ps, hB⟩, fun k hk hlt => h1 k hk (Nat.lt_of_lt_of_le hlt hb.size), (Keep.of_below (F := U) hb).trans h2 (fun k h _ => h)⟩
set_option maxRecDepth 100000 in
theorem achange_in (h : Hid (ArrB U w a v Fs ps s sts)) (d : Nat) {st st' : DSt} (hst : sts[d]? = some st) (f : FuncId)
    (hc : ∀ (F : Nat → Prop) (p : Nat) (w' : World), Hid (DrvAt F w' p s st) → Calls Tryz.prog f #[.pointer (some ⟨p, 0, none⟩)] w' fun e w'' => e = .returned (.tuple #[]) ∧ Upd F w' w'' p s st') (hcf : ∀ args w, (callFunc f args).run Tryz.prog w = .ok (.enter f args) w) :
    Calls Tryz.prog 59 #[.pointer (some ⟨a, 0, none⟩), .int .i64 d, .func (.func f) #[] #[]] w fun e w' => e = .returned (.int .i64 0) ∧ AUpd U w w' a s (sts.set d st') := by
  obtain ⟨p, hp, hD, hd⟩ := h.out.p_at hst
  have HD := Lib.hid hD
  have HC := Lib.hid hc
  clear hD hc
  go_enter Tryz.func59, Tryz.ntmps59
  go_wp2_with fail
  refine (areach_in h d hd hp).mono ?_
  rintro e w1 ⟨rfl, t1⟩
  have T1 := Lib.hid t1
  clear t1
  go_wp2_with fail
  refine (HC.out _ _ w1 (Lib.hid (HD.out.below T1.out))).mono ?_
  rintro e w2 ⟨rfl, u2⟩
  have U2 := Lib.hid u2
  clear u2 hcf
  go_wp2_with fail
  go_ret
  exact ⟨rfl, h.out.upd2 T1.out hp U2.out⟩
set_option maxRecDepth 100000 in
theorem achange_out (h : Hid (ArrB U w a v Fs ps s sts)) (hk : 0 < sts.length) (d : Int) (hd : ¬ (0 ≤ d ∧ d < sts.length)) (x : Value) :
    Calls Tryz.prog 59 #[.pointer (some ⟨a, 0, none⟩), .int .i64 d, x] w fun e w' => e = .returned (.int .i64 2) ∧ Below w.heap.size w w' := by
  go_enter Tryz.func59, Tryz.ntmps59
  go_wp2_with fail
  refine (areach_out h hk d hd).mono ?_
  rintro e w1 ⟨rfl, t1⟩
  go_wp2_with fail
  go_ret
  exact ⟨rfl, t1⟩
end
theorem call_fail (args : Array Value) (w : World) : (callFunc 60 args).run Tryz.prog w = .ok (.enter 60 args) w := by go_simp
theorem call_repl (args : Array Value) (w : World) : (callFunc 110 args).run Tryz.prog w = .ok (.enter 110 args) w := by go_simp
theorem call_flush (args : Array Value) (w : World) : (callFunc 74 args).run Tryz.prog w = .ok (.enter 74 args) w := by go_simp
/-- Fail, whatever is asked. -/
def failA (s : Nat) (sts : List DSt) (d : Int) : List DSt := if 0 ≤ d ∧ d < sts.length then sts.set d.toNat (DSt.gone s) else sts
def replA (s : Nat) (sts : List DSt) (d : Int) : List DSt := if 0 ≤ d ∧ d < sts.length then sts.set d.toNat (DSt.new s) else sts
set_option maxRecDepth 100000 in
theorem afail_any {U : Nat → Prop} {w : World} {a s : Nat} {sts : List DSt} (h : Hid (ArrAt U w a s sts)) (hk : 0 < sts.length) (d : Int) :
    Calls Tryz.prog 18 #[.pointer (some ⟨a, 0, none⟩), .int .i64 d] w fun e w' => e = .returned (.int .i64 (if 0 ≤ d ∧ d < sts.length then 0 else 2)) ∧ AUpd U w w' a s (failA s sts d) := by
  obtain ⟨v, Fs, ps, hB⟩ := h.out
  have HB := Lib.hid hB
  clear hB
  unfold failA
  by_cases hd : 0 ≤ d ∧ d < sts.length
  · rw [if_pos hd, if_pos hd]
    obtain ⟨k, rfl⟩ : ∃ k : Nat, d = k := ⟨d.toNat, by omega⟩
    obtain ⟨st, hst⟩ : ∃ st, sts[k]? = some st := ⟨_, List.getElem?_eq_getElem (by omega)⟩
    clear hd
    go_enter Tryz.func18, Tryz.ntmps18
    go_wp2_with fail
    refine (achange_in HB k hst _ (fun F p w' hD => fail_any hD) call_fail).mono ?_
    rintro e w1 ⟨rfl, u⟩
    have UU := Lib.hid u
    clear u
    go_wp2_with fail
    go_ret
    exact ⟨rfl, UU.out⟩
  · rw [if_neg hd, if_neg hd]
    go_enter Tryz.func18, Tryz.ntmps18
    go_wp2_with fail
    refine (achange_out HB hk d hd _).mono ?_
    rintro e w1 ⟨rfl, t1⟩
    go_wp2_with fail
    go_ret
    exact ⟨rfl, h.out.upd t1⟩
set_option maxRecDepth 100000 in
theorem arepl_any {U : Nat → Prop} {w : World} {a s : Nat} {sts : List DSt} (h : Hid (ArrAt U w a s sts)) (hk : 0 < sts.length) (d : Int) :
    Calls Tryz.prog 49 #[.pointer (some ⟨a, 0, none⟩), .int .i64 d] w fun e w' => e = .returned (.int .i64 (if 0 ≤ d ∧ d < sts.length then 0 else 2)) ∧ AUpd U w w' a s (replA s sts d) := by
  obtain ⟨v, Fs, ps, hB⟩ := h.out
  have HB := Lib.hid hB
  clear hB
  unfold replA
  by_cases hd : 0 ≤ d ∧ d < sts.length
  · rw [if_pos hd, if_pos hd]
    obtain ⟨k, rfl⟩ : ∃ k : Nat, d = k := ⟨d.toNat, by omega⟩
    obtain ⟨st, hst⟩ : ∃ st, sts[k]? = some st := ⟨_, List.getElem?_eq_getElem (by omega)⟩
    clear hd
    go_enter Tryz.func49, Tryz.ntmps49
    go_wp2_with fail
    refine (achange_in HB k hst _ (fun F p w' hD => replace_any hD) call_repl).mono ?_
    rintro e w1 ⟨rfl, u⟩
    have UU := Lib.hid u
    clear u
    go_wp2_with fail
    go_ret
    exact ⟨rfl, UU.out⟩
  · rw [if_neg hd, if_neg hd]
    go_enter Tryz.func49, Tryz.ntmps49
    go_wp2_with fail
    refine (achange_out HB hk d hd _).mono ?_
    rintro e w1 ⟨rfl, t1⟩
    go_wp2_with fail
    go_ret
    exact ⟨rfl, h.out.upd t1⟩
end
section

section
variable {U : Nat → Prop} {w : World} {a s : Nat} {v : Value} {Fs : Nat → Nat → Prop} {ps : List Nat} {sts : List DSt}
def wrDA (n : Nat) (st : DSt) (z : Int) (bs : List Int) : DSt := if readyE st.dead n z = 0 ∧ bs.length = 64 then st.write z bs else st
set_option maxRecDepth 100000 in
theorem awrite_in (h : Hid (ArrB U w a v Fs ps s sts)) (d : Nat) {st : DSt} (hst : sts[d]? = some st) (z : Int) {S : Nat → Prop} {A : Option Addr} {m c : Nat} {bs : List Int} (hb : Hid (RdL U8R 1 S w A m bs)) (hS : ∀ b, S b → ¬ U b) (hcl : st.cache.length < 1000000) :
    Calls Tryz.prog 181 #[.pointer (some ⟨a, 0, none⟩), .int .i64 d, .int .i64 z, .slice A m c] w fun e w' => e = .returned (.int .i64 (writeE st.dead s z m)) ∧ AUpd U w w' a s (sts.set d (wrDA s st z bs)) := by
  obtain ⟨p, hp, hD, hd⟩ := h.out.p_at hst
  have HD := Lib.hid hD
  have HS := Lib.hid hS
  clear hD hS
  go_enter Tryz.func181, Tryz.ntmps181
  go_wp2_with fail
  refine (areach_in h d hd hp).mono ?_
  rintro e w1 ⟨rfl, t1⟩
  have T1 := Lib.hid t1
  clear t1
  go_wp2_with fail
  refine (write_all (Lib.hid (HD.out.below T1.out)) z (Lib.hid (hb.out.below U8R.stable T1.out)) (fun b hs hf => HS.out b hs (h.out.uf d b hf)) hcl).mono ?_
  rintro e w2 ⟨rfl, u2⟩
  obtain rfl : bs.length = m := hb.out.1
  have U2 := Lib.hid (show Upd (Fs d) w1 w2 p s (wrDA s st z bs) from u2)
  clear u2
  go_wp2_with fail
  go_ret
  exact ⟨rfl, h.out.upd2 T1.out hp U2.out⟩
def rtDA (n : Nat) (st : DSt) (z off mask : Int) : DSt := if rotDOk st n z off mask then st.rot z.toNat off.toNat mask else st
/-! ### All of them, one by one -/
def stepTo (g : Nat → DSt → DSt) (i : Nat) (sts : List DSt) : List DSt := sts.mapIdx (fun j st => if j < i then g j st else st)
theorem stepTo_get (g : Nat → DSt → DSt) (i : Nat) (sts : List DSt) (j : Nat) : (stepTo g i sts)[j]? = (sts[j]?).map (fun st => if j < i then g j st else st) := by simp [stepTo]
theorem stepTo_len (g : Nat → DSt → DSt) (i : Nat) (sts : List DSt) : (stepTo g i sts).length = sts.length := by simp [stepTo]
theorem stepTo_zero (g : Nat → DSt → DSt) (sts : List DSt) : stepTo g 0 sts = sts := by
  apply List.ext_getElem?
  intro j
  rw [stepTo_get]
  cases sts[j]? <;> simp
theorem stepTo_at (g : Nat → DSt → DSt) (i : Nat) (sts : List DSt) {st : DSt} (h : sts[i]? = some st) : (stepTo g i sts)[i]? = some st := by rw [stepTo_get, h]; simp
theorem stepTo_succ (g : Nat → DSt → DSt) (i : Nat) (sts : List DSt) {st : DSt} (h : sts[i]? = some st) : (stepTo g i sts).set i (g i st) = stepTo g (i + 1) sts := by
  apply List.ext_getElem?
  intro j
  rw [stepTo_get]
  by_cases hj : i = j
  · subst hj
    rw [List.getElem?_set_self (by rw [stepTo_len]; exact (List.getElem?_eq_some_iff.1 h).1), h]; simp
  · rw [List.getElem?_set_ne hj, stepTo_get]
    cases sts[j]? with
    | none => rfl
    | some y =>
      simp only [Option.map_some, Option.some.injEq]
      by_cases h1 : j < i
      · rw [if_pos h1, if_pos (by omega)]
      · rw [if_neg h1, if_neg (by omega)]
theorem stepTo_all (g : Nat → DSt → DSt) (sts : List DSt) : stepTo g sts.length sts = sts.mapIdx g := by
  apply List.ext_getElem?
  intro j
  rw [stepTo_get, List.getElem?_mapIdx]
  cases h : sts[j]? with
  | none => rfl
  | some y =>
    have := (List.getElem?_eq_some_iff.1 h).1
    simp [this]

def aliveL (sts : List DSt) : List Bool := sts.map (fun st => !st.dead)
end
end
section

theorem makeBoolsL (k : Nat) (hk : k ≤ 600) (w : World) : (Instr.makeSlice 118 (.int .i64 (k : Int)) (.int .i64 (k : Int))).run Tryz.prog w = .ok (.slice (some ⟨w.heap.size, 0, none⟩) k k) (w.alloc (.cells ((List.replicate k false).map Value.bool).toArray 4)) := by
  rw [List.map_replicate, List.toArray_replicate]
  exact makeBools k hk w
theorem mapIdx_const (g : DSt → DSt) (sts : List DSt) : sts.mapIdx (fun _ => g) = sts.map g := by
  apply List.ext_getElem?
  intro j
  rw [List.getElem?_mapIdx, List.getElem?_map]
def okTo (r : DSt → Int) (i : Nat) (sts : List DSt) : List Bool := sts.mapIdx (fun j st => if j < i then r st == 0 else false)
theorem okTo_get (r : DSt → Int) (i : Nat) (sts : List DSt) (j : Nat) : (okTo r i sts)[j]? = (sts[j]?).map (fun st => if j < i then r st == 0 else false) := by simp [okTo]
theorem okTo_len (r : DSt → Int) (i : Nat) (sts : List DSt) : (okTo r i sts).length = sts.length := by simp [okTo]
theorem okTo_zero (r : DSt → Int) (sts : List DSt) : okTo r 0 sts = List.replicate sts.length false := by
  apply List.ext_getElem?
  intro j
  rw [okTo_get, List.getElem?_replicate]
  by_cases h : j < sts.length
  · rw [List.getElem?_eq_getElem h]; simp [h]
  · rw [List.getElem?_eq_none (by omega)]; simp [h]
theorem okTo_succ (r : DSt → Int) (i : Nat) (sts : List DSt) {st : DSt} (h : sts[i]? = some st) : (okTo r i sts).set i (r st == 0) = okTo r (i + 1) sts := by
  apply List.ext_getElem?
  intro j
  rw [okTo_get]
  by_cases hj : i = j
  · subst hj
    rw [List.getElem?_set_self (by rw [okTo_len]; exact (List.getElem?_eq_some_iff.1 h).1), h]; simp
  · rw [List.getElem?_set_ne hj, okTo_get]
    cases sts[j]? with
    | none => rfl
    | some y =>
      simp only [Option.map_some, Option.some.injEq]
      by_cases h1 : j < i
      · rw [if_pos h1, if_pos (by omega)]
      · rw [if_neg h1, if_neg (by omega)]
theorem okTo_all (r : DSt → Int) (sts : List DSt) : okTo r sts.length sts = sts.map (fun st => r st == 0) := by
  apply List.ext_getElem?
  intro j
  rw [okTo_get, List.getElem?_map]
  cases h : sts[j]? with
  | none => rfl
  | some y =>
    have := (List.getElem?_eq_some_iff.1 h).1
    simp [this]

section
variable {U : Nat → Prop} {w : World} {a s : Nat} {v : Value} {Fs : Nat → Nat → Prop} {ps : List Nat} {sts : List DSt}
def EachE (U : Nat → Prop) (w : World) (a : Nat) (v : Value) (ps : List Nat) (s : Nat) (sts : List DSt) (g : DSt → DSt) (r : DSt → Int) (e : Ending) (w' : World) : Prop := ∃ ob U' Fs', e = .returned (.slice (some ⟨ob, 0, none⟩) sts.length sts.length) ∧ BoxAt w' ob ((sts.map (fun st => r st == 0)).map Value.bool).toArray ∧ w.heap.size ≤ ob ∧ ¬ U' ob ∧ ArrB U' w' a v Fs' ps s (sts.map g) ∧ (∀ k, U' k → k < w.heap.size → U k) ∧ Keep U w w'
set_option maxRecDepth 100000 in
set_option maxHeartbeats 4000000 in
theorem aeach_any (h : Hid (ArrB U w a v Fs ps s sts)) (hk : 0 < sts.length) (hk2 : sts.length ≤ 600) (f : FuncId) (g : DSt → DSt) (r : DSt → Int)
    (hc : ∀ (i : Nat) (st : DSt), sts[i]? = some st → ∀ (F : Nat → Prop) (p : Nat) (w' : World), Hid (DrvAt F w' p s st) → Calls Tryz.prog f #[.pointer (some ⟨p, 0, none⟩)] w' fun e w'' => e = .returned (.int .i64 (r st)) ∧ Upd F w' w'' p s (g st)) (hcf : ∀ args w, (callFunc f args).run Tryz.prog w = .ok (.enter f args) w) :
    Calls Tryz.prog 73 #[.pointer (some ⟨a, 0, none⟩), .func (.func f) #[] #[]] w fun e w' => EachE U w a v ps s sts g r e w' := by
  have HC := Lib.hid hc
  clear hc
  go_enter Tryz.func73, Tryz.ntmps73
  go_wp2_with fail
  refine (an_any h hk).mono ?_
  rintro e w1 ⟨rfl, t1⟩
  have hmk := makeBoolsL sts.length hk2 w1
  have b1 := BoxAt.new w1 ((List.replicate sts.length false).map Value.bool).toArray 4
  have a1 : Below w1.heap.size w1 (w1.alloc (.cells ((List.replicate sts.length false).map Value.bool).toArray 4)) := (Below.refl _ _).alloc (Nat.le_refl _) _
  obtain ⟨w2, hw2⟩ : ∃ w2, w1.alloc (.cells ((List.replicate sts.length false).map Value.bool).toArray 4) = w2 := ⟨_, rfl⟩
  obtain ⟨ob, hob⟩ : ∃ ob, w1.heap.size = ob := ⟨_, rfl⟩
  rw [hw2] at hmk b1 a1
  have a12 := below_then a1 t1
  have HA := Lib.hid ((h.out.below t1).below a1)
  have HK := Lib.hid (Keep.of_below (F := U) a12)
  have hob1 : w.heap.size ≤ ob := by rw [← hob]; exact t1.size
  have hnU : ¬ U ob := fun hu => by have := h.out.lt ob hu; omega
  rw [hob] at hmk b1
  have HB : Hid (BoxAt w2 ob ((okTo r 0 sts).map Value.bool).toArray) := Lib.hid (by rw [okTo_zero]; exact b1)
  have HA0 : Hid (ArrB U w2 a v Fs ps s (stepTo (fun _ => g) 0 sts)) := Lib.hid (by rw [stepTo_zero]; exact HA.out)
  have hlob : ob < w2.heap.size := b1.lt
  clear b1 a1 a12 t1 hw2 HA hob
  go_wp2_with fail
  clear hmk
  go_loopw [12] (fun vi wr => ∃ (i : Nat) (U' : Nat → Prop) (Fs' : Nat → Nat → Prop), i ≤ sts.length ∧ vi = .int .i64 i ∧ Hid (BoxAt wr ob ((okTo r i sts).map Value.bool).toArray) ∧ ¬ U' ob ∧ Hid (ArrB U' wr a v Fs' ps s (stepTo (fun _ => g) i sts)) ∧ Hid (∀ k, U' k → k < w.heap.size → U k) ∧ Hid (Keep U w wr)) (fun vi _ => sts.length - (intOf vi).toNat)
  case atStart => exact ⟨0, U, Fs, Nat.zero_le _, rfl, HB, hnU, HA0, Lib.hid (fun _ h _ => h), HK⟩
  case round =>
    clear HB HA0 HK hnU hlob
    obtain ⟨wo, rfl⟩ : ∃ wo, wo = wr := ⟨_, rfl⟩
    obtain ⟨i, U', Fs', hi, rfl, B, hn, A, hU, K⟩ := hrel
    by_cases hlt : i < sts.length
    · obtain ⟨st, hst⟩ : ∃ st, sts[i]? = some st := ⟨_, List.getElem?_eq_getElem hlt⟩
      obtain ⟨AA, cc, hv, c0, hcl⟩ := arr_cells A.out
      rw [stepTo_len] at c0 hcl
      obtain ⟨gb, p, st', rfl, hp, hst', cg, hD⟩ := hcl i hlt
      obtain rfl : st' = st := by rw [stepTo_at _ _ _ hst] at hst'; injection hst' with e; exact e.symm
      have h1 : (i : Int) < (sts.length : Int) := by omega
      have h2 : (0 : Int) ≤ (i : Int) := Int.natCast_nonneg _
      have h3 : (i : Int) < 600 := by omega
      have HD := Lib.hid hD
      have HP := Lib.hid hp
      have HST := Lib.hid hst
      clear hcl hD hst' hp hst hv
      go_wp2_with fail
      refine (HC.out i st' HST.out _ p wo HD).mono ?_
      rintro e w3 ⟨rfl, u3⟩
      obtain ⟨U2, Fs2, A2, hU2, K2⟩ := A.out.upd1 HP.out u3
      rw [stepTo_succ _ _ _ HST.out] at A2
      have B2 := B.out.keeps K2 hn
      have z2 := B2.frozen i
      have q2 : ∃ q, w3.cell? ⟨ob, i, none⟩ = some q := by
        rw [B2.cell]
        exact ⟨_, Array.getElem?_eq_getElem (by simp [okTo_len]; exact hlt)⟩
      obtain ⟨q, q2⟩ := q2
      have hlo : ob < wo.heap.size := B.out.lt
      have hn2 : ¬ U2 ob := fun hu => hn (hU2 ob hu hlo)
      have B3 := Lib.hid (B2.set i (.bool (r st' == 0)))
      have A3 := Lib.hid (A2.keep ((Keep.refl (fun k => k = ob) w3).setCell (p := ⟨ob, i, none⟩) (fun _ => rfl) (.bool (r st' == 0))) (fun k hu e => hn2 (e ▸ hu)))
      have K3 := Lib.hid ((K.out.trans (G := U') K2 (fun k hu hlt => hU.out k hu hlt)).setCell (p := ⟨ob, i, none⟩) (fun hlt => by simp only at hlt; omega) (.bool (r st' == 0)))
      have hsz := K.out.size
      have hU3 := Lib.hid (fun k hu (hlt : k < w.heap.size) => hU.out k (hU2 k hu (by omega)) hlt)
      have hB : (((okTo r i sts).map Value.bool).toArray).setIfInBounds i (.bool (r st' == 0)) = ((okTo r (i + 1) sts).map Value.bool).toArray := by
        rw [← okTo_succ r i sts HST.out, List.map_set]; simp
      rw [hB] at B3
      clear c0 cg u3 A2 hU2 K2 B2 hB hsz
      go_wp2_with fail
      exact ⟨⟨i + 1, U2, Fs2, by omega, by go_num, B3, hn2, A3, hU3, K3⟩, by simp [intOf]; omega⟩
    · obtain rfl : i = sts.length := by omega
      have h1 : ¬ (sts.length : Int) < (sts.length : Int) := by omega
      go_wp2_with fail
      go_ret
      rw [okTo_all] at B
      rw [stepTo_all] at A
      refine ⟨ob, U', Fs', rfl, B.out, hob1, hn, ?_, hU.out, K.out⟩
      have := A.out
      rwa [mapIdx_const] at this
def flushG (st : DSt) : DSt := if st.dead = false then st.settle (fun _ => true) else st
theorem flush_exact {F : Nat → Prop} {w : World} {p n : Nat} {st : DSt} (h : Hid (DrvAt F w p n st)) (hcl : st.cache.length < 1000000) :
    Calls Tryz.prog 74 #[.pointer (some ⟨p, 0, none⟩)] w fun e w' => e = .returned (.int .i64 (if st.dead then 90 else 0)) ∧ Upd F w w' p n (flushG st) := by
  unfold flushG
  cases hd : st.dead with
  | false =>
    refine (flush_good h hd hcl).mono ?_
    rintro e w' ⟨rfl, hu⟩
    exact ⟨rfl, hu⟩
  | true =>
    refine (flush_dead h hd).mono ?_
    rintro e w' ⟨rfl, hu⟩
    exact ⟨rfl, h.out.upd hu⟩
set_option maxRecDepth 100000 in
theorem aflush_any {sts : List DSt} (h : Hid (ArrAt U w a s sts)) (hk : 0 < sts.length) (hk2 : sts.length ≤ 600) (hcl : Hid (∀ st ∈ sts, st.cache.length < 1000000)) :
    Calls Tryz.prog 30 #[.pointer (some ⟨a, 0, none⟩)] w fun e w' => e = .returned (.int .i64 (cnt (aliveL sts))) ∧ AUpd U w w' a s (sts.map flushG) := by
  obtain ⟨v, Fs, ps, hB⟩ := h.out
  have HB := Lib.hid hB
  clear hB
  go_enter Tryz.func30, Tryz.ntmps30
  go_wp2_with fail
  refine (aeach_any HB hk hk2 _ flushG (fun st => if st.dead then 90 else 0) (fun i st hst F p w' hD => flush_exact hD (hcl.out st (List.mem_of_getElem? hst))) call_flush).mono ?_
  rintro e w1 ⟨ob, U', Fs', rfl, hbx, hob, hn, hA, hU, hK⟩
  have hal : sts.map (fun st => (if st.dead then (90 : Int) else 0) == 0) = aliveL sts := by
    unfold aliveL
    refine List.map_congr_left (fun st _ => ?_)
    cases st.dead <;> rfl
  rw [hal] at hbx
  have hln : (aliveL sts).length = sts.length := by simp [aliveL]
  have R := BoxAt.bools hbx (S := fun b => b = ob) rfl
  rw [hln] at R
  have HR := Lib.hid R
  have HA := Lib.hid hA
  have HU := Lib.hid hU
  have HK := Lib.hid hK
  clear hal hbx hln R hA hU hK
  go_wp2_with fail
  refine (counted_any HR (by omega)).mono ?_
  rintro e w2 ⟨rfl, t2⟩
  go_wp2_with fail
  go_ret
  exact ⟨rfl, U', ⟨v, Fs', ps, HA.out.below t2⟩, HU.out, HK.out.trans (G := fun _ => False) (Keep.of_below t2) (fun _ h => h.elim)⟩
end
end
section
attribute [local go_sem ↓] run_min_as run_max_as

/-- Bytes, or bools, as they lie in a row. -/
def BytesR (S : Nat → Prop) (w : World) (cs : List Value) (x : List Int) : Prop := ∃ A m c, cs = [.slice A m c] ∧ RdL U8R 1 S w A m x
theorem BytesR.stable : Stable BytesR := by
  rintro S S' w w' cs e ⟨A, m, c, rfl, h⟩ hk
  exact ⟨A, m, c, rfl, h.stable U8R.stable hk⟩
theorem BytesR.one : ∀ S w cs x, BytesR S w cs x → ∀ u ∈ cs, u.oneCell' = true := by
  rintro S w cs x ⟨A, m, c, rfl, _⟩ u hu
  simp at hu
  subst hu; rfl
def BoolsR (S : Nat → Prop) (w : World) (cs : List Value) (x : List Bool) : Prop := ∃ A m c, cs = [.slice A m c] ∧ RdL BoolR 1 S w A m x
theorem BoolsR.stable : Stable BoolsR := by
  rintro S S' w w' cs e ⟨A, m, c, rfl, h⟩ hk
  exact ⟨A, m, c, rfl, h.stable BoolR.stable hk⟩
theorem BoolsR.one : ∀ S w cs x, BoolsR S w cs x → ∀ u ∈ cs, u.oneCell' = true := by
  rintro S w cs x ⟨A, m, c, rfl, _⟩ u hu
  simp at hu
  subst hu; rfl
def kAt (ks : List (List Bool)) (d : Nat) : List Bool := ks.getD d []
section
variable {U : Nat → Prop} {w : World} {a s : Nat} {v : Value} {Fs : Nat → Nat → Prop} {ps : List Nat} {sts : List DSt}
def crashG (ks : List (List Bool)) (d : Nat) (st : DSt) : DSt := st.settle (keepOf (kAt ks d))
end
end
section

/-- A row of bytes of the call's own, each cell still to be set. -/
def RowB (B : Nat) (w : World) (ob k : Nat) (xs : List (List Int)) : Prop := ∃ vs : List Value, BoxAt w ob vs.toArray ∧ vs.length = k ∧ xs.length = k ∧ ∀ (j : Nat) (v : Value) (x : List Int), vs[j]? = some v → xs[j]? = some x → ∃ A m c, v = .slice A m c ∧ RdL U8R 1 (fun b => B ≤ b ∧ b ≠ ob) w A m x
theorem RowB.new (B : Nat) (w : World) (k : Nat) (T : TypeId) : RowB B (w.alloc (.cells (List.replicate k (Value.slice none 0 0)).toArray T)) w.heap.size k (List.replicate k []) := by
  refine ⟨List.replicate k (.slice none 0 0), BoxAt.new _ _ _, by simp, by simp, fun j v x hv hx => ?_⟩
  have h1 := List.eq_of_mem_replicate (List.mem_of_getElem? hv)
  have h2 := List.eq_of_mem_replicate (List.mem_of_getElem? hx)
  subst h1; subst h2
  exact ⟨none, 0, 0, rfl, RdL.nil⟩
theorem RowB.below {B : Nat} {w w' : World} {ob k : Nat} {xs : List (List Int)} (h : RowB B w ob k xs) (hb : Below w.heap.size w w') : RowB B w' ob k xs := by
  obtain ⟨vs, h1, h2, h3, h4⟩ := h
  exact ⟨vs, h1.below hb, h2, h3, fun j v x hv hx => by
    obtain ⟨A, m, c, e, hr⟩ := h4 j v x hv hx
    exact ⟨A, m, c, e, hr.below U8R.stable hb⟩⟩
theorem RowB.set {B : Nat} {w : World} {ob k : Nat} {xs : List (List Int)} (h : RowB B w ob k xs) (j : Nat) {A : Option Addr} {m c : Nat} {x : List Int} (hr : RdL U8R 1 (fun b => B ≤ b ∧ b ≠ ob) w A m x) : RowB B (w.setCell ⟨ob, j, none⟩ (.slice A m c)) ob k (xs.set j x) := by
  obtain ⟨vs, h1, h2, h3, h4⟩ := h
  refine ⟨vs.set j (.slice A m c), ?_, by simp [h2], by simp [h3], fun i v y hv hy => ?_⟩
  · have := h1.set j (.slice A m c)
    simpa using this
  · by_cases hij : j = i
    · subst hij
      have hjl : j < vs.length := by simpa using (List.getElem?_eq_some_iff.1 hv).1
      rw [List.getElem?_set_self hjl] at hv
      rw [List.getElem?_set_self (by omega)] at hy
      injection hv with hv
      injection hy with hy
      subst hv; subst hy
      exact ⟨A, m, c, rfl, hr.setCell U8R.stable (p := ⟨ob, j, none⟩) (fun h => h.2 rfl) _⟩
    · rw [List.getElem?_set_ne hij] at hv hy
      obtain ⟨A', m', c', e, hr'⟩ := h4 i v y hv hy
      exact ⟨A', m', c', e, hr'.setCell U8R.stable (p := ⟨ob, j, none⟩) (fun h => h.2 rfl) _⟩
theorem RowB.rd {B : Nat} {w : World} {ob k : Nat} {xs : List (List Int)} (h : RowB B w ob k xs) (hB : B ≤ ob) : RdL BytesR 1 (B ≤ ·) w (some ⟨ob, 0, none⟩) k xs := by
  obtain ⟨vs, h1, h2, h3, h4⟩ := h
  refine ⟨h3, fun _ => ⟨ob, 0, rfl, hB, h1.lt, fun i x hx => ?_⟩⟩
  have hi : i < vs.length := by rw [h2, ← h3]; exact (List.getElem?_eq_some_iff.1 hx).1
  obtain ⟨A, m, c, e, hr⟩ := h4 i _ x (List.getElem?_eq_getElem hi) hx
  refine ⟨[vs[i]], rfl, ⟨A, m, c, by rw [e], hr.weaken U8R.stable (fun b hb => hb.1)⟩, fun j v hj => ?_⟩
  match j, hj with
  | 0, hj =>
    simp only [List.getElem?_cons_zero, Option.some.injEq] at hj
    subst hj
    rw [h1.cell]
    simp [hi]
section
variable {U : Nat → Prop} {w : World} {a s : Nat} {v : Value} {Fs : Nat → Nat → Prop} {ps : List Nat} {sts : List DSt}
end
end
section

theorem slPtr : SlTy Tryz.prog 130 113 (.pointer none) 1 8 := ⟨Tryz.underlying130, by kernel_rfl, rfl, by omega⟩
section
variable {U : Nat → Prop} {w : World} {a s : Nat} {v : Value} {Fs : Nat → Nat → Prop} {ps : List Nat} {sts : List DSt}
/-- One drive more. -/
theorem ArrB.push (h : ArrB U w a v Fs ps s sts) {u : World} {F : Nat → Prop} {p : Nat} {st : DSt} {vN : Value} (hD : DrvAt F w p s st) (hF : ∀ k, F k → ¬ U k) (hu : w.grownBy u v.ownBlock) (hs : w.heap.size < u.heap.size)
    (own : OwnL PtrR 113 1 0 (fun _ => False) u vN (ps.length + 1) (ps ++ [p])) (hat : vN.ownBlock = v.ownBlock ∨ vN.ownBlock = some (w.heap.size + 1)) :
    ∃ U' Fs', ArrB U' (u.setCell ⟨a, 0, none⟩ vN) a vN Fs' (ps ++ [p]) s (sts ++ [st]) ∧ (∀ k, U' k → k < w.heap.size → U k ∨ F k) ∧ Keep U w (u.setCell ⟨a, 0, none⟩ vN) := by
  have hset : ∀ k, k ≠ a → (u.setCell ⟨a, 0, none⟩ vN).heap[k]? = u.heap[k]? := fun k hk => Below.heap_setCell _ _ _ _ hk
  have hK : Keep (fun k => k = a ∨ v.ownBlock = some k) w (u.setCell ⟨a, 0, none⟩ vN) := ⟨hu.os, hu.tape, hu.output, by simpa using hu.size, fun k hk hg => (hset k (fun e => hg (.inl e))).trans (hu.block k hk (fun e => hg (.inr e.symm)))⟩
  have hla := h.lt a h.ua
  have hN : ∀ k, vN.ownBlock = some k → (v.ownBlock = some k) ∨ k = w.heap.size + 1 := fun k hk => by
    rcases hat with h | h
    · exact .inl (h ▸ hk)
    · rw [h] at hk; injection hk with hk; exact .inr hk.symm
  have hNa : vN.ownBlock ≠ some a := fun e => by
    rcases hN a e with h2 | h2
    · exact h.va h2
    · omega
  have hFlt : ∀ k, F k → k < w.heap.size := fun k hk => hD.lt hk
  refine ⟨fun k => U k ∨ F k ∨ (w.heap.size ≤ k ∧ k < u.heap.size), fun j k => if j = ps.length then F k else Fs j k, ⟨?_, ?_, by simp [h.len], ?_, ?_, hNa, ?_, .inl h.ua, ?_, ?_, ?_⟩, ?_, hK.mono (fun k hk _ => hk.elim (fun e => e ▸ h.ua) (h.uv k))⟩
  · exact (h.box.keep (hu.block a hla (fun e => h.va e.symm))).set 0 vN
  · obtain ⟨css, h1, h2, h3, h4, h5⟩ := own
    rw [show (ps ++ [p]).length = ps.length + 1 by simp]
    exact ⟨css, ownsRow_keep h1 (fun k hk => hset k (fun e => hNa (e ▸ hk))), h2, h3, h4, fun i cs x hc hx => h5 i cs x hc hx⟩
  · intro i q st' h1 h2
    by_cases hi : i = ps.length
    · subst hi
      rw [List.getElem?_append_right (Nat.le_refl _)] at h1
      rw [List.getElem?_append_right (by rw [h.len]; exact Nat.le_refl _), h.len] at h2
      simp only [Nat.sub_self, List.getElem?_cons_zero, Option.some.injEq] at h1 h2
      subst h1; subst h2
      simp only [if_true]
      exact hD.keep hK (fun k hk hg => hF k hk (hg.elim (fun e => e ▸ h.ua) (h.uv k)))
    · have hil : i < ps.length := by
        have := (List.getElem?_eq_some_iff.1 h1).1
        simp at this; omega
      rw [List.getElem?_append_left hil] at h1
      rw [List.getElem?_append_left (by rw [h.len]; exact hil)] at h2
      simp only [if_neg hi]
      exact (h.drv i q st' h1 h2).keep hK (fun k hk hg => hg.elim (h.fx i k hk).1 (h.fx i k hk).2)
  · intro i j k
    by_cases e1 : i = ps.length <;> by_cases e2 : j = ps.length <;> simp only [e1, e2, if_true, if_false]
    · intros; trivial
    · intro hf hg; exact absurd (h.uf j k hg) (hF k hf)
    · intro hf hg; exact absurd (h.uf i k hf) (hF k hg)
    · exact h.apart i j k
  · intro i k
    by_cases e1 : i = ps.length <;> simp only [e1, if_true, if_false]
    · intro hf
      refine ⟨fun e => hF k hf (e ▸ h.ua), fun e => ?_⟩
      have := hFlt k hf
      rcases hN k e with h2 | h2
      · exact hF k hf (h.uv k h2)
      · omega
    · intro hf
      refine ⟨(h.fx i k hf).1, fun e => ?_⟩
      have := h.lt k (h.uf i k hf)
      rcases hN k e with h2 | h2
      · exact (h.fx i k hf).2 h2
      · omega
  · intro k hk
    rcases hN k hk with h2 | h2
    · exact .inl (h.uv k h2)
    · have := (own.lt k hk).2
      exact .inr (.inr ⟨by omega, this⟩)
  · intro i k
    by_cases e1 : i = ps.length <;> simp only [e1, if_true, if_false]
    · intro hf; exact .inr (.inl hf)
    · intro hf; exact .inl (h.uf i k hf)
  · rintro k (hk | hk | hk)
    · have := h.lt k hk; simp; omega
    · have := hFlt k hk; simp; omega
    · simpa using hk.2
  · rintro k (hk | hk | hk) hlt
    · exact .inl hk
    · exact .inr hk
    · omega
/-- An array of no drives yet. -/
theorem ArrB.empty (w : World) (s : Nat) (T : TypeId) : ArrB (fun k => k = w.heap.size) (w.alloc (.cells #[.slice none 0 0] T)) w.heap.size (.slice none 0 0) (fun _ _ => False) [] s [] := by
  refine ⟨BoxAt.new _ _ _, OwnL.nil_, rfl, ?_, ?_, ?_, ?_, rfl, ?_, ?_, ?_⟩
  · intro i p st h1; simp at h1
  · intro i j k h; exact h.elim
  · simp [Value.ownBlock]
  · intro i k h; exact h.elim
  · intro k hk; simp [Value.ownBlock] at hk
  · intro i k h; exact h.elim
  · rintro k rfl; simp
end
set_option maxRecDepth 100000 in
set_option maxHeartbeats 4000000 in
theorem anew_any (k s : Nat) (h1 : 1 ≤ k) (h2 : k ≤ 255) (h3 : 1 ≤ s) (h4 : s ≤ 600) (w : World) :
    Calls Tryz.prog 79 #[.int .i64 k, .int .i64 s] w fun e w' => ∃ a U, e = .returned (.pointer (some ⟨a, 0, none⟩)) ∧ ArrAt U w' a s (List.replicate k (DSt.new s)) ∧ (∀ b, U b → w.heap.size ≤ b) ∧ Below w.heap.size w w' := by
  have d1 : (1 : Int) ≤ k := by omega
  have d2 : (k : Int) ≤ 255 := by omega
  have hE := ArrB.empty w s 132
  have bE : Below w.heap.size w (w.alloc (.cells #[.slice none 0 0] 132)) := (Below.refl _ _).alloc (Nat.le_refl _) _
  obtain ⟨w1, hw1⟩ : ∃ w1, w.alloc (.cells #[.slice none 0 0] 132) = w1 := ⟨_, rfl⟩
  obtain ⟨a, ha⟩ : ∃ a, w.heap.size = a := ⟨_, rfl⟩
  rw [hw1] at hE bE
  rw [ha] at hE
  have HE := Lib.hid hE
  have BE := Lib.hid bE
  have hla : w.heap.size ≤ a := by omega
  clear hE bE
  go_enter Tryz.func79, Tryz.ntmps79
  go_wp2_with fail
  clear hw1 ha
  go_loopw [16] (fun vi wr => ∃ (i : Nat) (U : Nat → Prop) (v : Value) (Fs : Nat → Nat → Prop) (ps : List Nat), i ≤ k ∧ vi = .int .i64 i ∧ Hid (ArrB U wr a v Fs ps s (List.replicate i (DSt.new s))) ∧ Hid (∀ b, U b → w.heap.size ≤ b) ∧ Hid (Below w.heap.size w wr)) (fun vi _ => k - (intOf vi).toNat)
  case atStart => exact ⟨0, _, _, _, _, Nat.zero_le _, rfl, HE, Lib.hid (by rintro b rfl; exact hla), BE⟩
  case round =>
    clear HE BE
    obtain ⟨wo, rfl⟩ : ∃ wo, wo = wr := ⟨_, rfl⟩
    obtain ⟨i, U, v, Fs, ps, hi, rfl, A, hU, K⟩ := hrel
    by_cases hlt : i < k
    · have h5 : (i : Int) < (k : Int) := by omega
      have h6 : (0 : Int) ≤ (i : Int) := Int.natCast_nonneg _
      have h7 : (i : Int) < 600 := by omega
      go_wp2_with fail
      refine (new_good s h3 h4 wo).mono ?_
      rintro e w2 ⟨p, F, rfl, D2, hF2, t2⟩
      have A2 := A.out.below t2
      have hlen := A2.len
      rw [List.length_replicate] at hlen
      obtain ⟨AA, cc, rfl, _⟩ := A2.own.form
      have c0 := A2.box.cell 0
      have z0 := A2.box.frozen 0
      have c0' : w2.cell? ⟨a, 0, none⟩ = some (.slice AA ps.length cc) := c0
      have hown := A2.own
      have hne : some a ≠ (Value.slice AA ps.length cc).ownBlock := fun e => A2.va e.symm
      have HA2 := Lib.hid A2
      have HD2 := Lib.hid D2
      have HF2 := Lib.hid hF2
      have T2 := Lib.hid t2
      clear A2 D2 hF2 t2 c0
      go_wp2_with (at_builtin; go_must (refine wpList_push1 PtrR.stable PtrR.one slPtr (by rfl) (by rfl) (base := 0) (S := fun _ => False) (cs := #[.pointer (some ⟨p, 0, none⟩)]) (y := p) (by rfl) (by rfl) hown (by rfl) (show PtrR _ _ _ p from rfl) (by unfold maxLen; omega) (by omega) (Nat.zero_le _) ?_); intro A11 c11 u11 hc11 own11 hlt11 hb11 hat11; have y0 := cell_far2 c0' u11.ok hne; have y1 := frozen_far2 c0' z0 u11.ok hne)
      obtain ⟨U', Fs', A3, hU3, hK3⟩ := HA2.out.push HD2.out (fun b hf hu => by have := HF2.out b hf; have := A.out.lt b hu; omega) u11.ok hlt11 own11 hat11
      have hsz := K.out.size
      have hs2 := T2.out.size
      refine ⟨⟨i + 1, U', _, Fs', ps ++ [p], by omega, by go_num, Lib.hid (by rw [List.replicate_succ']; exact A3), Lib.hid (fun b hb => ?_), Lib.hid (K.out.trans ((T2.out.mono hsz).trans (hK3.below (by omega) hU.out)))⟩, by simp [intOf]; omega⟩
      by_cases hblt : b < w2.heap.size
      · rcases hU3 b hb hblt with h | h
        · exact hU.out b h
        · have := HF2.out b h; omega
      · omega
    · obtain rfl : i = k := by omega
      have h5 : ¬ (i : Int) < (i : Int) := by omega
      go_wp2_with fail
      go_ret
      exact ⟨a, rfl, U, ⟨v, Fs, ps, A.out⟩, hU.out, K.out⟩
end
section

/-- A builtin's law at a list of operations, as a step of a region that draws its order. -/
theorem step_of_list {P : Program} {ops : Array Oper} {o : Oper} {a : Act} {w : World} {K : Act → World → Prop} {Q : Exit → Act → World → Prop} {X : Prop} (hgd : o.guard = none)
    (h : wpList P ops (fun e a w => e = .normal ∧ K a w) [o] a w) : if Region.wanted o (yielded ops a.tmps) = true then Oper.wp P o a w K Q else X := by
  have hw : Region.wanted o (yielded ops a.tmps) = true := by simp [Region.wanted, hgd]
  rw [if_pos hw]
  unfold wpList at h
  rw [if_pos hw] at h
  rcases h with h | ⟨_, a', w', h, _⟩
  · unfold Oper.wp at h ⊢
    generalize (execOp a.eval o).run P w = r at *
    cases r with
    | ok n w' =>
      cases n <;> simp only [Oper.upon, wpList] at h ⊢
      case value v => exact h.2
      case skip => exact h.2
      case defer d => exact h.2
      case enter f args =>
        refine Calls.mono h fun e w'' he => ?_
        cases e with
        | returned u => exact he.2
        | panicked c => cases he.1
        | outgrown => obtain ⟨_, _, he, _⟩ := he; cases he
      case row row args => exact Rows.mono h fun u w'' he => he.2
    | halt x w' =>
      cases x <;> simp only [Oper.upon] at h ⊢
      case panic v => cases h.1
  · cases h

structure Ev where
  at_ : Int
  b : List Int
  off : Int
  mask : Int
/-- An event. -/
def EvR (S : Nat → Prop) (w : World) (cs : List Value) (e : Ev) : Prop := ∃ A m c, cs = [.int .i64 e.at_, .slice A m c, .int .i64 e.off, .int .u32 e.mask] ∧ RdL U8R 1 S w A m e.b ∧ m ≤ c
theorem EvR.stable : Stable EvR := by
  rintro S S' w w' cs e ⟨A, m, c, rfl, h, hmc⟩ hk
  exact ⟨A, m, c, rfl, h.stable U8R.stable hk, hmc⟩
theorem EvR.one : ∀ S w cs x, EvR S w cs x → ∀ u ∈ cs, u.oneCell' = true := by
  rintro S w cs x ⟨A, m, c, rfl, _⟩ u hu
  simp at hu
  rcases hu with rfl | rfl | rfl | rfl <;> rfl
structure RSt where
  L : List Ev
  wait : List Ev
  gone : Bool

theorem ownL_blocks {X : Type} {R : (Nat → Prop) → World → List Value → X → Prop} {E : TypeId} {s base : Nat} {S : Nat → Prop} {w w' : World} {v : Value} {n : Nat} {xs : List X} (hR : Stable R) (h : OwnL R E s base S w v n xs)
    (hv : ∀ k, v.ownBlock = some k → w'.heap[k]? = w.heap[k]?) (hS : ∀ b, S b → w'.heap[b]? = w.heap[b]?) : OwnL R E s base S w' v n xs := by
  obtain ⟨css, h1, h2, h3, h4, h5⟩ := h
  exact ⟨css, ownsRow_keep h1 hv, h2, h3, h4, fun i cs x hc hx => hR _ _ _ _ _ _ (h5 i cs x hc hx) fun b hb _ => ⟨hb, hS b hb.1⟩⟩
def RSt.new : RSt := ⟨[], [], false⟩
end
section

section
variable {U : Nat → Prop} {w : World} {a s : Nat} {v : Value} {Fs : Nat → Nat → Prop} {ps : List Nat} {sts : List DSt}
end
end
section

section
variable {U : Nat → Prop} {w : World} {a s : Nat} {v : Value} {Fs : Nat → Nat → Prop} {ps : List Nat} {sts : List DSt}
set_option maxRecDepth 100000 in
theorem asectors_any (h : Hid (ArrB U w a v Fs ps s sts)) (hk : 0 < sts.length) :
    Calls Tryz.prog 138 #[.pointer (some ⟨a, 0, none⟩)] w fun e w' => e = .returned (.int .i64 s) ∧ Below w.heap.size w w' := by
  obtain ⟨st, hst⟩ : ∃ st, sts[0]? = some st := ⟨_, List.getElem?_eq_getElem hk⟩
  obtain ⟨p, hp, hD, hd⟩ := h.out.p_at hst
  have HD := Lib.hid hD
  have HC := aat_in h 0 hd hp
  clear hD
  go_enter Tryz.func138, Tryz.ntmps138
  go_wp2_with fail
  refine HC.mono ?_
  rintro e w1 ⟨rfl, t1⟩
  have T1 := Lib.hid t1
  clear t1
  go_wp2_with fail
  obtain ⟨sb, sc, rb, rc, A, cc, mb, H⟩ := (HD.out.below T1.out).box
  refine (sectors_any H).mono ?_
  rintro e w2 ⟨rfl, t2⟩
  go_wp2_with fail
  go_ret
  exact ⟨rfl, T1.out.trans (t2.mono T1.out.size)⟩
end
end
section

theorem once_disable (w : World) : (callFunc 268 #[]).run Tryz.prog w = .ok (.value (.tuple #[])) w := run_call_mark0 Tryz.func268 (by kernel_rfl) (by kernel_rfl) (by kernel_rfl) .disable (by kernel_rfl) w
theorem once_enable (w : World) : (callFunc 270 #[]).run Tryz.prog w = .ok (.value (.tuple #[])) w := run_call_mark0 Tryz.func270 (by kernel_rfl) (by kernel_rfl) (by kernel_rfl) .enable (by kernel_rfl) w
theorem once_acquire (a : Addr) (w : World) : (callFunc 271 #[.pointer (some a)]).run Tryz.prog w = .ok (.value (.tuple #[])) w := run_call_marked Tryz.func271 (by kernel_rfl) (by kernel_rfl) (by kernel_rfl) .acquire (by kernel_rfl) a w
theorem once_merge (a : Addr) (w : World) : (callFunc 273 #[.pointer (some a)]).run Tryz.prog w = .ok (.value (.tuple #[])) w := run_call_marked Tryz.func273 (by kernel_rfl) (by kernel_rfl) (by kernel_rfl) .releaseMerge (by kernel_rfl) a w

theorem once_load {a : Addr} {x : Int} {w : World} (h : w.cell? a = some (.int .u32 x)) : (callFunc 255 #[.pointer (some a)]).run Tryz.prog w = .ok (.value (.int .u32 x)) w :=
  run_call_load (P := Tryz.prog) Tryz.func255 (by kernel_rfl) (by kernel_rfl) (by kernel_rfl) .u32 (by kernel_rfl) h

set_option maxRecDepth 100000 in
set_option maxHeartbeats 1600000 in
/-- '(*sync/atomic.Bool).Store(true)', entered as a deferred call: the cell holds 1. -/
theorem store_deferred (a : Addr) (x : Value) (u : FrameMode) (w : World) (hc : w.cell? a = some x) (hz : w.frozen? a = false) :
    CallsD Tryz.prog 258 #[.pointer (some a), .bool true] u w fun e u' w' => u' = u ∧ (e = .returned (.tuple #[]) ∧ w' = w.drew.setCell a (.int .u32 1)) := by
  have hc' : w.drew.cell? a = some x := by go_simp
  have hz' : w.drew.frozen? a = false := by go_simp
  have hst := run_call_store (P := Tryz.prog) Tryz.func264 (by kernel_rfl) (by kernel_rfl) (by kernel_rfl) (by kernel_rfl) (k := .u32) (y := 1) hc' hz'
  go_enter_d Tryz.func258, Tryz.ntmps258
  go_wp2
  go_region_calls
  all_goals (go_end0; exact ⟨rfl, rfl⟩)

set_option maxRecDepth 100000 in
set_option maxHeartbeats 1600000 in
/-- '(*sync.Mutex).Unlock', entered as a deferred call, the lock held and nobody waiting (state 1): state 0. -/
theorem unlock_deferred (a : Addr) (u : FrameMode) (w : World) (hc : w.cell? a = some (.int .i32 1)) (hz : w.frozen? a = false) :
    CallsD Tryz.prog 257 #[.pointer (some a)] u w fun e u' w' => u' = u ∧ (e = .returned (.tuple #[]) ∧ w' = w.setCell a (.int .i32 0)) := by
  have hd := once_disable
  have he := once_enable
  have hr := once_merge
  have hadd := run_call_add (P := Tryz.prog) Tryz.func274 (by kernel_rfl) (by kernel_rfl) (by kernel_rfl) .i32 (by kernel_rfl) (y := -1) (s := 0) hc hz (by simp [go_sem]; rfl)
  have hcv := run_convert_to_unsafe (P := Tryz.prog) (src := 342) (dst := 346) Tryz.underlying342 Tryz.underlying346 (by kernel_rfl) hc
  go_enter_d Tryz.func257, Tryz.ntmps257
  go_wp2
  go_end0
  go_wp2
  go_end0
  exact ⟨rfl, rfl⟩

set_option maxRecDepth 100000 in
set_option maxHeartbeats 1600000 in
/-- '(*sync.Mutex).Lock', the lock free (state 0): state 1. -/
theorem lock_free (a : Addr) (w : World) (hc : w.cell? a = some (.int .i32 0)) (hz : w.frozen? a = false) :
    Calls Tryz.prog 256 #[.pointer (some a)] w fun e w' => e = .returned (.tuple #[]) ∧ w' = w.setCell a (.int .i32 1) := by
  have hd := once_disable
  have he := once_enable
  have ha := once_acquire
  have hcas := run_call_cas_hit (P := Tryz.prog) Tryz.func269 (by kernel_rfl) (by kernel_rfl) (by kernel_rfl) .i32 (by kernel_rfl) (y := 1) hc hz
  have hc' : (w.setCell a (.int .i32 1)).cell? a = some (.int .i32 1) := World.cell?_setCell_same w a _ hc
  have hcv := run_convert_to_unsafe (P := Tryz.prog) (src := 342) (dst := 346) Tryz.underlying342 Tryz.underlying346 (by kernel_rfl) hc'
  go_enter Tryz.func256, Tryz.ntmps256
  go_wp2
  first | go_end0 | (simp only [Exit.inBlock, Exit.then]; refine bodyPost_ret (results_none rfl _ _ _) rfl ?_) | refine bodyPost_ret (results_none rfl _ _ _) rfl ?_
  go_wp2
  go_end0
  exact ⟨rfl, rfl⟩

end
section

/-- '(*sync/atomic.Bool).Load'. -/
theorem bool_load {a : Addr} {x : Int} {w : World} (h : w.cell? a = some (.int .u32 x)) : Calls Tryz.prog 245 #[.pointer (some a)] w fun e w' => e = .returned (.bool (x != 0)) ∧ w' = w := by
  have hl := once_load h
  go_enter Tryz.func245, Tryz.ntmps245
  go_wp2_with fail
  go_ret
  exact ⟨rfl, rfl⟩
set_option maxRecDepth 100000 in
set_option maxHeartbeats 1600000 in
/-- '(*sync.Once).doSlow', not yet done and the lock free: the function is called under the lock. -/
theorem slow_any {b : Nat} {g : FuncId} {pre : Array Value} {R : World → Prop} {w : World} (h0 : w.cell? ⟨b, 0, none⟩ = some (.int .u32 0)) (h1 : w.cell? ⟨b, 1, none⟩ = some (.int .i32 0))
    (f0 : w.frozen? ⟨b, 0, none⟩ = false) (f1 : w.frozen? ⟨b, 1, none⟩ = false) (hg : ∀ args w, (callFunc g args).run Tryz.prog w = .ok (.enter g args) w)
    (hF : Hid (Calls Tryz.prog g pre (w.setCell ⟨b, 1, none⟩ (.int .i32 1)) fun e w' => e = .returned (.tuple #[]) ∧ R w'))
    (hR : Hid (∀ w', R w' → w'.cell? ⟨b, 0, none⟩ = some (.int .u32 0) ∧ w'.cell? ⟨b, 1, none⟩ = some (.int .i32 1) ∧ w'.frozen? ⟨b, 0, none⟩ = false ∧ w'.frozen? ⟨b, 1, none⟩ = false)) :
    Calls Tryz.prog 246 #[.pointer (some ⟨b, 0, none⟩), .func (.func g) pre #[]] w fun e w' => e = .returned (.tuple #[]) ∧
      ∃ w2, R w2 ∧ w' = (w2.drew.setCell ⟨b, 0, none⟩ (.int .u32 1)).setCell ⟨b, 1, none⟩ (.int .i32 0) := by
  have hL := bool_load (w := w.setCell ⟨b, 1, none⟩ (.int .i32 1)) (a := ⟨b, 0, none⟩) (x := 0) ((World.cell?_setCell_other _ ⟨b, 1, none⟩ ⟨b, 0, none⟩ _ (by simp)).trans h0)
  have hnot : ∀ (x : Bool) (w : World), (Op.unary .not (.bool x)).run Tryz.prog w = .ok (.bool (!x)) w := fun _ _ => rfl
  go_enter_defers Tryz.func246, Tryz.ntmps246
  go_wp2_with (first | (go_at_call 256; refine (lock_free ⟨b, 1, none⟩ _ (by go_simp) (by go_simp)).mono ?_; rintro e w' ⟨rfl, rfl⟩) | (go_at_call 245; refine hL.mono ?_; rintro e w' ⟨rfl, rfl⟩))
  refine hF.out.mono ?_
  rintro e w2 ⟨rfl, hr⟩
  obtain ⟨r0, r1, r2, r3⟩ := hR.out w2 hr
  have HR := Lib.hid hr
  clear hF hR hr hL
  go_wp2_with fail
  refine leaves_cons (f := 258) (args := #[.pointer (some ⟨b, 0, none⟩), .bool true]) (by simp) (by simp [go_sem]) ?_
  refine (store_deferred ⟨b, 0, none⟩ (.int .u32 0) .returning _ r0 r2).mono ?_
  rintro e u' w'' ⟨rfl, rfl, rfl⟩
  refine leaves_cons (f := 257) (args := #[.pointer (some ⟨b, 1, none⟩)]) (by simp [settle]) (by simp [go_sem]) ?_
  refine (unlock_deferred ⟨b, 1, none⟩ _ _ ?_ (by simp [r3])).mono ?_
  · refine (World.cell?_setCell_other _ ⟨b, 0, none⟩ ⟨b, 1, none⟩ _ (by simp)).trans ?_
    rw [World.cell?_drew]; exact r1
  rintro e u' w'' ⟨rfl, rfl, rfl⟩
  have hw : ∃ w3, R w3 ∧ (w2.drew.setCell ⟨b, 0, none⟩ (.int .u32 1)).setCell ⟨b, 1, none⟩ (.int .i32 0) = (w3.drew.setCell ⟨b, 0, none⟩ (.int .u32 1)).setCell ⟨b, 1, none⟩ (.int .i32 0) := ⟨w2, HR.out, rfl⟩
  have HW := Lib.hid hw
  simp [Leaves, settle, results, Tryz.results246]
  exact HW.out
set_option maxRecDepth 100000 in
set_option maxHeartbeats 1600000 in
/-- '(*sync.Once).Do', not yet done, the lock free. -/
theorem do_first {b : Nat} {g : FuncId} {pre : Array Value} {R : World → Prop} {w : World} (h0 : w.cell? ⟨b, 0, none⟩ = some (.int .u32 0)) (h1 : w.cell? ⟨b, 1, none⟩ = some (.int .i32 0))
    (f0 : w.frozen? ⟨b, 0, none⟩ = false) (f1 : w.frozen? ⟨b, 1, none⟩ = false) (hg : ∀ args w, (callFunc g args).run Tryz.prog w = .ok (.enter g args) w)
    (hF : Hid (Calls Tryz.prog g pre (w.setCell ⟨b, 1, none⟩ (.int .i32 1)) fun e w' => e = .returned (.tuple #[]) ∧ R w'))
    (hR : Hid (∀ w', R w' → w'.cell? ⟨b, 0, none⟩ = some (.int .u32 0) ∧ w'.cell? ⟨b, 1, none⟩ = some (.int .i32 1) ∧ w'.frozen? ⟨b, 0, none⟩ = false ∧ w'.frozen? ⟨b, 1, none⟩ = false)) :
    Calls Tryz.prog 230 #[.pointer (some ⟨b, 0, none⟩), .func (.func g) pre #[]] w fun e w' => e = .returned (.tuple #[]) ∧
      ∃ w2, R w2 ∧ w' = (w2.drew.setCell ⟨b, 0, none⟩ (.int .u32 1)).setCell ⟨b, 1, none⟩ (.int .i32 0) := by
  have hL := bool_load h0
  have hS := Lib.hid (slow_any h0 h1 f0 f1 hg hF hR)
  have hnot : ∀ (x : Bool) (w : World), (Op.unary .not (.bool x)).run Tryz.prog w = .ok (.bool (!x)) w := fun _ _ => rfl
  clear hF hR hg
  go_enter Tryz.func230, Tryz.ntmps230
  go_wp2_with (first | (go_at_call 245; refine hL.mono ?_; rintro e w' ⟨rfl, rfl⟩) | (go_at_call 246; refine hS.out.mono ?_; rintro e w' ⟨rfl, hx⟩; have HX := Lib.hid hx; clear hx hS hL))
  go_end0
  exact ⟨rfl, HX.out⟩
set_option maxRecDepth 100000 in
/-- '(*sync.Once).Do', done already: the function is not called. -/
theorem do_done {a : Addr} {d : Int} (hd : ¬ d = 0) (fv : Value) {w : World} (h0 : w.cell? a = some (.int .u32 d)) :
    Calls Tryz.prog 230 #[.pointer (some a), fv] w fun e w' => e = .returned (.tuple #[]) ∧ w' = w := by
  have hL := bool_load h0
  have hnot : ∀ (x : Bool) (w : World), (Op.unary .not (.bool x)).run Tryz.prog w = .ok (.bool (!x)) w := fun _ _ => rfl
  have hd' : (d != 0) = true := by simp [hd]
  go_enter Tryz.func230, Tryz.ntmps230
  go_wp2_with (go_at_call 245; refine hL.mono ?_; rintro e w' ⟨rfl, rfl⟩)
  go_end0
  exact ⟨rfl, rfl⟩
end
section

/-- Times x. -/
def xt (a : Nat) : Nat := if 2 * a < 256 then 2 * a else (2 * a) ^^^ 285
def xtn : Nat → Nat → Nat
  | 0, a => a
  | n + 1, a => xt (xtn n a)
def ex (i : Nat) : Nat := xtn i 1
def lgFrom (a : Nat) : Nat → Nat → Nat
  | 0, i => i
  | n + 1, i => if ex i = a then i else lgFrom a n (i + 1)
def lg (a : Nat) : Nat := lgFrom a 255 0
def gm (a b : Nat) : Nat := if a = 0 ∨ b = 0 then 0 else ex (lg a + lg b)
theorem xt_lt {a : Nat} (h : a < 256) : xt a < 256 := by
  have : ∀ a : Fin 256, xt a.1 < 256 := by decide +kernel
  exact this ⟨a, h⟩
theorem xt_xor {a b : Nat} (ha : a < 256) (hb : b < 256) : xt (a ^^^ b) = xt a ^^^ xt b := by
  have : ∀ a b : Fin 256, xt (a.1 ^^^ b.1) = xt a.1 ^^^ xt b.1 := by decide +kernel
  exact this ⟨a, ha⟩ ⟨b, hb⟩
theorem xtn_lt {a : Nat} (h : a < 256) : ∀ n, xtn n a < 256
  | 0 => h
  | n + 1 => xt_lt (xtn_lt h n)
theorem xor_lt {a b : Nat} (ha : a < 256) (hb : b < 256) : a ^^^ b < 256 := Nat.xor_lt_two_pow (n := 8) ha hb
theorem xtn_xor {a b : Nat} (ha : a < 256) (hb : b < 256) : ∀ n, xtn n (a ^^^ b) = xtn n a ^^^ xtn n b
  | 0 => rfl
  | n + 1 => by
    show xt (xtn n (a ^^^ b)) = _
    rw [xtn_xor ha hb n, xt_xor (xtn_lt ha n) (xtn_lt hb n)]; rfl
theorem xtn_add (a m : Nat) : ∀ n, xtn (n + m) a = xtn n (xtn m a)
  | 0 => by rw [Nat.zero_add]; rfl
  | n + 1 => by rw [Nat.succ_add]; show xt (xtn (n + m) a) = _; rw [xtn_add a m n]; rfl
theorem xtn_zero : ∀ n, xtn n 0 = 0
  | 0 => rfl
  | n + 1 => by show xt (xtn n 0) = 0; rw [xtn_zero n]; rfl
theorem ex_255 : ex 255 = 1 := by decide +kernel
theorem ex_lg {a : Nat} (h0 : a ≠ 0) (h : a < 256) : ex (lg a) = a ∧ lg a < 255 := by
  have : ∀ a : Fin 256, a.1 ≠ 0 → ex (lg a.1) = a.1 ∧ lg a.1 < 255 := by decide +kernel
  exact this ⟨a, h⟩ h0
theorem ex_add (i j : Nat) : ex (i + j) = xtn i (ex j) := xtn_add 1 j i
theorem ex_period (i : Nat) : ex (i + 255) = ex i := by rw [ex_add, ex_255]; rfl
theorem ex_lt (i : Nat) : ex i < 256 := xtn_lt (by decide) i
/-- Times a is so many times x. -/
theorem gm_eq {a b : Nat} (ha : a ≠ 0) (hb : b < 256) : gm a b = xtn (lg a) b := by
  unfold gm
  by_cases h : b = 0
  · subst h; rw [if_pos (.inr rfl), xtn_zero]
  · rw [if_neg (by omega), ex_add, (ex_lg h hb).1]
theorem gm_zero (a : Nat) : gm a 0 = 0 := by unfold gm; rw [if_pos (.inr rfl)]
theorem gm_comm (a b : Nat) : gm a b = gm b a := by
  unfold gm
  rw [Nat.add_comm]
  by_cases h : a = 0 ∨ b = 0
  · rw [if_pos h, if_pos h.symm]
  · rw [if_neg h, if_neg (fun h2 => h h2.symm)]
theorem gm_lt {a b : Nat} : gm a b < 256 := by
  unfold gm
  split
  · omega
  · exact ex_lt _
theorem gm_xor {a b c : Nat} (hb : b < 256) (hc : c < 256) : gm a (b ^^^ c) = gm a b ^^^ gm a c := by
  by_cases h : a = 0
  · subst h; unfold gm; simp
  · rw [gm_eq h (xor_lt hb hc), gm_eq h hb, gm_eq h hc, xtn_xor hb hc]
end
section

theorem ex_mod (i : Nat) : ex i = ex (i % 255) := by
  have h : ∀ q r, ex (r + 255 * q) = ex r := by
    intro q
    induction q with
    | zero => intro r; rfl
    | succ q ih => intro r; rw [show r + 255 * (q + 1) = (r + 255 * q) + 255 by omega, ex_period, ih]
  have := h (i / 255) (i % 255)
  rw [show i % 255 + 255 * (i / 255) = i from Nat.mod_add_div i 255] at this
  exact this
theorem lg_ex_lt {i : Nat} (h : i < 255) : lg (ex i) = i := by
  have : ∀ i : Fin 255, lg (ex i.1) = i.1 := by decide +kernel
  exact this ⟨i, h⟩
theorem lg_ex (i : Nat) : lg (ex i) = i % 255 := by rw [ex_mod, lg_ex_lt (Nat.mod_lt _ (by decide))]
theorem ex_ne (i : Nat) : ex i ≠ 0 := by
  rw [ex_mod]
  have : ∀ i : Fin 255, ex i.1 ≠ 0 := by decide +kernel
  exact this ⟨i % 255, Nat.mod_lt _ (by decide)⟩
theorem ex_congr {i j : Nat} (h : i % 255 = j % 255) : ex i = ex j := by rw [ex_mod i, h, ← ex_mod]
theorem gm_ne {a b : Nat} (ha : a ≠ 0) (hb : b ≠ 0) : gm a b ≠ 0 := by
  unfold gm
  rw [if_neg (by omega)]
  exact ex_ne _
theorem gm_assoc (a b c : Nat) : gm (gm a b) c = gm a (gm b c) := by
  by_cases ha : a = 0
  · subst ha; simp [gm]
  by_cases hb : b = 0
  · subst hb; simp [gm]
  by_cases hc : c = 0
  · subst hc; simp [gm]
  have h1 : gm a b = ex (lg a + lg b) := by unfold gm; rw [if_neg (by omega)]
  have h2 : gm b c = ex (lg b + lg c) := by unfold gm; rw [if_neg (by omega)]
  rw [h1, h2]
  have n1 := ex_ne (lg a + lg b)
  have n2 := ex_ne (lg b + lg c)
  unfold gm
  rw [if_neg (by omega), if_neg (by omega), lg_ex, lg_ex]
  exact ex_congr (by omega)
theorem lg_one : lg 1 = 0 := by decide +kernel
theorem gm_one {b : Nat} (hb : b < 256) : gm 1 b = b := by rw [gm_eq (by decide) hb, lg_one]; rfl
/-- One by a number. -/
def inv (a : Nat) : Nat := ex (255 - lg a)
theorem gm_inv {a : Nat} (h0 : a ≠ 0) (h : a < 256) : gm a (inv a) = 1 := by
  have h1 := (ex_lg h0 h).2
  have n1 := ex_ne (255 - lg a)
  unfold gm inv
  rw [if_neg (by omega), lg_ex]
  rw [show ex (lg a + (255 - lg a) % 255) = ex 255 from ex_congr (by omega), ex_255]
theorem gm_cancel {a b c : Nat} (h0 : a ≠ 0) (h : a < 256) (hb : b < 256) (hc : c < 256) (e : gm a b = gm a c) : b = c := by
  have h1 : gm (inv a) (gm a b) = gm (inv a) (gm a c) := by rw [e]
  rw [← gm_assoc, ← gm_assoc, gm_comm (inv a) a, gm_inv h0 h, gm_one hb, gm_one hc] at h1
  exact h1
end
section

/-- A field with its tables. -/
structure Fld (w : World) (b : Nat) : Prop where
  lt : b < w.heap.size
  don : w.cell? ⟨b, 0, none⟩ = some (.int .u32 1)
  made : w.cell? ⟨b, 3, none⟩ = some (.bool true)
  exp : ∀ i, i < 510 → w.cell? ⟨b, 4 + i, none⟩ = some (.int .u8 (ex i))
  log : ∀ x, x ≠ 0 → x < 256 → w.cell? ⟨b, 514 + x, none⟩ = some (.int .i64 (lg x))
theorem Fld.keep {w w' : World} {b : Nat} (h : Fld w b) (hb : w'.heap[b]? = w.heap[b]?) : Fld w' b where
  lt := Go.Cib.lt_of_block h.lt hb
  don := (World.cell?_of_block (a := ⟨b, 0, none⟩) hb).trans h.don
  made := (World.cell?_of_block (a := ⟨b, 3, none⟩) hb).trans h.made
  exp i hi := (World.cell?_of_block (a := ⟨b, 4 + i, none⟩) hb).trans (h.exp i hi)
  log x h0 hx := (World.cell?_of_block (a := ⟨b, 514 + x, none⟩) hb).trans (h.log x h0 hx)
theorem Fld.below {w w' : World} {b : Nat} (h : Fld w b) (hb : Below w.heap.size w w') : Fld w' b := h.keep (hb.block b h.lt)

/-- While they are filled: i powers are there. -/
structure FillI (w : World) (b i : Nat) (cs : Array Value) : Prop where
  box : BoxAt w b cs
  don : cs[0]? = some (.int .u32 0)
  lock : cs[1]? = some (.int .i32 1)
  made : cs[3]? = some (.bool true)
  size : cs.size = 770
  exp : ∀ j, j < i → cs[4 + j]? = some (.int .u8 (ex j)) ∧ cs[4 + (j + 255)]? = some (.int .u8 (ex j))
  log : ∀ j, j < i → cs[514 + ex j]? = some (.int .i64 j)
theorem set_ne {cs : Array Value} {o o' : Nat} {v : Value} (h : o ≠ o') : (cs.setIfInBounds o v)[o']? = cs[o']? := by rw [Array.getElem?_setIfInBounds, if_neg h]
theorem set_eq {cs : Array Value} {o : Nat} {v : Value} (h : o < cs.size) : (cs.setIfInBounds o v)[o]? = some v := by rw [Array.getElem?_setIfInBounds, if_pos rfl, if_pos h]
theorem FillI.next {w : World} {b i : Nat} {cs : Array Value} (h : FillI w b i cs) (hi : i < 255) :
    FillI (((w.setCell ⟨b, 4 + i, none⟩ (.int .u8 (ex i))).setCell ⟨b, 4 + (i + 255), none⟩ (.int .u8 (ex i))).setCell ⟨b, 514 + ex i, none⟩ (.int .i64 i)) b (i + 1)
      (((cs.setIfInBounds (4 + i) (.int .u8 (ex i))).setIfInBounds (4 + (i + 255)) (.int .u8 (ex i))).setIfInBounds (514 + ex i) (.int .i64 i)) := by
  have he := ex_lt i
  have hs := h.size
  refine ⟨((h.box.set _ _).set _ _).set _ _, ?_, ?_, ?_, ?_, fun j hj => ?_, fun j hj => ?_⟩
  · rw [set_ne (by omega), set_ne (by omega), set_ne (by omega)]; exact h.don
  · rw [set_ne (by omega), set_ne (by omega), set_ne (by omega)]; exact h.lock
  · rw [set_ne (by omega), set_ne (by omega), set_ne (by omega)]; exact h.made
  · simp [hs]
  · rw [set_ne (by omega), set_ne (o := 514 + ex i) (by omega)]
    by_cases e : j = i
    · subst e
      refine ⟨?_, ?_⟩
      · rw [set_ne (by omega), set_eq (by omega)]
      · rw [set_eq (by simp [hs]; omega)]
    · obtain ⟨h1, h2⟩ := h.exp j (by omega)
      refine ⟨?_, ?_⟩
      · rw [set_ne (by omega), set_ne (by omega)]; exact h1
      · rw [set_ne (by omega), set_ne (by omega)]; exact h2
  · by_cases e : j = i
    · subst e
      rw [set_eq (by simp [hs]; omega)]
    · have hne : ex i ≠ ex j := fun h2 => e (by
        have h3 := congrArg lg h2
        rw [lg_ex_lt hi, lg_ex_lt (by omega)] at h3
        exact h3.symm)
      have hj2 := ex_lt j
      rw [set_ne (by omega), set_ne (by omega), set_ne (by omega)]
      exact h.log j (by omega)

theorem FillI.drew {w : World} {b i : Nat} {cs : Array Value} (h : FillI w b i cs) : FillI w.drew b i cs := ⟨h.box.keep rfl, h.don, h.lock, h.made, h.size, h.exp, h.log⟩
theorem keep_drew {F : Nat → Prop} {a w : World} (h : Keep F a w) : Keep F a w.drew := h.trans (G := fun _ => False) (Keep.of_below ((Below.refl _ _).drew)) (fun _ h => h.elim)
theorem xt_bits {a : Nat} (h : ¬ 2 * a < 256) (ha : a < 256) : bits .xor .i64 ((a : Int) * 2) 285 = (xt a : Int) := by
  have : ∀ a : Fin 256, ¬ 2 * a.1 < 256 → bits .xor .i64 ((a.1 : Int) * 2) 285 = (xt a.1 : Int) := by decide +kernel
  exact this ⟨a, ha⟩ h
set_option maxRecDepth 100000 in
set_option maxHeartbeats 4000000 in
theorem fill_any {w : World} {b : Nat} {cs : Array Value} (h : FillI w b 0 cs) :
    Calls Tryz.prog 231 #[.pointer (some ⟨b, 0, none⟩)] w fun e w' => e = .returned (.tuple #[]) ∧ (∃ cs', FillI w' b 255 cs') ∧ Keep (· = b) w w' := by
  have HI := Lib.hid h
  clear h
  go_enter Tryz.func231, Tryz.ntmps231
  go_wp2_with fail
  go_loopw [2, 4] (fun x vi wr => ∃ (k : Nat) (cs' : Array Value), k ≤ 255 ∧ vi = .int .i64 k ∧ x = .int .i64 (ex k) ∧ Hid (FillI wr b k cs') ∧ Hid (Keep (· = b) w wr)) (fun _ vi _ => 255 - (intOf vi).toNat)
  case atStart => exact ⟨0, cs, by omega, rfl, rfl, HI, Lib.hid (Keep.refl _ _)⟩
  case round =>
    obtain ⟨k, cs', hk, rfl, rfl, HF, HK⟩ := hrel
    by_cases hlt : k < 255
    · have q1 : (k : Int) < 255 := by omega
      have q2 : (0 : Int) ≤ k := Int.natCast_nonneg _
      have he := ex_lt k
      have q3 : IntKind.u8.wrap (ex k : Int) = (ex k : Int) := by rw [IntKind.wrap_u8]; omega
      have q4 : (0 : Int) ≤ (ex k : Int) := Int.natCast_nonneg _
      have q5 : (ex k : Int) < 256 := by omega
      have q6 : IntKind.i64.wrap ((k : Int) + 255) = (k : Int) + 255 := by rw [IntKind.wrap_i64]; omega
      have q7 : ((k : Int) + 255).toNat = k + 255 := by omega
      have hs := HF.out.size
      obtain ⟨v1, hv1⟩ : ∃ v1, cs'[4 + k]? = some v1 := ⟨_, Array.getElem?_eq_getElem (by omega)⟩
      obtain ⟨v2, hv2⟩ : ∃ v2, cs'[4 + (k + 255)]? = some v2 := ⟨_, Array.getElem?_eq_getElem (by omega)⟩
      obtain ⟨v3, hv3⟩ : ∃ v3, cs'[514 + ex k]? = some v3 := ⟨_, Array.getElem?_eq_getElem (by omega)⟩
      have c1 := (HF.out.box.cell (4 + k)).trans hv1
      have c2 := (HF.out.box.cell (4 + (k + 255))).trans hv2
      have c3 := (HF.out.box.cell (514 + ex k)).trans hv3
      have f1 := HF.out.box.frozen (4 + k)
      have f2 := HF.out.box.frozen (4 + (k + 255))
      have f3 := HF.out.box.frozen (514 + ex k)
      clear hs hv1 hv2 hv3
      go_wp2_with fail
      have r1 : (k : Int) < 510 := by omega
      have r2 : (k : Int) + 255 < 510 := by omega
      have r3 : (0 : Int) ≤ (k : Int) + 255 := by omega
      go_region_held3 (fun w' => True) (trivial) (fail)
      clear r1 r2 r3
      have r4 : IntKind.i64.wrap ((ex k : Int) * 2) = (ex k : Int) * 2 := by rw [IntKind.wrap_i64]; omega
      by_cases hx : 2 * ex k < 256
      · have r5 : ¬ (ex k : Int) * 2 ≥ 256 := by omega
        have r6 : (ex k : Int) * 2 = (ex (k + 1) : Int) := by
          show _ = ((xt (ex k) : Nat) : Int)
          unfold xt
          rw [if_pos hx]; omega
        have HX := Lib.hid r6
        clear r6
        go_wp2_with fail
        exact ⟨⟨k + 1, _, by omega, by go_num, by rw [HX.out], Lib.hid (HF.out.next hlt).drew, Lib.hid (keep_drew (((HK.out.setCell (fun _ => rfl) _).setCell (fun _ => rfl) _).setCell (fun _ => rfl) _))⟩, by simp [intOf]; omega⟩
      · have r5 : (ex k : Int) * 2 ≥ 256 := by omega
        have r6 : bits .xor .i64 ((ex k : Int) * 2) 285 = (ex (k + 1) : Int) := xt_bits hx he
        have HX := Lib.hid r6
        clear r6
        go_wp2_with fail
        exact ⟨⟨k + 1, _, by omega, by go_num, by rw [HX.out], Lib.hid (HF.out.next hlt).drew, Lib.hid (keep_drew (((HK.out.setCell (fun _ => rfl) _).setCell (fun _ => rfl) _).setCell (fun _ => rfl) _))⟩, by simp [intOf]; omega⟩
    · obtain rfl : k = 255 := by omega
      go_wp2_with fail
      go_end0
      exact ⟨rfl, ⟨_, HF.out⟩, HK.out⟩

/-- A field at its beginning. -/
structure FldNew (w : World) (b : Nat) : Prop where
  ex : ∃ cs : Array Value, BoxAt w b cs ∧ cs.size = 770 ∧ cs[0]? = some (.int .u32 0) ∧ cs[1]? = some (.int .i32 0) ∧ cs[3]? = some (.bool true)
theorem FldNew.fill {w : World} {b : Nat} (h : FldNew w b) : ∃ cs, FillI (w.setCell ⟨b, 1, none⟩ (.int .i32 1)) b 0 cs := by
  obtain ⟨cs, hb, h1, h2, h3, h4⟩ := h.ex
  exact ⟨_, BoxAt.set hb 1 _, by rw [set_ne (by omega)]; exact h2, set_eq (by omega), by rw [set_ne (by omega)]; exact h4, by rw [Array.size_setIfInBounds, h1], fun _ h => absurd h (Nat.not_lt_zero _), fun _ h => absurd h (Nat.not_lt_zero _)⟩
theorem FillI.done {w : World} {b : Nat} {cs : Array Value} (h : FillI w b 255 cs) : Fld ((w.drew.setCell ⟨b, 0, none⟩ (.int .u32 1)).setCell ⟨b, 1, none⟩ (.int .i32 0)) b := by
  have hb := (h.drew.box.set 0 (.int .u32 1)).set 1 (.int .i32 0)
  have hs := h.size
  refine ⟨hb.lt, (hb.cell 0).trans ?_, (hb.cell 3).trans ?_, fun i hi => (hb.cell _).trans ?_, fun x h0 hx => (hb.cell _).trans ?_⟩
  · rw [set_ne (by omega), set_eq (by omega)]
  · rw [set_ne (by omega), set_ne (by omega)]; exact h.made
  · rw [set_ne (by omega), set_ne (by omega)]
    by_cases e : i < 255
    · exact (h.exp i e).1
    · have := (h.exp (i - 255) (by omega)).2
      rw [show i - 255 + 255 = i by omega] at this
      rw [this, ← ex_period (i - 255), show i - 255 + 255 = i by omega]
  · rw [set_ne (by omega), set_ne (by omega)]
    obtain ⟨h1, h2⟩ := ex_lg h0 hx
    have := h.log (lg x) h2
    rwa [h1] at this
theorem call_fill (args : Array Value) (w : World) : (callFunc 231 args).run Tryz.prog w = .ok (.enter 231 args) w := by go_simp
set_option maxRecDepth 100000 in
/-- The first use of a field. -/
theorem ready_new {w : World} {b : Nat} (h : FldNew w b) :
    Calls Tryz.prog 199 #[.pointer (some ⟨b, 0, none⟩)] w fun e w' => e = .returned (.bool true) ∧ Fld w' b ∧ Keep (· = b) w w' := by
  obtain ⟨cs, hc⟩ := h.fill
  obtain ⟨c0, hb, _, h0, h1, h3⟩ := h.ex
  have hF := Lib.hid (fill_any hc)
  have k3 : w.cell? ⟨b, 3, none⟩ = some (.bool true) := (BoxAt.cell hb 3).trans h3
  have hD := Lib.hid (do_first (w := w) (b := b) (pre := #[.pointer (some ⟨b, 0, none⟩)]) (R := fun w' => (∃ cs', FillI w' b 255 cs') ∧ Keep (· = b) (w.setCell ⟨b, 1, none⟩ (.int .i32 1)) w') ((BoxAt.cell hb 0).trans h0) ((BoxAt.cell hb 1).trans h1) (BoxAt.frozen hb 0) (BoxAt.frozen hb 1) call_fill (Lib.hid hF.out)
    (Lib.hid fun w' hw => by
      obtain ⟨⟨cs', h1⟩, _⟩ := hw
      exact ⟨(h1.box.cell 0).trans h1.don, (h1.box.cell 1).trans h1.lock, h1.box.frozen 0, h1.box.frozen 1⟩))
  have HN := Lib.hid h
  clear hF h hc hb h0 h1 h3
  go_enter Tryz.func199, Tryz.ntmps199
  go_wp2_with (go_at_call 230; refine hD.out.mono ?_; rintro e w' ⟨rfl, w2, ⟨⟨cs', h1⟩, h2⟩, rfl⟩; have H1 := Lib.hid h1; have H2 := Lib.hid h2; clear h1 h2 hD)
  go_ret
  exact ⟨rfl, H1.out.done, (keep_drew (((Keep.refl (· = b) w).setCell (fun _ => rfl) _).trans H2.out (fun k hk _ => hk))).setCell (fun _ => rfl) _ |>.setCell (fun _ => rfl) _⟩
set_option maxRecDepth 100000 in
theorem ready_any {w : World} {b : Nat} (h : Fld w b) :
    Calls Tryz.prog 199 #[.pointer (some ⟨b, 0, none⟩)] w fun e w' => e = .returned (.bool true) ∧ w' = w := by
  have k3 := h.made
  have hD := fun fv => do_done (a := ⟨b, 0, none⟩) (d := 1) (by decide) fv h.don
  clear h
  go_enter Tryz.func199, Tryz.ntmps199
  go_wp2_with (go_at_call 230; refine (hD _).mono ?_; rintro e w' ⟨rfl, rfl⟩)
  go_ret
  exact ⟨rfl, rfl⟩
set_option maxRecDepth 100000 in
theorem fldnew_any {w : World} :
    Calls Tryz.prog 81 #[] w fun e w' => e = .returned (.pointer (some ⟨w.heap.size, 0, none⟩)) ∧ FldNew w' w.heap.size ∧ Below w.heap.size w w' := by
  go_enter Tryz.func81, Tryz.ntmps81
  go_wp2_with fail
  go_ret
  exact ⟨rfl, ⟨_, BoxAt.new w _ _, by kernel_rfl, by kernel_rfl, by kernel_rfl, by kernel_rfl⟩, (Below.refl _ _).alloc (Nat.le_refl _) _⟩
end
section

instance : Std.Associative gm := ⟨gm_assoc⟩
instance : Std.Commutative gm := ⟨gm_comm⟩
theorem gm_xor2 {a b c : Nat} (ha : a < 256) (hb : b < 256) : gm (a ^^^ b) c = gm a c ^^^ gm b c := by
  rw [gm_comm, gm_xor ha hb, gm_comm c a, gm_comm c b]
theorem zero_gm (a : Nat) : gm 0 a = 0 := by rw [gm_comm, gm_zero]
theorem gm_one2 {b : Nat} (hb : b < 256) : gm b 1 = b := by rw [gm_comm, gm_one hb]
theorem inv_ne {a : Nat} (h0 : a ≠ 0) (h : a < 256) : inv a ≠ 0 := fun e => by
  have := gm_inv h0 h
  rw [e, gm_zero] at this; cases this
theorem gm_eq_zero {a b : Nat} (h : gm a b = 0) (ha : a ≠ 0) : b = 0 := by
  rcases Nat.eq_zero_or_pos b with hb | hb
  · exact hb
  · exact absurd h (gm_ne ha (by omega))
theorem xor_zero_eq {a b : Nat} (h : a ^^^ b = 0) : a = b := by
  have h2 : (a ^^^ b) ^^^ b = 0 ^^^ b := by rw [h]
  rw [Nat.xor_assoc, Nat.xor_self, Nat.xor_zero, Nat.zero_xor] at h2
  exact h2
theorem xor_ne {a b : Nat} (h : a ≠ b) : a ^^^ b ≠ 0 := fun e => h (xor_zero_eq e)

/-- The sum of the first n. -/
def sumx (f : Nat → Nat) : Nat → Nat
  | 0 => 0
  | n + 1 => sumx f n ^^^ f n
theorem sumx_lt {f : Nat → Nat} (h : ∀ i, f i < 256) : ∀ n, sumx f n < 256
  | 0 => Nat.succ_pos _
  | n + 1 => xor_lt (sumx_lt h n) (h n)
theorem sumx_cong {f g : Nat → Nat} : ∀ {n : Nat}, (∀ i, i < n → f i = g i) → sumx f n = sumx g n
  | 0, _ => rfl
  | n + 1, h => by
    show sumx f n ^^^ f n = sumx g n ^^^ g n
    rw [sumx_cong fun i hi => h i (by omega), h n (by omega)]
theorem sumx_xor (f g : Nat → Nat) : ∀ n, sumx (fun i => f i ^^^ g i) n = sumx f n ^^^ sumx g n
  | 0 => (Nat.xor_self 0).symm
  | n + 1 => by
    show sumx (fun i => f i ^^^ g i) n ^^^ (f n ^^^ g n) = (sumx f n ^^^ f n) ^^^ (sumx g n ^^^ g n)
    rw [sumx_xor f g n]
    ac_rfl
theorem sumx_mul {f : Nat → Nat} (h : ∀ i, f i < 256) (c : Nat) : ∀ n, gm c (sumx f n) = sumx (fun i => gm c (f i)) n
  | 0 => gm_zero c
  | n + 1 => by
    show gm c (sumx f n ^^^ f n) = sumx (fun i => gm c (f i)) n ^^^ gm c (f n)
    rw [gm_xor (sumx_lt h n) (h n), sumx_mul h c n]
theorem sumx_zero {f : Nat → Nat} : ∀ {n : Nat}, (∀ i, i < n → f i = 0) → sumx f n = 0
  | 0, _ => rfl
  | n + 1, h => by
    show sumx f n ^^^ f n = 0
    rw [sumx_zero fun i hi => h i (by omega), h n (by omega)]; rfl
theorem sumx_one {f : Nat → Nat} {j : Nat} : ∀ {n : Nat}, j < n → (∀ i, i < n → i ≠ j → f i = 0) → sumx f n = f j
  | 0, h, _ => absurd h (Nat.not_lt_zero _)
  | n + 1, h, h2 => by
    show sumx f n ^^^ f n = f j
    by_cases e : j = n
    · subst e
      rw [sumx_zero fun i hi => h2 i (by omega) (by omega), Nat.zero_xor]
    · rw [sumx_one (by omega) fun i hi hne => h2 i (by omega) hne, h2 n (by omega) (fun h => e h.symm), Nat.xor_zero]
theorem sumx_add (f : Nat → Nat) (n : Nat) : ∀ m, sumx f (n + m) = sumx f n ^^^ sumx (fun i => f (n + i)) m
  | 0 => by show sumx f n = sumx f n ^^^ 0; rw [Nat.xor_zero]
  | m + 1 => by
    show sumx f (n + m) ^^^ f (n + m) = sumx f n ^^^ (sumx (fun i => f (n + i)) m ^^^ f (n + m))
    rw [sumx_add f n m, Nat.xor_assoc]
/-! ### Rows -/

/-- All are bytes. -/
def Byt (l : List Nat) : Prop := ∀ x ∈ l, x < 256
def gt (l : List Nat) (i : Nat) : Nat := l.getD i 0
theorem gt_lt {l : List Nat} (h : Byt l) (i : Nat) : gt l i < 256 := by
  unfold gt
  rw [List.getD_eq_getElem?_getD]
  cases e : l[i]? with
  | none => exact Nat.succ_pos _
  | some x => exact h x (List.mem_of_getElem? e)
theorem gt_of_lt {l : List Nat} {i : Nat} (h : i < l.length) : l[i]? = some (gt l i) := by
  unfold gt
  rw [List.getD_eq_getElem?_getD, List.getElem?_eq_getElem h]; rfl
theorem gt_ge {l : List Nat} {i : Nat} (h : l.length ≤ i) : gt l i = 0 := by
  unfold gt
  rw [List.getD_eq_getElem?_getD, List.getElem?_eq_none h]; rfl
theorem gt_ext {a b : List Nat} (h : a.length = b.length) (h2 : ∀ i, i < a.length → gt a i = gt b i) : a = b := by
  refine List.ext_getElem? fun i => ?_
  by_cases hi : i < a.length
  · rw [gt_of_lt hi, gt_of_lt (h ▸ hi), h2 i hi]
  · rw [List.getElem?_eq_none (by omega), List.getElem?_eq_none (by omega)]
/-- A row times c. -/
def sc (c : Nat) (row : List Nat) : List Nat := row.map (gm c)
/-- Into, with c times row added. -/
def fd (c : Nat) : List Nat → List Nat → List Nat
  | [], into => into
  | _ :: _, [] => []
  | r :: row, x :: into => (x ^^^ gm c r) :: fd c row into
theorem sc_len (c : Nat) (row : List Nat) : (sc c row).length = row.length := List.length_map ..
theorem sc_byt (c : Nat) (row : List Nat) : Byt (sc c row) := fun x h => by
  obtain ⟨y, _, rfl⟩ := List.mem_map.1 h
  exact gm_lt
theorem sc_gt (c : Nat) (row : List Nat) (i : Nat) : gt (sc c row) i = gm c (gt row i) := by
  unfold gt sc
  rw [List.getD_eq_getElem?_getD, List.getD_eq_getElem?_getD, List.getElem?_map]
  cases row[i]? with
  | none => exact (gm_zero c).symm
  | some x => rfl
theorem fd_len (c : Nat) : ∀ row into : List Nat, (fd c row into).length = into.length
  | [], _ => rfl
  | _ :: _, [] => rfl
  | _ :: row, _ :: into => by show (fd c row into).length + 1 = _; rw [fd_len c row into]; rfl
theorem fd_byt (c : Nat) : ∀ row into : List Nat, Byt into → Byt (fd c row into)
  | [], _, h => h
  | _ :: _, [], h => h
  | r :: row, x :: into, h => fun y hy => by
    rcases List.mem_cons.1 hy with rfl | hy
    · exact xor_lt (h x (List.mem_cons_self ..)) gm_lt
    · exact fd_byt c row into (fun z hz => h z (List.mem_cons_of_mem _ hz)) y hy
theorem fd_gt (c : Nat) : ∀ (row into : List Nat) (i : Nat), row.length ≤ into.length → gt (fd c row into) i = gt into i ^^^ gm c (gt row i)
  | [], into, i, _ => by
    show gt into i = gt into i ^^^ gm c 0
    rw [gm_zero, Nat.xor_zero]
  | _ :: _, [], _, h => absurd h (by simp)
  | r :: row, x :: into, 0, _ => rfl
  | r :: row, x :: into, i + 1, h => fd_gt c row into i (by simpa using h)
/-- The sum of the products with y of the first n. -/
def dt (n : Nat) (r : List Nat) (y : Nat → Nat) : Nat := sumx (fun l => gm (gt r l) (y l)) n
theorem dt_sc (n c : Nat) (r : List Nat) (y : Nat → Nat) : dt n (sc c r) y = gm c (dt n r y) := by
  unfold dt
  rw [sumx_mul fun _ => gm_lt]
  exact sumx_cong fun i _ => by rw [sc_gt, gm_assoc]
theorem dt_fd {n c : Nat} {r s : List Nat} (y : Nat → Nat) (h : r.length ≤ s.length) (hs : Byt s) : dt n (fd c r s) y = dt n s y ^^^ gm c (dt n r y) := by
  unfold dt
  rw [sumx_mul fun _ => gm_lt, ← sumx_xor]
  exact sumx_cong fun i _ => by rw [fd_gt c r s i h, gm_xor2 (gt_lt hs i) gm_lt, gm_assoc]
/-! ### The short law of the sums of fractions -/

def fr (a : Nat) : List (Nat × Nat) → Nat
  | [] => 0
  | (b, x) :: l => gm x (inv (a ^^^ b)) ^^^ fr a l
end
section

abbrev Rws := List (List Nat)
def ra (a : Rws) (i : Nat) : List Nat := a.getD i []
theorem ra_of_lt {a : Rws} {i : Nat} (h : i < a.length) : a[i]? = some (ra a i) := by
  unfold ra
  rw [List.getD_eq_getElem?_getD, List.getElem?_eq_getElem h]; rfl
theorem ra_some {a : Rws} {i : Nat} {r : List Nat} (h : a[i]? = some r) : ra a i = r := by
  unfold ra
  rw [List.getD_eq_getElem?_getD, h]; rfl
theorem ra_mem {a : Rws} {i : Nat} (h : i < a.length) : ra a i ∈ a := List.mem_of_getElem? (ra_of_lt h)
theorem ra_ext {a b : Rws} (h : a.length = b.length) (h2 : ∀ i, i < a.length → ra a i = ra b i) : a = b := by
  refine List.ext_getElem? fun i => ?_
  by_cases hi : i < a.length
  · rw [ra_of_lt hi, ra_of_lt (h ▸ hi), h2 i hi]
  · rw [List.getElem?_eq_none (by omega), List.getElem?_eq_none (by omega)]
theorem ra_mapIdx (f : Nat → List Nat → List Nat) {a : Rws} {i : Nat} (h : i < a.length) : ra (a.mapIdx f) i = f i (ra a i) := by
  refine ra_some ?_
  rw [List.getElem?_mapIdx, ra_of_lt h]; rfl

/-- n rows of m bytes. -/
def Shp (n m : Nat) (a : Rws) : Prop := a.length = n ∧ ∀ r ∈ a, r.length = m ∧ Byt r
theorem Shp.row {n m : Nat} {a : Rws} (h : Shp n m a) {i : Nat} (hi : i < n) : (ra a i).length = m ∧ Byt (ra a i) := h.2 _ (ra_mem (by rw [h.1]; exact hi))
theorem Shp.of {n m : Nat} {a : Rws} (h : a.length = n) (h2 : ∀ i, i < n → (ra a i).length = m ∧ Byt (ra a i)) : Shp n m a := ⟨h, fun r hr => by
  obtain ⟨i, hi, rfl⟩ := List.mem_iff_getElem.1 hr
  have := h2 i (h ▸ hi)
  rwa [ra_some (List.getElem?_eq_getElem hi)] at this⟩

def Ann (n m : Nat) (a : Rws) (y : Nat → Nat) : Prop := ∀ i, i < n → dt m (ra a i) y = 0

/-! ### The steps -/

def swF (a : Rws) (i j : Nat) : Rws := (a.set i (ra a j)).set j (ra a i)
theorem swF_len (a : Rws) (i j : Nat) : (swF a i j).length = a.length := by unfold swF; rw [List.length_set, List.length_set]
theorem ra_set (a : Rws) (i : Nat) (r : List Nat) {k : Nat} (hk : k < a.length) : ra (a.set i r) k = if k = i then r else ra a k := by
  refine ra_some ?_
  rw [List.getElem?_set]
  split
  · rename_i h
    subst h
    rw [if_pos rfl, if_pos hk]
  · rename_i h
    rw [if_neg (fun e => h e.symm), ra_of_lt hk]
theorem swF_ra (a : Rws) (i j : Nat) {k : Nat} (hk : k < a.length) : ra (swF a i j) k = if k = j then ra a i else if k = i then ra a j else ra a k := by
  unfold swF
  rw [ra_set _ _ _ (by rw [List.length_set]; exact hk), ra_set _ _ _ hk]
def scF (j c : Nat) (a : Rws) : Rws := a.mapIdx fun i r => if i = j then sc c r else r
def elF (P : Nat → Bool) (j col : Nat) (a : Rws) : Rws := a.mapIdx fun i r => if P i = true then fd (gt r col) (ra a j) r else r
theorem scF_len (j c : Nat) (a : Rws) : (scF j c a).length = a.length := List.length_mapIdx ..
theorem elF_len (P : Nat → Bool) (j col : Nat) (a : Rws) : (elF P j col a).length = a.length := List.length_mapIdx ..
theorem scF_ra (j c : Nat) {a : Rws} {i : Nat} (h : i < a.length) : ra (scF j c a) i = if i = j then sc c (ra a i) else ra a i := ra_mapIdx _ h
theorem elF_ra (P : Nat → Bool) (j col : Nat) {a : Rws} {i : Nat} (h : i < a.length) : ra (elF P j col a) i = if P i = true then fd (gt (ra a i) col) (ra a j) (ra a i) else ra a i := ra_mapIdx _ h
section
variable {n m : Nat} {a : Rws}
theorem swF_shp {i j : Nat} (h : Shp n m a) (hi : i < n) (hj : j < n) : Shp n m (swF a i j) := .of (by rw [swF_len, h.1]) fun k hk => by
  rw [swF_ra _ _ _ (by rw [h.1]; exact hk)]
  split
  · exact h.row hi
  · split
    · exact h.row hj
    · exact h.row hk
theorem scF_shp {j c : Nat} (h : Shp n m a) : Shp n m (scF j c a) := .of (by rw [scF_len, h.1]) fun k hk => by
  rw [scF_ra _ _ (by rw [h.1]; exact hk)]
  split
  · exact ⟨by rw [sc_len]; exact (h.row hk).1, sc_byt _ _⟩
  · exact h.row hk
theorem elF_shp {P : Nat → Bool} {j col : Nat} (h : Shp n m a) : Shp n m (elF P j col a) := .of (by rw [elF_len, h.1]) fun k hk => by
  rw [elF_ra _ _ _ (by rw [h.1]; exact hk)]
  split
  · exact ⟨by rw [fd_len]; exact (h.row hk).1, fd_byt _ _ _ (h.row hk).2⟩
  · exact h.row hk
theorem swF_ann {i j : Nat} (h : a.length = n) (hi : i < n) (hj : j < n) (y : Nat → Nat) : Ann n m (swF a i j) y ↔ Ann n m a y := by
  have e : ∀ k, k < n → ra (swF a i j) k = if k = j then ra a i else if k = i then ra a j else ra a k := fun k hk => swF_ra a i j (by rw [h]; exact hk)
  constructor
  · intro H k hk
    by_cases h1 : k = i
    · subst h1
      have := H j hj
      rwa [e j hj, if_pos rfl] at this
    · by_cases h2 : k = j
      · subst h2
        have := H i hi
        rw [e i hi] at this
        by_cases h3 : i = k
        · exact absurd h3.symm h1
        · rwa [if_neg h3, if_pos rfl] at this
      · have := H k hk
        rwa [e k hk, if_neg h2, if_neg h1] at this
  · intro H k hk
    rw [e k hk]
    split
    · exact H i hi
    · split
      · exact H j hj
      · exact H k hk
theorem scF_ann {j c : Nat} (h : a.length = n) (hc : c ≠ 0) (y : Nat → Nat) : Ann n m (scF j c a) y ↔ Ann n m a y := by
  have e : ∀ k, k < n → ra (scF j c a) k = if k = j then sc c (ra a k) else ra a k := fun k hk => scF_ra j c (by rw [h]; exact hk)
  constructor
  · intro H k hk
    have := H k hk
    rw [e k hk] at this
    split at this
    · rw [dt_sc] at this
      exact gm_eq_zero this hc
    · exact this
  · intro H k hk
    rw [e k hk]
    split
    · rw [dt_sc, H k hk, gm_zero]
    · exact H k hk
theorem elF_ann {P : Nat → Bool} {j col : Nat} (h : Shp n m a) (hj : j < n) (hP : P j = false) (y : Nat → Nat) : Ann n m (elF P j col a) y ↔ Ann n m a y := by
  have e : ∀ k, k < n → ra (elF P j col a) k = if P k = true then fd (gt (ra a k) col) (ra a j) (ra a k) else ra a k := fun k hk => elF_ra P j col (by rw [h.1]; exact hk)
  have d : ∀ k, k < n → dt m (fd (gt (ra a k) col) (ra a j) (ra a k)) y = dt m (ra a k) y ^^^ gm (gt (ra a k) col) (dt m (ra a j) y) := fun k hk => dt_fd y (by rw [(h.row hk).1, (h.row hj).1]; exact Nat.le_refl _) (h.row hk).2
  constructor
  · intro H
    have h0 : dt m (ra a j) y = 0 := by
      have := H j hj
      rwa [e j hj, hP, if_neg (by decide)] at this
    intro k hk
    have := H k hk
    rw [e k hk] at this
    split at this
    · rwa [d k hk, h0, gm_zero, Nat.xor_zero] at this
    · exact this
  · intro H k hk
    rw [e k hk]
    split
    · rw [d k hk, H j hj, gm_zero, Nat.xor_zero, H k hk]
    · exact H k hk
end

/-! ### Where no row has a pivot -/

structure Tri (n j : Nat) (a : Rws) : Prop where
  one : ∀ i, i < j → gt (ra a i) i = 1
  low : ∀ i l, l < i → i < j → gt (ra a i) l = 0
  rest : ∀ i l, j ≤ i → i < n → l < j → gt (ra a i) l = 0
/-! ### Ours: column by column, above and below -/

def clF (at' col : Nat) (a : Rws) : Rws := elF (fun i => decide (i ≠ at')) at' col (scF at' (inv (gt (ra a at') col)) a)
structure Gj (n m j : Nat) (a : Rws) : Prop where
  shp : Shp n m a
  unit : ∀ i l, i < n → l < j → gt (ra a i) l = if i = l then 1 else 0
theorem Gj.step {n m j k : Nat} {a : Rws} (h : Gj n m j a) (hj : j < n) (hk : k < n) (hjk : j ≤ k) (hv : gt (ra a k) j ≠ 0) :
    Gj n m (j + 1) (clF j j (swF a j k)) ∧ ∀ y, Ann n m (clF j j (swF a j k)) y ↔ Ann n m a y := by
  have hb := swF_shp (i := j) (j := k) h.shp hj hk
  have hbl : (swF a j k).length = n := hb.1
  have hpj : ra (swF a j k) j = ra a k := by
    rw [swF_ra a j k (by rw [h.shp.1]; exact hj)]
    split
    · rename_i e; rw [e]
    · rw [if_pos rfl]
  have hpv : gt (ra (swF a j k) j) j ≠ 0 := by rw [hpj]; exact hv
  have hp256 : gt (ra (swF a j k) j) j < 256 := gt_lt (hb.row hj).2 j
  have hc := scF_shp (j := j) (c := inv (gt (ra (swF a j k) j) j)) hb
  have hcl := hc.1
  have hlow : ∀ i l, i < n → l < j → gt (ra (swF a j k) i) l = if i = l then 1 else 0 := fun i l hi hl => by
    rw [swF_ra a j k (by rw [h.shp.1]; exact hi)]
    split
    · rename_i e
      subst e
      rw [h.unit j l hj hl, if_neg (by omega), if_neg (by omega)]
    · split
      · rename_i e
        subst e
        rw [h.unit k l hk hl, if_neg (by omega), if_neg (by omega)]
      · exact h.unit i l hi hl
  have hcj : ra (scF j (inv (gt (ra (swF a j k) j) j)) (swF a j k)) j = sc (inv (gt (ra (swF a j k) j) j)) (ra (swF a j k) j) := by
    rw [scF_ra _ _ (by rw [hbl]; exact hj), if_pos rfl]
  have hci : ∀ i, i < n → i ≠ j → ra (scF j (inv (gt (ra (swF a j k) j) j)) (swF a j k)) i = ra (swF a j k) i := fun i hi hne => by
    rw [scF_ra _ _ (by rw [hbl]; exact hi), if_neg hne]
  refine ⟨⟨elF_shp hc, fun i l hi hl => ?_⟩, fun y => ?_⟩
  · unfold clF
    rw [elF_ra _ _ _ (by rw [hcl]; exact hi)]
    by_cases e : i = j
    · subst e
      rw [if_neg (by simp), hcj, sc_gt]
      by_cases e2 : l = i
      · subst e2
        rw [if_pos rfl, gm_comm, gm_inv hpv hp256]
      · rw [hlow i l hi (by omega), if_neg (by omega), gm_zero]
    · rw [if_pos (by simpa using e), hci i hi e, hcj, fd_gt _ _ _ _ (by rw [sc_len, (hb.row hi).1, (hb.row hj).1]; exact Nat.le_refl _), sc_gt]
      by_cases e2 : l = j
      · subst e2
        rw [gm_comm (inv _), gm_inv hpv hp256, gm_one2 (gt_lt (hb.row hi).2 _), Nat.xor_self, if_neg e]
      · rw [hlow j l hj (by omega), if_neg (by omega : ¬ j = l), gm_zero, gm_zero, Nat.xor_zero, hlow i l hi (by omega)]
  · unfold clF
    rw [elF_ann hc hj (by simp) y, scF_ann hbl (inv_ne hpv hp256) y, swF_ann h.shp.1 hj hk y]
end
end Go.Proofs.YtihnlhfngmbglaaGreat
