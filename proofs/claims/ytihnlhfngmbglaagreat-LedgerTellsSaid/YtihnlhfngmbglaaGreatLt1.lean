/-
  Regions that draw their order, and end with a store that changes what is read ahead of it: S need not hold behind operations that wait for all that is taken first.
  As Ord: an operation is taken first for which those of lst wait by way of another one.
  Steps of a region's script, in few words: what each step asks is asked by default arguments.
  A library for the proofs of this seat: worlds that are later than another, readings of slices as lists, slices of the call's own.
  More of the library: pushing one element onto a slice of the call's own.
  More of the library: objects that are changed in place; blocks that a call may change.
  Full, and the small questions about a drive.
  The small questions about a drive: none, has, ready.
  Waits, Sectors, Dead.
  Maps as lists of entries: what each operation does.
  A drive's state as lists, and how it lies in memory.
-/
import Derived.Deep.RegionHeld
import Derived.WalkKit
import Derived.WalkSpells
import Derived.WalkLawsBesides
import Derived.Deep.QuietTactic
import Derived.BigQuiet
import Derived.Lib.Hide
import Derived.Maps.AppendAt
import Derived.Deep.AppendLies
import Derived.Deep.Draws
import Derived.RegionTactic
import Derived.OwnWalk
import Derived.Test.YtihnlhfngmbglaaGreatRows
import Derived.Deep.OwnRows
import Derived.Maps.RangeWalk
import Derived.Maps.OwnOps
import Derived.Deep.MidRow
namespace Go
section
variable {P : Program} {ops : Array Oper} {Q : Exit → Act → World → Prop} {md : Region.Mode} {S : World → Prop} {lst : List Nat}

/-- Whatever order is picked, and S holds behind each operation but those of lst. -/
def wpAnyL (P : Program) (md : Region.Mode) (ops : Array Oper) (Q : Exit → Act → World → Prop) (S : World → Prop) (lst : List Nat) : Nat → Array Bool → Act → World → Prop
  | 0, listed, a, w => Region.ready md ops listed = [] ∧ Q .normal a w
  | fuel + 1, listed, a, w =>
    (Region.ready md ops listed = [] → Q .normal a w) ∧
    ∀ i ∈ Region.ready md ops listed, wpOp P ops Q i (fun a' w' => (i ∉ lst → S w') ∧ wpAnyL P md ops Q S lst fuel (listed.setIfInBounds i true) a' w') a w
theorem wpAny_of_L : ∀ (fuel : Nat) (listed : Array Bool) (a : Act) (w : World), wpAnyL P md ops Q S lst fuel listed a w → wpAny P md ops Q fuel listed a w
  | 0, _, _, _, h => h
  | fuel + 1, _, _, _, h => ⟨h.1, fun i hi => wpOp_mono (fun a' w' h' => wpAny_of_L fuel _ a' w' h'.2) (h.2 i hi)⟩

/-- All of lst wait for number i. -/
def Region.waits (md : Region.Mode) (ops : Array Oper) (lst : List Nat) (i : Nat) : Bool :=
  lst.all fun j => match ops[j]? with
    | some o => o.after.any fun e => Region.binds md e && e.on == i
    | none => true

theorem waits_not {listed : Array Bool} {i j : Nat} (hw : Region.waits md ops lst i = true) (hj : j ∈ lst) (hr : j ∈ Region.ready md ops listed) (hi : i ∈ Region.ready md ops listed) : False := by
  obtain ⟨_, oj, hoj, hall⟩ := mem_ready.1 hr
  have h1 := List.all_eq_true.1 hw j hj
  rw [hoj] at h1
  obtain ⟨e, he, h2⟩ := Array.any_eq_true'.1 h1
  rw [Bool.and_eq_true, beq_iff_eq] at h2
  have h3 := hall e he h2.1
  rw [h2.2] at h3
  have h0 := (mem_ready.1 hi).1
  rcases Nat.lt_or_ge i listed.size with h' | h'
  · simp [h'] at h0 h3; rw [h0] at h3; cases h3
  · simp [Array.getElem?_eq_none h'] at h3

theorem wpAnyL_first {i : Nat} {oi : Oper} {v : Value} (hi : ops[i]? = some oi) (hsel : ∀ (j : Nat) (o : Oper) cs b, ops[j]? = some o → o.op ≠ .select cs b)
    (hwt : Region.waits md ops lst i = true)
    (hQ : ∀ c a w, Q (.panic c) (a.put oi.dst v) w → Q (.panic c) a w) :
    ∀ (fuel : Nat) (listed : Array Bool) (a : Act) (w : World),
      (∀ j oj, ops[j]? = some oj → j ≠ i → listed.getD j true = false → (∀ e ∈ oj.after, Region.binds md e = true → e.on ≠ i) → oi.apart ops oj = true) →
      i ∈ Region.ready md ops listed → YieldsIf P ops S oi v a → S w →
      wpAnyL P md ops Q S lst fuel (listed.setIfInBounds i true) (a.put oi.dst v) w → wpAnyL P md ops Q S lst (fuel + 1) listed a w := by
  intro fuel
  induction fuel with
  | zero =>
    intro listed a w _ hr hy hS H
    refine ⟨fun h => (by rw [h] at hr; cases hr), fun j hj => ?_⟩
    by_cases hji : j = i
    · subst hji; exact hy.wpOp hi hS ⟨fun _ => hS, H⟩
    · have := ready_mono hj hji
      rw [H.1] at this
      cases this
  | succ fuel ih =>
    intro listed a w hfree hr hy hS H
    refine ⟨fun h => (by rw [h] at hr; cases hr), fun j hj => ?_⟩
    by_cases hji : j = i
    · subst hji; exact hy.wpOp hi hS ⟨fun _ => hS, H⟩
    · have h1 := H.2 j (ready_mono hj hji)
      have hnl : j ∉ lst := fun hl => waits_not hwt hl hj hr
      obtain ⟨hjun, oj, hoj, hall⟩ := mem_ready.1 hj
      have hnot : ∀ e ∈ oj.after, Region.binds md e = true → e.on ≠ i := fun e he hb heq => by
        have h1 := hall e he hb
        have h0 := (mem_ready.1 hr).1
        rw [heq] at h1
        rcases Nat.lt_or_ge i listed.size with h' | h'
        · simp [h'] at h0 h1; rw [h0] at h1; cases h1
        · simp [Array.getElem?_eq_none h'] at h1
      have h2 := wpOp_putIf hoj (hfree j oj hoj hji hjun hnot) (fun cs b => hsel i oi cs b hi) (fun cs b => hsel j oj cs b hoj) hQ hy h1
      have hfree' : ∀ k ok, ops[k]? = some ok → k ≠ i → (listed.setIfInBounds j true).getD k true = false →
          (∀ e ∈ ok.after, Region.binds md e = true → e.on ≠ i) → oi.apart ops ok = true := fun k ok hk hki hun hno => by
        refine hfree k ok hk hki ?_ hno
        by_cases hjk : j = k
        · subst hjk; exact hjun
        · rw [getD_set_ne true hjk] at hun; exact hun
      refine wpOp_mono (fun a' w' h3 => ⟨h3.2.1, ih (listed.setIfInBounds j true) a' w' hfree' (ready_mono hr (Ne.symm hji)) h3.1 (h3.2.1 hnl) ?_⟩) h2
      rw [Array.setIfInBounds_comm _ _ hji]
      exact h3.2.2

theorem wpAnyL_take {i : Nat} {oi : Oper} {v : Value} {fuel : Nat} {listed : Array Bool} {a : Act} {w : World} (hi : ops[i]? = some oi)
    (hs : Region.noSelect ops = true) (hwt : Region.waits md ops lst i = true) (hf : Region.free md ops listed i = true) (hr : (Region.ready md ops listed).contains i = true)
    (hQ : ∀ c a w, Q (.panic c) (a.put oi.dst v) w → Q (.panic c) a w) (hy : YieldsIf P ops S oi v a) (hS : S w)
    (h : wpAnyL P md ops Q S lst fuel (listed.setIfInBounds i true) (a.put oi.dst v) w) : wpAnyL P md ops Q S lst (fuel + 1) listed a w :=
  wpAnyL_first hi (Region.noSelect_spec hs) hwt hQ fuel listed a w (Region.free_spec hi hf) (by simpa using hr) hy hS h

theorem wpAnyL_done {listed : Array Bool} {a : Act} {w : World} (hr : Region.ready md ops listed = []) (h : Q .normal a w) :
    ∀ fuel, wpAnyL P md ops Q S lst fuel listed a w
  | 0 => ⟨hr, h⟩
  | _ + 1 => ⟨fun _ => h, by rw [hr]; simp⟩

def AllReadyL (P : Program) (md : Region.Mode) (ops : Array Oper) (Q : Exit → Act → World → Prop) (S : World → Prop) (lst : List Nat) (fuel : Nat) (listed : Array Bool) (a : Act) (w : World) (rs : List Nat) : Prop :=
  ∀ i ∈ rs, wpOp P ops Q i (fun a' w' => (i ∉ lst → S w') ∧ wpAnyL P md ops Q S lst fuel (listed.setIfInBounds i true) a' w') a w
theorem AllReadyL.nil {fuel : Nat} {listed : Array Bool} {a : Act} {w : World} : AllReadyL P md ops Q S lst fuel listed a w [] := fun _ h => by cases h
theorem AllReadyL.cons {fuel : Nat} {listed : Array Bool} {a : Act} {w : World} {i : Nat} {o : Oper} {rs : List Nat} (ho : ops[i]? = some o)
    (h : ∀ K' : Act → World → Prop, Shut (∀ a w, S w → (S w → wpAnyL P md ops Q S lst fuel (listed.setIfInBounds i true) a w) → K' a w) → if Region.wanted o (yielded ops a.tmps) = true then Oper.wp P o a w K' Q else K' (a.put o.dst undef) w)
    (hs : AllReadyL P md ops Q S lst fuel listed a w rs) : AllReadyL P md ops Q S lst fuel listed a w (i :: rs) := fun j hj => by
  rcases List.mem_cons.1 hj with rfl | hj
  · exact wpOp_step ho (fun K' hK => h K' (fun a w hS hW => hK a w ⟨fun _ => hS, hW hS⟩))
  · exact hs j hj
/-- An operation of lst comes up: S need not hold behind it. -/
theorem AllReadyL.last {fuel : Nat} {listed : Array Bool} {a : Act} {w : World} {i : Nat} {o : Oper} {rs : List Nat} (ho : ops[i]? = some o) (hl : i ∈ lst)
    (h : ∀ K' : Act → World → Prop, Shut (∀ a w, wpAnyL P md ops Q S lst fuel (listed.setIfInBounds i true) a w → K' a w) → if Region.wanted o (yielded ops a.tmps) = true then Oper.wp P o a w K' Q else K' (a.put o.dst undef) w)
    (hs : AllReadyL P md ops Q S lst fuel listed a w rs) : AllReadyL P md ops Q S lst fuel listed a w (i :: rs) := fun j hj => by
  rcases List.mem_cons.1 hj with rfl | hj
  · exact wpOp_step ho (fun K' hK => h K' (fun a w hW => hK a w ⟨fun hn => absurd hl hn, hW⟩))
  · exact hs j hj
theorem wpAnyL_ready {rs : List Nat} {fuel : Nat} {listed : Array Bool} {a : Act} {w : World} (hr : Region.ready md ops listed = rs) (hne : rs ≠ [])
    (h : AllReadyL P md ops Q S lst fuel listed a w rs) : wpAnyL P md ops Q S lst (fuel + 1) listed a w :=
  ⟨fun h0 => absurd (hr ▸ h0) hne, hr ▸ h⟩
/-- The beginning. -/
theorem wp_region_L {id : Nat} {a : Act} {w : World} (lst : List Nat) (hm : P.follows .mixedOrders = true) (hS : S w.drew)
    (h : S w.drew → wpAnyL P .any ops Q S lst ops.size (Array.replicate ops.size false) a w.drew) : (Code.region id ops true).wp P Q a w :=
  wp_region_any hm (wpAny_of_L _ _ _ _ (h hS))
end
end Go

namespace Go
section
variable {P : Program} {ops : Array Oper} {Q : Exit → Act → World → Prop} {md : Region.Mode} {S : World → Prop} {lst : List Nat}
theorem wpAnyL_firstI {i : Nat} {oi : Oper} {v : Value} (hi : ops[i]? = some oi) (hsel : ∀ (j : Nat) (o : Oper) cs b, ops[j]? = some o → o.op ≠ .select cs b)
    {I : Array Bool → Prop} (hI : ∀ (listed : Array Bool) (j : Nat), I listed → i ∈ Region.ready md ops listed → j ∈ Region.ready md ops listed → j ≠ i → j ∉ lst ∧ I (listed.setIfInBounds j true))
    (hQ : ∀ c a w, Q (.panic c) (a.put oi.dst v) w → Q (.panic c) a w) :
    ∀ (fuel : Nat) (listed : Array Bool) (a : Act) (w : World),
      (∀ j oj, ops[j]? = some oj → j ≠ i → listed.getD j true = false → (∀ e ∈ oj.after, Region.binds md e = true → e.on ≠ i) → oi.apart ops oj = true) →
      I listed → i ∈ Region.ready md ops listed → YieldsIf P ops S oi v a → S w →
      wpAnyL P md ops Q S lst fuel (listed.setIfInBounds i true) (a.put oi.dst v) w → wpAnyL P md ops Q S lst (fuel + 1) listed a w := by
  intro fuel
  induction fuel with
  | zero =>
    intro listed a w _ hIl hr hy hS H
    refine ⟨fun h => (by rw [h] at hr; cases hr), fun j hj => ?_⟩
    by_cases hji : j = i
    · subst hji; exact hy.wpOp hi hS ⟨fun _ => hS, H⟩
    · have := ready_mono hj hji
      rw [H.1] at this
      cases this
  | succ fuel ih =>
    intro listed a w hfree hIl hr hy hS H
    refine ⟨fun h => (by rw [h] at hr; cases hr), fun j hj => ?_⟩
    by_cases hji : j = i
    · subst hji; exact hy.wpOp hi hS ⟨fun _ => hS, H⟩
    · have h1 := H.2 j (ready_mono hj hji)
      obtain ⟨hnl, hI2⟩ := hI listed j hIl hr hj hji
      obtain ⟨hjun, oj, hoj, hall⟩ := mem_ready.1 hj
      have hnot : ∀ e ∈ oj.after, Region.binds md e = true → e.on ≠ i := fun e he hb heq => by
        have h1 := hall e he hb
        have h0 := (mem_ready.1 hr).1
        rw [heq] at h1
        rcases Nat.lt_or_ge i listed.size with h' | h'
        · simp [h'] at h0 h1; rw [h0] at h1; cases h1
        · simp [Array.getElem?_eq_none h'] at h1
      have h2 := wpOp_putIf hoj (hfree j oj hoj hji hjun hnot) (fun cs b => hsel i oi cs b hi) (fun cs b => hsel j oj cs b hoj) hQ hy h1
      have hfree' : ∀ k ok, ops[k]? = some ok → k ≠ i → (listed.setIfInBounds j true).getD k true = false →
          (∀ e ∈ ok.after, Region.binds md e = true → e.on ≠ i) → oi.apart ops ok = true := fun k ok hk hki hun hno => by
        refine hfree k ok hk hki ?_ hno
        by_cases hjk : j = k
        · subst hjk; exact hjun
        · rw [getD_set_ne true hjk] at hun; exact hun
      refine wpOp_mono (fun a' w' h3 => ⟨h3.2.1, ih (listed.setIfInBounds j true) a' w' hfree' hI2 (ready_mono hr (Ne.symm hji)) h3.1 (h3.2.1 hnl) ?_⟩) h2
      rw [Array.setIfInBounds_comm _ _ hji]
      exact h3.2.2

def Region.waitsFor2 (md : Region.Mode) (ops : Array Oper) (j i : Nat) : Bool := match ops[j]? with
  | some o => o.after.any fun e => Region.binds md e && e.on == i
  | none => true
/-- All of lst wait for i, or for m, which waits for i. -/
def Region.waitsBy (md : Region.Mode) (ops : Array Oper) (lst : List Nat) (m i : Nat) : Bool :=
  Region.waitsFor2 md ops m i && lst.all fun j => Region.waitsFor2 md ops j i || Region.waitsFor2 md ops j m
theorem waits_un {listed : Array Bool} {i j : Nat} (hw : Region.waitsFor2 md ops j i = true) (hr : j ∈ Region.ready md ops listed) (h0 : listed.getD i true = false) : False := by
  obtain ⟨_, oj, hoj, hall⟩ := mem_ready.1 hr
  unfold Region.waitsFor2 at hw
  rw [hoj] at hw
  obtain ⟨e, he, h2⟩ := Array.any_eq_true'.1 hw
  rw [Bool.and_eq_true, beq_iff_eq] at h2
  have h3 := hall e he h2.1
  rw [h2.2] at h3
  rcases Nat.lt_or_ge i listed.size with h' | h'
  · simp [h'] at h0 h3; rw [h0] at h3; cases h3
  · simp [Array.getElem?_eq_none h'] at h3
theorem wpAnyL_takeB {i : Nat} {oi : Oper} {v : Value} {fuel : Nat} {listed : Array Bool} {a : Act} {w : World} (m : Nat) (hi : ops[i]? = some oi)
    (hs : Region.noSelect ops = true) (hwt : Region.waitsBy md ops lst m i = true) (hmu : listed.getD m true = false) (hf : Region.free md ops listed i = true) (hr : (Region.ready md ops listed).contains i = true)
    (hQ : ∀ c a w, Q (.panic c) (a.put oi.dst v) w → Q (.panic c) a w) (hy : YieldsIf P ops S oi v a) (hS : S w)
    (h : wpAnyL P md ops Q S lst fuel (listed.setIfInBounds i true) (a.put oi.dst v) w) : wpAnyL P md ops Q S lst (fuel + 1) listed a w := by
  unfold Region.waitsBy at hwt
  rw [Bool.and_eq_true] at hwt
  obtain ⟨h1, h2⟩ := hwt
  refine wpAnyL_firstI hi (Region.noSelect_spec hs) (I := fun l => l.getD m true = false) (fun l j hIl hil hjl hji => ⟨fun hl => ?_, ?_⟩) hQ fuel listed a w (Region.free_spec hi hf) hmu (by simpa using hr) hy hS h
  · have h3 := List.all_eq_true.1 h2 j hl
    rw [Bool.or_eq_true] at h3
    rcases h3 with h3 | h3
    · exact waits_un h3 hjl (mem_ready.1 hil).1
    · exact waits_un h3 hjl hIl
  · have hjm : j ≠ m := fun e => by
      subst e
      exact waits_un h1 hjl (mem_ready.1 hil).1
    rw [getD_set_ne true hjm]
    exact hIl
end
end Go

namespace Go
theorem zz1 {α : Type} {xs : List α} {i : Nat} (h : i < xs.toArray.size) : xs.toArray[i] = xs[i]'(by simpa using h) := List.getElem_toArray h
theorem zz2 {α : Type} (a : α) (l : List α) (i : Nat) (h : i + 1 < (a :: l).length) : (a :: l)[i + 1] = l[i]'(Nat.lt_of_succ_lt_succ h) := List.getElem_cons_succ a l i h
theorem zz3 {α : Type} (a : α) (l : List α) (h : 0 < (a :: l).length) : (a :: l)[0] = a := List.getElem_cons_zero a l h
theorem zz4 {α : Type} (l : List α) (i : Nat) (a : α) : l.toArray.setIfInBounds i a = (l.set i a).toArray := List.setIfInBounds_toArray ..
theorem zz5 {α : Type} (x : α) (xs : List α) (a : α) : (x :: xs).set 0 a = a :: xs := rfl
theorem zz6 {α : Type} (x : α) (xs : List α) (i : Nat) (a : α) : (x :: xs).set (i + 1) a = x :: xs.set i a := rfl
section
variable {P : Program} {ops : Array Oper} {Q : Exit → Act → World → Prop} {md : Region.Mode} {S : World → Prop} {lst : List Nat}
/-- An operation that only computes, taken first. -/
theorem tkH (i : Nat) {oi : Oper} {v : Value} {fuel : Nat} {listed : Array Bool} {a a' : Act} {w : World} (hi : ops[i]? = some oi)
    (h : wpAnyH P md ops Q S fuel (listed.setIfInBounds i true) a' w)
    (hv : ∀ w, S w → (execOp a.eval oi).run P w = .ok (.value v) w := by (intro wq hSw; (try dsimp only at hSw); (try simp (maxSteps := 2000000) only [Go.zz1, Go.zz2, Go.zz3]); go_simp); try with_reducible rfl)
    (ha : a.put oi.dst v = a' := by (try simp (maxSteps := 2000000) only [Go.zz1, Go.zz2, Go.zz3, Act.put, Go.zz4, Go.zz5, Go.zz6]); try with_reducible rfl)
    (hs : Region.noSelect ops = true := by kernel_rfl) (hf : Region.free md ops listed i = true := by kernel_rfl) (hr : (Region.ready md ops listed).contains i = true := by kernel_rfl)
    (hQ : ∀ c a w, Q (.panic c) (a.put oi.dst v) w → Q (.panic c) a w := by exact fun _ _ _ h => h) (hw : Region.wanted oi (yielded ops a.tmps) = true := by first | kernel_rfl | rfl) (hS : S w := by assumption) : wpAnyH P md ops Q S (fuel + 1) listed a w := by
  subst ha
  exact wpAnyH_take hi hs hf hr hQ (.inl ⟨hw, hv⟩) hS h
/-- One that isn't wanted. -/
theorem skH (i : Nat) {oi : Oper} {fuel : Nat} {listed : Array Bool} {a a' : Act} {w : World} (hi : ops[i]? = some oi)
    (h : wpAnyH P md ops Q S fuel (listed.setIfInBounds i true) a' w)
    (ha : a.put oi.dst undef = a' := by (try simp (maxSteps := 2000000) only [Go.zz1, Go.zz2, Go.zz3, Act.put, Go.zz4, Go.zz5, Go.zz6]); try with_reducible rfl)
    (hs : Region.noSelect ops = true := by kernel_rfl) (hf : Region.free md ops listed i = true := by kernel_rfl) (hr : (Region.ready md ops listed).contains i = true := by kernel_rfl)
    (hQ : ∀ c a w, Q (.panic c) (a.put oi.dst undef) w → Q (.panic c) a w := by exact fun _ _ _ h => h) (hw : Region.wanted oi (yielded ops a.tmps) = false := by first | kernel_rfl | rfl) (hS : S w := by assumption) : wpAnyH P md ops Q S (fuel + 1) listed a w := by
  subst ha
  exact wpAnyH_take hi hs hf hr hQ (.inr ⟨hw, rfl⟩) hS h
/-- One that comes up alone. -/
theorem rdH (i : Nat) {o : Oper} {fuel : Nat} {listed : Array Bool} {a : Act} {w : World} (ho : ops[i]? = some o)
    (h : ∀ K' : Act → World → Prop, Shut (∀ a w, S w → (S w → wpAnyH P md ops Q S fuel (listed.setIfInBounds i true) a w) → K' a w) → if Region.wanted o (yielded ops a.tmps) = true then Oper.wp P o a w K' Q else K' (a.put o.dst undef) w)
    (hr : Region.ready md ops listed = [i] := by kernel_rfl) : wpAnyH P md ops Q S (fuel + 1) listed a w :=
  wpAnyH_ready hr (by simp) (AllReadyH.cons ho h AllReadyH.nil)
theorem tkL (i : Nat) {oi : Oper} {v : Value} {fuel : Nat} {listed : Array Bool} {a a' : Act} {w : World} (hi : ops[i]? = some oi)
    (h : wpAnyL P md ops Q S lst fuel (listed.setIfInBounds i true) a' w)
    (hv : ∀ w, S w → (execOp a.eval oi).run P w = .ok (.value v) w := by (intro wq0 hSw; (try dsimp only at hSw); (try simp (maxSteps := 2000000) only [Go.zz1, Go.zz2, Go.zz3]); go_simp); try with_reducible rfl)
    (ha : a.put oi.dst v = a' := by (try simp (maxSteps := 2000000) only [Go.zz1, Go.zz2, Go.zz3, Act.put, Go.zz4, Go.zz5, Go.zz6]); try with_reducible rfl)
    (hs : Region.noSelect ops = true := by kernel_rfl) (hwt : Region.waits md ops lst i = true := by kernel_rfl) (hf : Region.free md ops listed i = true := by kernel_rfl) (hr : (Region.ready md ops listed).contains i = true := by kernel_rfl)
    (hQ : ∀ c a w, Q (.panic c) (a.put oi.dst v) w → Q (.panic c) a w := by exact fun _ _ _ h => h) (hw : Region.wanted oi (yielded ops a.tmps) = true := by first | kernel_rfl | rfl) (hS : S w := by assumption) : wpAnyL P md ops Q S lst (fuel + 1) listed a w := by
  subst ha
  exact wpAnyL_take hi hs hwt hf hr hQ (.inl ⟨hw, hv⟩) hS h
/-- Those of lst wait for it by way of number m. -/
theorem tkLB (i m : Nat) {oi : Oper} {v : Value} {fuel : Nat} {listed : Array Bool} {a a' : Act} {w : World} (hi : ops[i]? = some oi)
    (h : wpAnyL P md ops Q S lst fuel (listed.setIfInBounds i true) a' w)
    (hv : ∀ w, S w → (execOp a.eval oi).run P w = .ok (.value v) w := by (intro wq0 hSw; (try dsimp only at hSw); (try simp (maxSteps := 2000000) only [Go.zz1, Go.zz2, Go.zz3]); go_simp); try with_reducible rfl)
    (ha : a.put oi.dst v = a' := by (try simp (maxSteps := 2000000) only [Go.zz1, Go.zz2, Go.zz3, Act.put, Go.zz4, Go.zz5, Go.zz6]); try with_reducible rfl)
    (hs : Region.noSelect ops = true := by kernel_rfl) (hwt : Region.waitsBy md ops lst m i = true := by kernel_rfl) (hmu : listed.getD m true = false := by kernel_rfl) (hf : Region.free md ops listed i = true := by kernel_rfl) (hr : (Region.ready md ops listed).contains i = true := by kernel_rfl)
    (hQ : ∀ c a w, Q (.panic c) (a.put oi.dst v) w → Q (.panic c) a w := by exact fun _ _ _ h => h) (hw : Region.wanted oi (yielded ops a.tmps) = true := by first | kernel_rfl | rfl) (hS : S w := by assumption) : wpAnyL P md ops Q S lst (fuel + 1) listed a w := by
  subst ha
  exact wpAnyL_takeB m hi hs hwt hmu hf hr hQ (.inl ⟨hw, hv⟩) hS h
theorem rdL (i : Nat) {o : Oper} {fuel : Nat} {listed : Array Bool} {a : Act} {w : World} (ho : ops[i]? = some o)
    (h : ∀ K' : Act → World → Prop, Shut (∀ a w, S w → (S w → wpAnyL P md ops Q S lst fuel (listed.setIfInBounds i true) a w) → K' a w) → if Region.wanted o (yielded ops a.tmps) = true then Oper.wp P o a w K' Q else K' (a.put o.dst undef) w)
    (hr : Region.ready md ops listed = [i] := by kernel_rfl) : wpAnyL P md ops Q S lst (fuel + 1) listed a w :=
  wpAnyL_ready hr (by simp) (AllReadyL.cons ho h AllReadyL.nil)
/-- One of lst comes up alone. -/
theorem lsL (i : Nat) {o : Oper} {fuel : Nat} {listed : Array Bool} {a : Act} {w : World} (ho : ops[i]? = some o)
    (h : ∀ K' : Act → World → Prop, Shut (∀ a w, wpAnyL P md ops Q S lst fuel (listed.setIfInBounds i true) a w → K' a w) → if Region.wanted o (yielded ops a.tmps) = true then Oper.wp P o a w K' Q else K' (a.put o.dst undef) w)
    (hr : Region.ready md ops listed = [i] := by kernel_rfl) (hl : i ∈ lst := by decide) : wpAnyL P md ops Q S lst (fuel + 1) listed a w :=
  wpAnyL_ready hr (by simp) (AllReadyL.last ho hl h AllReadyL.nil)
end
end Go

namespace Go.Cib
open Go.RowKit

/-! ### Worlds that are later -/

structure Later (B : Nat) (W : World) where
  to : World
  ok : Below B W to

instance {B : Nat} {W : World} : Nonempty (Later B W) := ⟨⟨W, Below.refl _ _⟩⟩

section
variable {B : Nat} {W : World}
theorem Later.cell (y : Later B W) {b o : Nat} (h : b < B) : y.to.cell? ⟨b, o, none⟩ = W.cell? ⟨b, o, none⟩ := y.ok.cell (p := ⟨b, o, none⟩) h
theorem Later.frozen (y : Later B W) {b o : Nat} (h : b < B) : y.to.frozen? ⟨b, o, none⟩ = W.frozen? ⟨b, o, none⟩ := y.ok.frozen (p := ⟨b, o, none⟩) h
theorem Later.block (y : Later B W) {b : Nat} (h : b < B) : y.to.heap[b]? = W.heap[b]? := y.ok.block b h
theorem _root_.Go.RowKit.Below.later {a : World} {B' : Nat} (h : Below B' a W) (hB : B' ≤ B) (y : Later B W) : Below B' a y.to := h.trans (y.ok.mono hB)
theorem Later.ex {w : World} (h : Below B W w) : ∃ y : Later B W, w = y.to := ⟨⟨w, h⟩, rfl⟩
theorem Later.call {P : Program} {f : FuncId} {args : Array Value} {v : Value} (y : Later B W)
    (h : Calls P f args y.to fun e w' => e = .returned v ∧ Below y.to.heap.size y.to w') (hB : B ≤ W.heap.size) :
    Calls P f args y.to fun e w'' => e = .returned v ∧ ∃ z : Later B W, w'' = z.to :=
  h.mono fun _ w' ⟨he, hb⟩ => ⟨he, ⟨⟨w', y.ok.trans (hb.mono (Nat.le_trans hB y.ok.size))⟩, rfl⟩⟩
end

/-- A region that draws its order, whose operations read, and whose callees leave what was there: in the text's order. -/
theorem wp_region_later {P : Program} {id : Nat} {Q : Exit → Act → World → Prop} {a : Act} {w : World} {l : List Oper} (hm : P.follows .mixedOrders = true) (hB : Region.lexB .any l.toArray = true)
    (h : wpQuiet P l.toArray (fun w' => ∃ y : Later w.heap.size w, w' = y.to) (fun a' => ∀ w', (∃ y : Later w.heap.size w, w' = y.to) → Q .normal a' w') l a) : (Code.region id l.toArray true).wp P Q a w :=
  wp_region_quiet (C := fun w' => ∃ y : Later w.heap.size w, w' = y.to) hm hB ⟨⟨w.drew, (Below.refl _ _).drew⟩, rfl⟩ (by simpa using h)

structure Grw (row : Option Nat) (W : World) where
  to : World
  ok : W.grownBy to row
theorem Grw.cell {row : Option Nat} {W : World} (y : Grw row W) {b o : Nat} (h : b < W.heap.size) (hn : some b ≠ row) : y.to.cell? ⟨b, o, none⟩ = W.cell? ⟨b, o, none⟩ := World.cell?_of_block (y.ok.block b h hn)
theorem Grw.frozen {row : Option Nat} {W : World} (y : Grw row W) {b o : Nat} (h : b < W.heap.size) (hn : some b ≠ row) : y.to.frozen? ⟨b, o, none⟩ = W.frozen? ⟨b, o, none⟩ := World.frozen?_of_block (y.ok.block b h hn)
theorem Grw.ex {row : Option Nat} {W w : World} (h : W.grownBy w row) : ∃ y : Grw row W, w = y.to := ⟨⟨w, h⟩, rfl⟩
theorem Later.of_grown {W w : World} (h : W.grownBy w none) : ∃ y : Later W.heap.size W, w = y.to := ⟨⟨w, ⟨h.os, h.tape, h.output, h.size, fun k hk => h.block k hk (by simp)⟩⟩, rfl⟩

theorem cell_set (w : World) (b o b' o' : Nat) (v : Value) : (w.setCell ⟨b, o, none⟩ v).cell? ⟨b', o', none⟩ = if b = b' ∧ o = o' then (w.cell? ⟨b', o', none⟩).map (fun _ => v) else w.cell? ⟨b', o', none⟩ := by
  by_cases h : b = b' ∧ o = o'
  · obtain ⟨rfl, rfl⟩ := h
    rw [if_pos ⟨rfl, rfl⟩]
    cases hc : w.cell? ⟨b, o, none⟩ with
    | some u => rw [World.cell?_setCell_same _ _ _ hc]; rfl
    | none =>
      simp only [World.setCell, World.cell?, Array.getElem?_modify, ↓reduceIte] at hc ⊢
      cases hb : w.heap[b]? with
      | none => rfl
      | some x => cases x <;> simp_all
  · rw [if_neg h]
    exact World.cell?_setCell_other _ _ _ _ (fun e => h (by injection e with e1 e2; exact ⟨e1, e2⟩))

/-! ### Readings -/

/-- A slice whose elements (of s cells each) read as xs by R, all in blocks of S. -/
def RdL {X : Type} (R : (Nat → Prop) → World → List Value → X → Prop) (s : Nat) (S : Nat → Prop) (w : World) (A : Option Addr) (n : Nat) (xs : List X) : Prop :=
  xs.length = n ∧ (0 < n → ∃ b o, A = some ⟨b, o, none⟩ ∧ S b ∧ b < w.heap.size ∧
    ∀ i x, xs[i]? = some x → ∃ cs : List Value, cs.length = s ∧ R S w cs x ∧ ∀ j v, cs[j]? = some v → w.cell? ⟨b, o + i * s + j, none⟩ = some v)

/-- What is read so stays, where the blocks of S stay. -/
def Stable {X : Type} (R : (Nat → Prop) → World → List Value → X → Prop) : Prop :=
  ∀ (S S' : Nat → Prop) (w w' : World) (cs : List Value) (x : X), R S w cs x → (∀ b, S b → b < w.heap.size → S' b ∧ w'.heap[b]? = w.heap[b]?) → R S' w' cs x

theorem lt_of_block {w w' : World} {b : Nat} (hb : b < w.heap.size) (h : w'.heap[b]? = w.heap[b]?) : b < w'.heap.size := by
  rcases Nat.lt_or_ge b w'.heap.size with h1 | h1
  · exact h1
  · rw [Array.getElem?_eq_none h1, Array.getElem?_eq_getElem hb] at h; cases h

theorem RdL.stable {X : Type} {R : (Nat → Prop) → World → List Value → X → Prop} (hR : Stable R) {s : Nat} {S S' : Nat → Prop} {w w' : World} {A : Option Addr} {n : Nat} {xs : List X}
    (h : RdL R s S w A n xs) (hk : ∀ b, S b → b < w.heap.size → S' b ∧ w'.heap[b]? = w.heap[b]?) : RdL R s S' w' A n xs :=
  ⟨h.1, fun hn => by
    obtain ⟨b, o, hA, hS, hlt, hc⟩ := h.2 hn
    refine ⟨b, o, hA, (hk b hS hlt).1, lt_of_block hlt (hk b hS hlt).2, fun i x hx => ?_⟩
    obtain ⟨cs, h1, h2, h3⟩ := hc i x hx
    exact ⟨cs, h1, hR _ _ _ _ _ _ h2 hk, fun j v hj => (World.cell?_of_block (a := ⟨b, _, none⟩) (hk b hS hlt).2).trans (h3 j v hj)⟩⟩

theorem RdL.nil {X : Type} {R : (Nat → Prop) → World → List Value → X → Prop} {s : Nat} {S : Nat → Prop} {w : World} {A : Option Addr} : RdL R s S w A 0 [] := ⟨rfl, fun h => absurd h (by omega)⟩

theorem RdL.below {X : Type} {R : (Nat → Prop) → World → List Value → X → Prop} (hR : Stable R) {s : Nat} {S : Nat → Prop} {w w' : World} {A : Option Addr} {n : Nat} {xs : List X}
    (h : RdL R s S w A n xs) (hb : Below w.heap.size w w') : RdL R s S w' A n xs := h.stable hR fun b hS hlt => ⟨hS, hb.block b hlt⟩

theorem RdL.setCell {X : Type} {R : (Nat → Prop) → World → List Value → X → Prop} (hR : Stable R) {s : Nat} {S : Nat → Prop} {w : World} {A : Option Addr} {n : Nat} {xs : List X}
    (h : RdL R s S w A n xs) {p : Addr} (hp : ¬ S p.block) (u : Value) : RdL R s S (w.setCell p u) A n xs := h.stable hR fun _ hS _ => ⟨hS, Below.heap_setCell _ _ _ _ (fun e => hp (e ▸ hS))⟩

theorem RdL.alloc {X : Type} {R : (Nat → Prop) → World → List Value → X → Prop} (hR : Stable R) {s : Nat} {S : Nat → Prop} {w : World} {A : Option Addr} {n : Nat} {xs : List X}
    (h : RdL R s S w A n xs) (o : Obj) : RdL R s S (w.alloc o) A n xs := h.stable hR fun _ hS hlt => ⟨hS, Below.heap_alloc _ _ _ hlt⟩

theorem RdL.weaken {X : Type} {R : (Nat → Prop) → World → List Value → X → Prop} (hR : Stable R) {s : Nat} {S S' : Nat → Prop} {w : World} {A : Option Addr} {n : Nat} {xs : List X}
    (h : RdL R s S w A n xs) (hS : ∀ b, S b → S' b) : RdL R s S' w A n xs := h.stable hR fun b hb _ => ⟨hS b hb, rfl⟩

theorem RdL.addr {X : Type} {R : (Nat → Prop) → World → List Value → X → Prop} {s : Nat} {S : Nat → Prop} {w : World} {A : Option Addr} {n : Nat} {xs : List X}
    (h : RdL R s S w A n xs) {k : Nat} (hk : k < n) : ∃ b o, A = some ⟨b, o, none⟩ ∧ S b ∧ b < w.heap.size := by
  obtain ⟨b, o, h1, h2, h3, _⟩ := h.2 (by omega)
  exact ⟨b, o, h1, h2, h3⟩

theorem RdL.at {X : Type} {R : (Nat → Prop) → World → List Value → X → Prop} {s : Nat} {S : Nat → Prop} {w : World} {b o : Nat} {n : Nat} {xs : List X}
    (h : RdL R s S w (some ⟨b, o, none⟩) n xs) {k : Nat} (hk : k < n) : ∃ (hl : k < xs.length) (cs : List Value), cs.length = s ∧ R S w cs xs[k] ∧ ∀ j v, cs[j]? = some v → w.cell? ⟨b, o + k * s + j, none⟩ = some v := by
  obtain ⟨b', o', hA, _, _, hc⟩ := h.2 (by omega)
  obtain ⟨rfl, rfl⟩ : b = b' ∧ o = o' := by simpa using hA
  have hl : k < xs.length := by rw [h.1]; exact hk
  obtain ⟨cs, h1, h2, h3⟩ := hc k xs[k] (List.getElem?_eq_getElem hl)
  exact ⟨hl, cs, h1, h2, h3⟩

/-- An int. -/
def IntR (_ : Nat → Prop) (_ : World) (cs : List Value) (x : Int) : Prop := cs = [.int .i64 x]
theorem IntR.stable : Stable IntR := fun _ _ _ _ _ _ h _ => h
/-- A uint64. -/
def U64R (_ : Nat → Prop) (_ : World) (cs : List Value) (x : Int) : Prop := cs = [.int .u64 x]
theorem U64R.stable : Stable U64R := fun _ _ _ _ _ _ h _ => h
theorem IntR.one : ∀ S w cs x, IntR S w cs x → ∀ u ∈ cs, u.oneCell' = true := by
  rintro S w cs x rfl u hu
  simp at hu
  subst hu; rfl
theorem U64R.one : ∀ S w cs x, U64R S w cs x → ∀ u ∈ cs, u.oneCell' = true := by
  rintro S w cs x rfl u hu
  simp at hu
  subst hu; rfl

/-! ### Slices of the call's own -/

structure SlTy (P : Program) (T E : TypeId) (z : Value) (size bytes : Nat) : Prop where
  und : P.underlying T = some (.slice E)
  info : (P.info? E).map (fun i => (i.zero, i.size, i.bytes)) = some (some z, size, bytes)
  zsz : z.cells.size = size
  pos : 0 < size

/-- The blocks of S but that of v. -/
def Rest (S : Nat → Prop) (v : Value) (b : Nat) : Prop := S b ∧ some b ≠ v.ownBlock

def OwnL {X : Type} (R : (Nat → Prop) → World → List Value → X → Prop) (E : TypeId) (s base : Nat) (S : Nat → Prop) (w : World) (v : Value) (n : Nat) (xs : List X) : Prop :=
  ∃ css : List (List Value), w.ownsRow base E s v n css.flatten ∧ xs.length = n ∧ css.length = n ∧ (∀ cs ∈ css, cs.length = s) ∧
    ∀ (i : Nat) (cs : List Value) (x : X), css[i]? = some cs → xs[i]? = some x → R (Rest S v) w cs x


section
variable {X : Type} {R : (Nat → Prop) → World → List Value → X → Prop} {E : TypeId} {s base : Nat} {S : Nat → Prop} {w w' : World} {v v' : Value} {n : Nat} {xs : List X}

theorem OwnL.nil_ : OwnL R E s base S w (.slice none 0 0) 0 [] := ⟨[], ⟨by simp, .inl ⟨rfl, rfl⟩⟩, rfl, rfl, by simp, by simp⟩

/-- A new row, made with a length of 0. -/
theorem OwnL.made (cur : Array Value) (cap : Nat) (hb : base ≤ w.heap.size) (hm : cap ≤ maxLen) (hs : cur.size = cap * s) :
    OwnL R E s base S (w.alloc (.cells cur E)) (.slice (some ⟨w.heap.size, 0, none⟩) 0 cap) 0 [] :=
  ⟨[], World.ownsRow_made w cur cap hb hm hs, rfl, rfl, by simp, by simp⟩

/-- Behind whatever leaves all old blocks but perhaps v's own, and v as an owned row. -/
theorem OwnL.keep (hR : Stable R) (h : OwnL R E s base S w v n xs) (hb : Below w.heap.size w w') : OwnL R E s base S w' v n xs := by
  obtain ⟨css, h1, h2, h3, h4, h5⟩ := h
  refine ⟨css, h1.kept (row := none) ⟨hb.os, hb.tape, hb.output, hb.size, fun k hk _ => hb.block k hk⟩ (by cases hv : v.ownBlock <;> simp), h2, h3, h4, fun i cs x hc hx => ?_⟩
  exact hR _ _ _ _ _ _ (h5 i cs x hc hx) fun b hS hlt => ⟨hS, hb.block b hlt⟩

theorem OwnL.alloc (hR : Stable R) (h : OwnL R E s base S w v n xs) (o : Obj) : OwnL R E s base S (w.alloc o) v n xs := h.keep hR ((Below.refl _ _).alloc (Nat.le_refl _) o)

/-- While another slice of the call's own grows. -/
theorem OwnL.other {S' : Nat → Prop} {v2 : Value} (hR : Stable R) (h : OwnL R E s base S w v n xs) (hg : w.grownBy w' v2.ownBlock) (hne : v.ownBlock = none ∨ v.ownBlock ≠ v2.ownBlock)
    (hS : ∀ b, S b → some b ≠ v2.ownBlock) (hS' : ∀ b, S b → b < w.heap.size → S' b) : OwnL R E s base S' w' v n xs := by
  obtain ⟨css, h1, h2, h3, h4, h5⟩ := h
  refine ⟨css, h1.kept hg hne, h2, h3, h4, fun i cs x hc hx => ?_⟩
  exact hR _ _ _ _ _ _ (h5 i cs x hc hx) fun b hb hlt => ⟨⟨hS' b hb.1 hlt, hb.2⟩, hg.block b hlt (hS b hb.1)⟩

theorem flatten_get {α : Type} {s : Nat} : ∀ (css : List (List α)) (_ : ∀ cs ∈ css, cs.length = s) (i : Nat) (cs : List α) (j : Nat), css[i]? = some cs → j < s → css.flatten[i * s + j]? = cs[j]?
  | [], _, i, cs, j, h, _ => by simp at h
  | c :: css, hl, 0, cs, j, h, hj => by
    have hc : c.length = s := hl c (by simp)
    simp at h; subst h
    rw [List.flatten_cons, List.getElem?_append_left (by omega)]; simp
  | c :: css, hl, i + 1, cs, j, h, hj => by
    have hc : c.length = s := hl c (by simp)
    rw [List.flatten_cons, List.getElem?_append_right (by rw [hc, Nat.add_mul]; omega), hc]
    have : (i + 1) * s + j - s = i * s + j := by rw [Nat.add_mul]; omega
    rw [this]
    exact flatten_get css (fun cs h => hl cs (List.mem_cons_of_mem _ h)) i cs j (by simpa using h) hj

theorem OwnL.form (h : OwnL R E s base S w v n xs) : ∃ A c, v = .slice A n c ∧ n ≤ c := by
  obtain ⟨css, h1, _⟩ := h
  rcases h1.2 with ⟨rfl, rfl⟩ | ⟨g, cap, cur, rfl, _, _, hnc, _⟩
  · exact ⟨none, 0, rfl, Nat.le_refl _⟩
  · exact ⟨_, cap, rfl, hnc⟩

/-- As a reading. -/
theorem OwnL.rd {S' : Nat → Prop} (h : OwnL R E s base S w v n xs) (hb : ∀ k, base ≤ k → S' k) (hel : ∀ cs x, R (Rest S v) w cs x → R S' w cs x) : ∃ A c, v = .slice A n c ∧ n ≤ c ∧ RdL R s S' w A n xs := by
  obtain ⟨css, h1, h2, h3, h4, h5⟩ := h
  rcases h1.2 with ⟨rfl, rfl⟩ | ⟨g, cap, cur, rfl, hg, hblk, hnc, hcm, hsz, ht⟩
  · exact ⟨none, 0, rfl, Nat.le_refl _, by rw [List.length_eq_zero_iff.1 h2]; exact RdL.nil⟩
  · refine ⟨_, cap, rfl, hnc, h2, fun _ => ⟨g, 0, rfl, hb g hg, (Array.getElem?_eq_some_iff.1 hblk).1, fun i x hx => ?_⟩⟩
    have hi : i < css.length := by have := (List.getElem?_eq_some_iff.1 hx).1; omega
    refine ⟨css[i], h4 _ (List.getElem_mem _), hel _ _ (h5 i _ x (List.getElem?_eq_getElem hi) hx), fun j u hj => ?_⟩
    have hjs : j < s := by have h6 := (List.getElem?_eq_some_iff.1 hj).1; have h7 := h4 _ (List.getElem_mem hi); omega
    have hf := flatten_get css h4 i css[i] j (List.getElem?_eq_getElem hi) hjs
    have hc := h1.cells (g := g) rfl (i * s + j) u (by rw [hf]; exact hj)
    have ha : (⟨g, 0, none⟩ : Addr).add (i * s + j) = ⟨g, 0 + i * s + j, none⟩ := by unfold Addr.add; split <;> simp_all <;> omega
    rw [ha] at hc
    exact hc
end

section
variable {P : Program} {ops : Array Oper} {rest : List Oper} {o : Oper} {a : Act} {Q : Exit → Act → World → Prop} {w : World}

/-- append(s, x) of one element, that lies in a row: onto a slice of the call's own. -/
theorem wpList_push {X : Type} {R : (Nat → Prop) → World → List Value → X → Prop} (hR : Stable R) {T E : TypeId} {z : Value} {size bytes : Nat} (st : SlTy P T E z size bytes) {s x : Operand}
    (hgd : o.guard = none) (ho : o.op = .call { callee := .builtin .append, args := #[s, x], argTypes := #[T, T] })
    {base n : Nat} {S : Nat → Prop} {v : Value} {xs : List X} (hs : a.eval s = v) (hown : OwnL R E size base S w v n xs)
    {b off c : Nat} {cs : List Value} {y : X} (hx : a.eval x = .slice (some ⟨b, off, none⟩) 1 c) (hcs : cs.length = size) (hcell : ∀ j u, cs[j]? = some u → w.cell? ⟨b, off + j, none⟩ = some u)
    (h1 : ∀ u ∈ cs, u.oneCell' = true) (hy : R (Rest S v) w cs y)
    (hlen : n + 1 ≤ maxLen) (hbytes : (n + 1) * bytes ≤ 140737488355328) (hbase : base ≤ w.heap.size)
    (h' : ∀ A' c' w', n + 1 ≤ c' → OwnL R E size base S w' (.slice A' (n + 1) c') (n + 1) (xs ++ [y]) → w.grownBy w' v.ownBlock → (Value.ownBlock (.slice A' (n + 1) c') = v.ownBlock ∨ Value.ownBlock (.slice A' (n + 1) c') = some w.heap.size) → wpList P ops Q rest (a.put o.dst (.slice A' (n + 1) c')) w') :
    wpList P ops Q (o :: rest) a w := by
  have h : ∀ v' w', OwnL R E size base S w' v' (n + 1) (xs ++ [y]) → w.grownBy w' v.ownBlock → (v'.ownBlock = v.ownBlock ∨ v'.ownBlock = some w.heap.size) → wpList P ops Q rest (a.put o.dst v') w' := fun v' w' e1 e2 e3 => by
    obtain ⟨A, c, rfl, e4⟩ := e1.form
    exact h' A c w' e4 e1 e2 e3
  obtain ⟨i, hi, hz, hsz, hby⟩ := info_parts st.info
  obtain ⟨css, k1, k2, k3, k4, k5⟩ := hown
  have hn0 : 0 < size := st.pos
  refine wpList_append_own_at w hgd s x T ho base E i z size bytes st.und hi hz hsz hby st.zsz hn0 v n css.flatten hs k1 ⟨b, off, none⟩ 1 c cs hx (by omega) (fun j u hj => by rw [Addr.add_lit]; exact hcell j u hj) h1 hlen hbytes hbase ?_
  intro v' w' hown' hg _ hat
  refine h v' w' ⟨css ++ [cs], by simpa using hown', by simp [k2], by simp [k3], ?_, ?_⟩ hg hat
  · intro c' hc'
    rcases List.mem_append.1 hc' with hc' | hc'
    · exact k4 _ hc'
    · rw [List.mem_singleton.1 hc']; exact hcs
  · have hst : ∀ (b : Nat), Rest S v b → b < w.heap.size → Rest S v' b ∧ w'.heap[b]? = w.heap[b]? := fun b hS hlt => by
      refine ⟨⟨hS.1, ?_⟩, hg.block b hlt hS.2⟩
      rcases hat with e | e
      · rw [e]; exact hS.2
      · rw [e]; intro h; injection h with h; omega
    intro i c' y' hc' hy'
    by_cases hin : i < n
    · rw [List.getElem?_append_left (by omega)] at hc' hy'
      exact hR _ _ _ _ _ _ (k5 i c' y' hc' hy') hst
    · have hie : i = n := by
        have := (List.getElem?_eq_some_iff.1 hy').1
        simp [k2] at this; omega
      subst hie
      rw [List.getElem?_append_right (by omega)] at hc' hy'
      simp only [k3, k2, Nat.sub_self, List.getElem?_cons_zero, Option.some.injEq] at hc' hy'
      subst hc'; subst hy'
      exact hR _ _ _ _ _ _ hy hst

/-- append(s, xs...): onto a slice of the call's own. -/
theorem wpList_appL {X : Type} {R : (Nat → Prop) → World → List Value → X → Prop} (hR : Stable R) (hone : ∀ S w cs x, R S w cs x → ∀ u ∈ cs, u.oneCell' = true) {T E : TypeId} {z : Value} {size bytes : Nat} (st : SlTy P T E z size bytes) {s x : Operand}
    (hgd : o.guard = none) (ho : o.op = .call { callee := .builtin .append, args := #[s, x], argTypes := #[T, T] })
    {base n : Nat} {S S0 : Nat → Prop} {v : Value} {xs : List X} (hs : a.eval s = v) (hown : OwnL R E size base S w v n xs)
    {A : Option Addr} {m c : Nat} {ys : List X} (hx : a.eval x = .slice A m c) (hr : RdL R size S0 w A m ys)
    (hy : ∀ cs y, R S0 w cs y → R (Rest S v) w cs y)
    (hlen : n + m ≤ maxLen) (hbytes : (n + m) * bytes ≤ 140737488355328) (hbase : base ≤ w.heap.size)
    (h' : ∀ A' c' w', n + m ≤ c' → OwnL R E size base S w' (.slice A' (n + m) c') (n + m) (xs ++ ys) → w.grownBy w' v.ownBlock → (Value.ownBlock (.slice A' (n + m) c') = v.ownBlock ∨ Value.ownBlock (.slice A' (n + m) c') = some w.heap.size) → wpList P ops Q rest (a.put o.dst (.slice A' (n + m) c')) w') :
    wpList P ops Q (o :: rest) a w := by
  have h : ∀ v' w', OwnL R E size base S w' v' (n + m) (xs ++ ys) → w.grownBy w' v.ownBlock → (v'.ownBlock = v.ownBlock ∨ v'.ownBlock = some w.heap.size) → wpList P ops Q rest (a.put o.dst v') w' := fun v' w' e1 e2 e3 => by
    obtain ⟨A, c, rfl, e4⟩ := e1.form
    exact h' A c w' e4 e1 e2 e3
  obtain ⟨i, hi, hz, hsz, hby⟩ := info_parts st.info
  obtain ⟨css, k1, k2, k3, k4, k5⟩ := hown
  have hn0 : 0 < size := st.pos
  rcases Nat.eq_zero_or_pos m with hm | hm
  · subst hm
    have hys : ys = [] := List.length_eq_zero_iff.1 hr.1
    subst hys
    refine wpList_plain hgd fun K hK => ?_
    have hrun : (Builtin.append_ #[T, T] o.type #[v, .slice A 0 c]).run P w = .ok v w := by
      rcases k1.2 with ⟨rfl, rfl⟩ | ⟨g, cap, cur, rfl, _, _, hnc, _⟩
      · cases A <;> simp [Builtin.append_, run_underlying st.und, sizeOf, typeInfo, hi, Builtin.lenOf, Builtin.firstCells, loadCells, loadCellsFrom]
      · cases A <;> simp [Builtin.append_, run_underlying st.und, sizeOf, typeInfo, hi, Builtin.lenOf, Builtin.firstCells, hnc, storeCells, loadCells, loadCellsFrom]
    unfold Oper.wp execOp
    simp only [ho, resolve, invoke, builtin, Sem.run_bind, Sem.run_pure, Result.andThen_ok, List.map_toArray, List.map_cons, List.map_nil, hs, hx, hrun]
    exact hK _ _ (h v w ⟨css, by simpa using k1, by simpa using k2, by simpa using k3, k4, by simpa using k5⟩ (World.grownBy.refl w _) (.inl rfl))
  · obtain ⟨b, off, rfl, _, _, hc⟩ := hr.2 hm
    have hex : ∃ news : List (List Value), news.length = m ∧ ∀ i cs, news[i]? = some cs → ∃ y, ys[i]? = some y ∧ cs.length = size ∧ R S0 w cs y ∧ ∀ j u, cs[j]? = some u → w.cell? ⟨b, off + i * size + j, none⟩ = some u := by
      have hall : ∀ k, k ≤ m → ∃ news : List (List Value), news.length = k ∧ ∀ i cs, news[i]? = some cs → ∃ y, ys[i]? = some y ∧ cs.length = size ∧ R S0 w cs y ∧ ∀ j u, cs[j]? = some u → w.cell? ⟨b, off + i * size + j, none⟩ = some u := by
        intro k
        induction k with
        | zero => exact fun _ => ⟨[], rfl, by simp⟩
        | succ k ih =>
          intro hk
          obtain ⟨news, hl, hn⟩ := ih (by omega)
          have hky : k < ys.length := by rw [hr.1]; omega
          obtain ⟨cs, e1, e2, e3⟩ := hc k ys[k] (List.getElem?_eq_getElem hky)
          refine ⟨news ++ [cs], by simp [hl], fun i cs' hi' => ?_⟩
          by_cases hik : i < k
          · rw [List.getElem?_append_left (by omega)] at hi'
            exact hn i cs' hi'
          · have : i = k := by
              have := (List.getElem?_eq_some_iff.1 hi').1
              simp [hl] at this; omega
            subst this
            rw [List.getElem?_append_right (by omega)] at hi'
            simp only [hl, Nat.sub_self, List.getElem?_cons_zero, Option.some.injEq] at hi'
            subst hi'
            exact ⟨_, List.getElem?_eq_getElem hky, e1, e2, e3⟩
      exact hall m (Nat.le_refl _)
    obtain ⟨news, hl, hn⟩ := hex
    have hlen1 : ∀ cs ∈ news, cs.length = size := fun cs hcs => by
      obtain ⟨i, hi', rfl⟩ := List.mem_iff_getElem.1 hcs
      obtain ⟨_, _, h2, _⟩ := hn i _ (List.getElem?_eq_getElem hi')
      exact h2
    have hfl : ∀ (l : List (List Value)), (∀ cs ∈ l, cs.length = size) → l.flatten.length = l.length * size := by
      intro l
      induction l with
      | nil => simp
      | cons c l ih =>
        intro hh
        rw [List.flatten_cons, List.length_append, ih (fun cs h => hh cs (List.mem_cons_of_mem _ h)), hh c (by simp), List.length_cons, Nat.add_mul]; omega
    refine wpList_append_own_at w hgd s x T ho base E i z size bytes st.und hi hz hsz hby st.zsz hn0 v n css.flatten hs k1 ⟨b, off, none⟩ m c news.flatten hx (by rw [hfl news hlen1, hl]) ?_ ?_ hlen hbytes hbase ?_
    · intro j u hj
      rw [Addr.add_lit]
      have hjl : j < news.length * size := by rw [← hfl news hlen1]; exact (List.getElem?_eq_some_iff.1 hj).1
      have hq : j / size < news.length := Nat.div_lt_of_lt_mul (by rw [Nat.mul_comm]; exact hjl)
      have hjm : j = (j / size) * size + j % size := by rw [Nat.mul_comm]; exact (Nat.div_add_mod j size).symm
      obtain ⟨y, _, _, _, h4⟩ := hn (j / size) _ (List.getElem?_eq_getElem hq)
      have hf := flatten_get news hlen1 (j / size) _ (j % size) (List.getElem?_eq_getElem hq) (Nat.mod_lt _ hn0)
      rw [← hjm] at hf
      rw [hf] at hj
      have h5 := h4 _ u hj
      rw [show off + j / size * size + j % size = off + j by omega] at h5
      exact h5
    · intro u hu
      obtain ⟨cs, hcs, huc⟩ := List.mem_flatten.1 hu
      obtain ⟨i, hi', rfl⟩ := List.mem_iff_getElem.1 hcs
      obtain ⟨y, _, _, h3, _⟩ := hn i _ (List.getElem?_eq_getElem hi')
      exact hone _ _ _ _ h3 u huc
    · intro v' w' hown' hg _ hat
      have hst : ∀ (b : Nat), Rest S v b → b < w.heap.size → Rest S v' b ∧ w'.heap[b]? = w.heap[b]? := fun b hS hlt => by
        refine ⟨⟨hS.1, ?_⟩, hg.block b hlt hS.2⟩
        rcases hat with e | e
        · rw [e]; exact hS.2
        · rw [e]; intro h; injection h with h; omega
      refine h v' w' ⟨css ++ news, by simpa using hown', by simp [k2, hr.1], by simp [k3, hl], ?_, ?_⟩ hg hat
      · intro c' hc'
        rcases List.mem_append.1 hc' with hc' | hc'
        · exact k4 _ hc'
        · exact hlen1 _ hc'
      · intro i c' y' hc' hy'
        by_cases hin : i < n
        · rw [List.getElem?_append_left (by omega)] at hc' hy'
          exact hR _ _ _ _ _ _ (k5 i c' y' hc' hy') hst
        · rw [List.getElem?_append_right (by omega)] at hc' hy'
          rw [k3] at hc'; rw [k2] at hy'
          obtain ⟨y, e1, _, e3, _⟩ := hn _ _ hc'
          rw [e1] at hy'; injection hy' with hy'; subst hy'
          exact hR _ _ _ _ _ _ (hy _ _ e3) hst
end

theorem OwnL.lt {X : Type} {R : (Nat → Prop) → World → List Value → X → Prop} {E : TypeId} {s base : Nat} {S : Nat → Prop} {w : World} {v : Value} {n : Nat} {xs : List X} (h : OwnL R E s base S w v n xs) :
    ∀ k, v.ownBlock = some k → base ≤ k ∧ k < w.heap.size := by
  obtain ⟨css, h1, _⟩ := h
  exact h1.lt
theorem OwnL.rest {X : Type} {R : (Nat → Prop) → World → List Value → X → Prop} {E : TypeId} {s base : Nat} {S : Nat → Prop} {w : World} {v : Value} {n : Nat} {xs : List X} (h : OwnL R E s base S w v n xs) {b : Nat} (hS : S b) (hb : w.heap.size ≤ b) : Rest S v b :=
  ⟨hS, fun e => by have := (h.lt b e.symm).2; omega⟩

section
variable {P : Program} {ops : Array Oper} {rest : List Oper} {o : Oper} {a : Act} {Q : Exit → Act → World → Prop} {w : World}
/-- make([]T, 0, n). -/
theorem wpList_make0 {X : Type} (R : (Nat → Prop) → World → List Value → X → Prop) (S : Nat → Prop) {T E : TypeId} {z : Value} {size bytes : Nat} (st : SlTy P T E z size bytes) {l c : Operand}
    (hgd : o.guard = none) (ho : o.op = .makeSlice T l c) {base : Nat} {kl kc : IntKind} {C : Int} (hl : a.eval l = .int kl 0) (hc : a.eval c = .int kc C)
    (n : Nat) (hC : C = (n : Int)) (hbytes : bytes * n ≤ 281474976710656) (hn : n ≤ maxLen) (hbase : base ≤ w.heap.size)
    (h : ∀ (y : Later w.heap.size w), w.heap.size < y.to.heap.size → OwnL R E size base S y.to (.slice (some ⟨w.heap.size, 0, none⟩) 0 n) 0 [] → wpList P ops Q rest (a.put o.dst (.slice (some ⟨w.heap.size, 0, none⟩) 0 n)) y.to) :
    wpList P ops Q (o :: rest) a w := by
  obtain ⟨i, hi, hz, hsz, hby⟩ := info_parts st.info
  subst hby
  refine wpList_make_own w hgd l c T ho base E i z size st.und hi hz hsz kl kc C n hl hc hC hbytes hn hbase ?_
  intro w' hown hg
  have hlt := (hown.lt w.heap.size rfl).2
  obtain ⟨y, rfl⟩ := Later.of_grown hg
  exact h y hlt ⟨[], hown, rfl, rfl, by simp, by simp⟩

end

end Go.Cib

namespace Go.Cib
open Go.RowKit

section
variable {P : Program} {ops : Array Oper} {rest : List Oper} {o : Oper} {a : Act} {Q : Exit → Act → World → Prop} {W : World}
/-- append(s, x): x lies in the row that was just laid for it. -/
theorem wpList_push1 {X : Type} {R : (Nat → Prop) → World → List Value → X → Prop} (hR : Stable R) (hone : ∀ S w cs x, R S w cs x → ∀ u ∈ cs, u.oneCell' = true) {T E : TypeId} {z : Value} {size bytes : Nat} (st : SlTy P T E z size bytes) {s x : Operand}
    (hgd : o.guard = none) (ho : o.op = .call { callee := .builtin .append, args := #[s, x], argTypes := #[T, T] })
    {base n c : Nat} {S : Nat → Prop} {v : Value} {xs : List X} {cs : Array Value} {y : X} (hs : a.eval s = v) (hx : a.eval x = .slice (some ⟨W.heap.size, 0, none⟩) 1 c)
    (hown : OwnL R E size base S W v n xs) (hcs : cs.size = size) (hy : R (Rest S v) W cs.toList y)
    (hlen : n + 1 ≤ maxLen) (hbytes : (n + 1) * bytes ≤ 140737488355328) (hbase : base ≤ W.heap.size)
    (h : ∀ A' c' (u : Grw v.ownBlock W), n + 1 ≤ c' → OwnL R E size base S u.to (.slice A' (n + 1) c') (n + 1) (xs ++ [y]) → W.heap.size < u.to.heap.size → Below base W u.to → (Value.ownBlock (.slice A' (n + 1) c') = v.ownBlock ∨ Value.ownBlock (.slice A' (n + 1) c') = some (W.heap.size + 1)) → wpList P ops Q rest (a.put o.dst (.slice A' (n + 1) c')) u.to) :
    wpList P ops Q (o :: rest) a (W.alloc (.cells cs E)) := by
  have hal : Below W.heap.size W (W.alloc (.cells cs E)) := (Below.refl _ _).alloc (Nat.le_refl _) _
  refine wpList_push hR st hgd ho hs (hown.keep hR hal) (b := W.heap.size) (off := 0) (cs := cs.toList) (y := y) hx (by simpa using hcs) ?_ (hone _ _ _ _ hy) (hR _ _ _ _ _ _ hy fun b hb hlt => ⟨hb, hal.block b hlt⟩) hlen hbytes (by simp only [World.size_alloc]; omega) ?_
  · intro j u hj
    have hnew : (W.alloc (.cells cs E)).heap[W.heap.size]? = some (.cells cs E (0, 0)) := heap_alloc_new W _
    rw [cell_of_row _ W.heap.size (0 + j) cs E (0, 0) hnew]
    simpa using hj
  · intro A' c' w' hc hown' hg hat
    have hg2 : W.grownBy w' v.ownBlock := ⟨hg.os, hg.tape, hg.output, by have := hg.size; simp only [World.size_alloc] at this; omega, fun k hk hne => (hg.block k (by simp only [World.size_alloc]; omega) hne).trans (Below.heap_alloc _ _ _ hk)⟩
    refine h A' c' ⟨w', hg2⟩ hc hown' ?_ ?_ ?_
    · have := hg.size; simp only [World.size_alloc] at this; exact this
    · exact (Below.refl _ _).grown hg2 hbase (fun k hk => (hown.lt k hk).1)
    · simpa only [World.size_alloc] using hat
end

theorem OwnL.len {X : Type} {R : (Nat → Prop) → World → List Value → X → Prop} {E : TypeId} {s base : Nat} {S : Nat → Prop} {w : World} {v : Value} {n : Nat} {xs : List X} (h : OwnL R E s base S w v n xs) : xs.length = n := by
  obtain ⟨_, _, h2, _⟩ := h
  exact h2

/-- A row that was just laid for one element, as a slice of the call's own. -/
theorem OwnL.lit {X : Type} {R : (Nat → Prop) → World → List Value → X → Prop} (hR : Stable R) {E : TypeId} {s base : Nat} {S : Nat → Prop} {W : World} {cs : Array Value} {y : X} (hcs : cs.size = s) (hb : base ≤ W.heap.size) (hy : R S W cs.toList y) :
    OwnL R E s base S (W.alloc (.cells cs E)) (.slice (some ⟨W.heap.size, 0, none⟩) 1 1) 1 [y] := by
  refine ⟨[cs.toList], ?_, rfl, rfl, by simpa using hcs, ?_⟩
  · have := World.ownsRow_lit (base := base) (e := E) (size := s) W cs 1 hb (by unfold maxLen; omega) (by simpa using hcs)
    simpa using this
  · intro i c x hc hx
    match i, hc, hx with
    | 0, hc, hx =>
      simp only [List.getElem?_cons_zero, Option.some.injEq] at hc hx
      subst hc; subst hx
      refine hR _ _ _ _ _ _ hy fun b hS hlt => ⟨⟨hS, ?_⟩, Below.heap_alloc _ _ _ hlt⟩
      intro e
      simp [Value.ownBlock] at e
      omega

/-- Two slices of the call's own, side by side. -/
def Own2 {X : Type} (R : (Nat → Prop) → World → List Value → X → Prop) (E : TypeId) (s base : Nat) (S : Nat → Prop) (w : World) (v1 v2 : Value) (n1 n2 : Nat) (l1 l2 : List X) : Prop :=
  OwnL R E s base (fun b => S b ∧ some b ≠ v2.ownBlock) w v1 n1 l1 ∧ OwnL R E s base (fun b => S b ∧ some b ≠ v1.ownBlock) w v2 n2 l2 ∧ (v1.ownBlock = none ∨ v1.ownBlock ≠ v2.ownBlock)

section
variable {X : Type} {R : (Nat → Prop) → World → List Value → X → Prop} {E : TypeId} {s base : Nat} {S : Nat → Prop} {w w' : World} {v1 v2 v1' : Value} {n1 n2 n1' : Nat} {l1 l2 l1' : List X}
theorem Own2.nil_ : Own2 R E s base S w (.slice none 0 0) (.slice none 0 0) 0 0 [] [] := ⟨OwnL.nil_, OwnL.nil_, .inl rfl⟩
theorem Own2.swap (h : Own2 R E s base S w v1 v2 n1 n2 l1 l2) : Own2 R E s base S w v2 v1 n2 n1 l2 l1 :=
  ⟨h.2.1, h.1, by rcases h.2.2 with e | e
                  · cases hv : v2.ownBlock with
                    | none => exact .inl rfl
                    | some k => rw [e]; exact .inr (by simp)
                  · exact .inr (Ne.symm e)⟩
theorem Own2.keep (hR : Stable R) (h : Own2 R E s base S w v1 v2 n1 n2 l1 l2) (hb : Below w.heap.size w w') : Own2 R E s base S w' v1 v2 n1 n2 l1 l2 :=
  ⟨h.1.keep hR hb, h.2.1.keep hR hb, h.2.2⟩
theorem Own2.pushed (hR : Stable R) (h : Own2 R E s base S w v1 v2 n1 n2 l1 l2) (hg : w.grownBy w' v1.ownBlock) (hat : v1'.ownBlock = v1.ownBlock ∨ ∃ k, w.heap.size ≤ k ∧ v1'.ownBlock = some k)
    (h1 : OwnL R E s base (fun b => S b ∧ some b ≠ v2.ownBlock) w' v1' n1' l1') : Own2 R E s base S w' v1' v2 n1' n2 l1' l2 := by
  have hlt := h.2.1.lt
  refine ⟨h1, h.2.1.other hR hg ?_ (fun b hb => hb.2) (fun b hb hbl => ⟨hb.1, ?_⟩), ?_⟩
  · exact h.swap.2.2
  · rcases hat with e | ⟨k, hk, e⟩
    · rw [e]; exact hb.2
    · rw [e]; intro h; injection h with h; omega
  · rcases hat with e | ⟨k, hk, e⟩
    · rw [e]; exact h.2.2
    · right; rw [e]; intro h
      have := hlt _ h.symm; omega
theorem Own2.rd {A1 A2 : Option Addr} {c1 c2 : Nat} {S' : Nat → Prop} (hR : Stable R) (h : Own2 R E s base S w (.slice A1 n1 c1) (.slice A2 n2 c2) n1 n2 l1 l2) (hB : ∀ b, base ≤ b → S' b) (hS : ∀ b, S b → S' b) : RdL R s S' w A1 n1 l1 ∧ n1 ≤ c1 := by
  obtain ⟨A, c, e, hc, hr⟩ := h.1.rd (S' := S') hB (fun cs x hx => hR _ _ _ _ _ _ hx fun b hb _ => ⟨hS b hb.1.1, rfl⟩)
  injection e with e1 e2 e3
  subst e1; subst e3
  exact ⟨hr, hc⟩
end

/-- A variable that was put aside: block b holds just these cells. -/
def BoxAt (w : World) (b : Nat) (cs : Array Value) : Prop := ∃ t, w.heap[b]? = some (.cells cs t (0, 0))
section
variable {w w' : World} {b : Nat} {cs : Array Value}
theorem BoxAt.cell (h : BoxAt w b cs) (o : Nat) : w.cell? ⟨b, o, none⟩ = cs[o]? := by
  obtain ⟨t, h⟩ := h
  exact cell_of_row w b o cs t (0, 0) h
theorem BoxAt.frozen (h : BoxAt w b cs) (o : Nat) : w.frozen? ⟨b, o, none⟩ = false := by
  obtain ⟨t, h⟩ := h
  simp [World.frozen?, h]
theorem BoxAt.lt (h : BoxAt w b cs) : b < w.heap.size := by
  obtain ⟨t, h⟩ := h
  exact (Array.getElem?_eq_some_iff.1 h).1
theorem BoxAt.keep (h : BoxAt w b cs) (hb : w'.heap[b]? = w.heap[b]?) : BoxAt w' b cs := by
  obtain ⟨t, h⟩ := h
  exact ⟨t, hb.trans h⟩
theorem BoxAt.below (h : BoxAt w b cs) (hb : Below w.heap.size w w') : BoxAt w' b cs := h.keep (hb.block b h.lt)
theorem BoxAt.alloc (h : BoxAt w b cs) (o : Obj) : BoxAt (w.alloc o) b cs := h.keep (Below.heap_alloc _ _ _ h.lt)
theorem BoxAt.grw {row : Option Nat} (h : BoxAt w b cs) (hg : w.grownBy w' row) (hne : some b ≠ row) : BoxAt w' b cs := h.keep (hg.block b h.lt hne)
theorem BoxAt.new (w : World) (cs : Array Value) (t : TypeId) : BoxAt (w.alloc (.cells cs t)) w.heap.size cs := ⟨t, heap_alloc_new w _⟩
end

/-- A row that was just laid for one element, as a reading. -/
theorem RdL.one {X : Type} {R : (Nat → Prop) → World → List Value → X → Prop} (hR : Stable R) {E : TypeId} {s : Nat} {S : Nat → Prop} {W : World} {cs : Array Value} {y : X} (hcs : cs.size = s) (hy : R S W cs.toList y) :
    RdL R s (fun _ => True) (W.alloc (.cells cs E)) (some ⟨W.heap.size, 0, none⟩) 1 [y] := by
  obtain ⟨A, c, e, _, hr⟩ := (OwnL.lit hR (E := E) (s := s) (base := 0) hcs (Nat.zero_le _) hy).rd (S' := fun _ => True) (fun _ _ => trivial) (fun cs x hx => hR _ _ _ _ _ _ hx fun _ _ _ => ⟨trivial, rfl⟩)
  injection e with e1 e2 e3
  subst e1
  exact hr

end Go.Cib

set_option linter.unusedSimpArgs false
set_option linter.unusedVariables false
namespace Go.Cib
open Go.RowKit

/-- What was there outside of F is there. -/
structure Keep (F : Nat → Prop) (a w : World) : Prop where
  os : w.os = a.os
  tape : w.tape = a.tape
  output : w.output = a.output
  size : a.heap.size ≤ w.heap.size
  block : ∀ k, k < a.heap.size → ¬ F k → w.heap[k]? = a.heap[k]?

section
variable {F G : Nat → Prop} {a w w' : World}
theorem Keep.refl (F : Nat → Prop) (w : World) : Keep F w w := ⟨rfl, rfl, rfl, Nat.le_refl _, fun _ _ _ => rfl⟩
theorem Keep.of_below (h : Below a.heap.size a w) : Keep F a w := ⟨h.os, h.tape, h.output, h.size, fun k hk _ => h.block k hk⟩
theorem Keep.mono (h : Keep F a w) (hF : ∀ k, F k → k < a.heap.size → G k) : Keep G a w := ⟨h.os, h.tape, h.output, h.size, fun k hk hg => h.block k hk fun hf => hg (hF k hf hk)⟩
theorem Keep.trans (h : Keep F a w) (h2 : Keep G w w') (hG : ∀ k, G k → k < a.heap.size → F k) : Keep F a w' :=
  ⟨h2.os.trans h.os, h2.tape.trans h.tape, h2.output.trans h.output, Nat.le_trans h.size h2.size, fun k hk hf => (h2.block k (Nat.lt_of_lt_of_le hk h.size) fun hg => hf (hG k hg hk)).trans (h.block k hk hf)⟩
theorem Keep.below {B : Nat} (h : Keep F a w) (hB : B ≤ a.heap.size) (hF : ∀ k, F k → B ≤ k) : Below B a w := ⟨h.os, h.tape, h.output, h.size, fun k hk => h.block k (Nat.lt_of_lt_of_le hk hB) fun hf => absurd (hF k hf) (by omega)⟩
theorem Keep.of_grown {row : Option Nat} (h : a.grownBy w row) : Keep (fun k => some k = row) a w := ⟨h.os, h.tape, h.output, h.size, fun k hk hf => h.block k hk hf⟩
theorem Keep.alloc (h : Keep F a w) (o : Obj) : Keep F a (w.alloc o) := h.trans (G := fun _ => False) ⟨rfl, rfl, rfl, by simp, fun k hk _ => Below.heap_alloc _ _ _ hk⟩ (fun _ h => h.elim)
theorem Keep.setCell (h : Keep F a w) {p : Addr} (hp : p.block < a.heap.size → F p.block) (v : Value) : Keep F a (w.setCell p v) :=
  h.trans (G := fun k => k = p.block) ⟨rfl, rfl, rfl, by simp, fun k _ hk => Below.heap_setCell _ _ _ _ hk⟩ (fun k e hk => e ▸ hp (e ▸ hk))
end

theorem RdL.keep {X : Type} {R : (Nat → Prop) → World → List Value → X → Prop} (hR : Stable R) {s : Nat} {S F : Nat → Prop} {w w' : World} {A : Option Addr} {n : Nat} {xs : List X}
    (h : RdL R s S w A n xs) (hk : Keep F w w') (hd : ∀ b, S b → ¬ F b) : RdL R s S w' A n xs := h.stable hR fun b hS hlt => ⟨hS, hk.block b hlt (hd b hS)⟩
theorem BoxAt.keeps {F : Nat → Prop} {w w' : World} {b : Nat} {cs : Array Value} (h : BoxAt w b cs) (hk : Keep F w w') (hb : ¬ F b) : BoxAt w' b cs := h.keep (hk.block b h.lt hb)
theorem BoxAt.set {w : World} {b : Nat} {cs : Array Value} (h : BoxAt w b cs) (o : Nat) (v : Value) : BoxAt (w.setCell ⟨b, o, none⟩ v) b (cs.setIfInBounds o v) := by
  obtain ⟨t, h⟩ := h
  exact ⟨t, by simp [World.setCell, Array.getElem?_modify, h]⟩
theorem BoxAt.set_other {w : World} {b : Nat} {cs : Array Value} (h : BoxAt w b cs) {p : Addr} (hp : b ≠ p.block) (v : Value) : BoxAt (w.setCell p v) b cs := h.keep (Below.heap_setCell _ _ _ _ hp)

/-- A byte. -/
def U8R (_ : Nat → Prop) (_ : World) (cs : List Value) (x : Int) : Prop := cs = [.int .u8 x]
theorem U8R.stable : Stable U8R := fun _ _ _ _ _ _ h _ => h
theorem U8R.one : ∀ S w cs x, U8R S w cs x → ∀ u ∈ cs, u.oneCell' = true := by
  rintro S w cs x rfl u hu
  simp at hu
  subst hu; rfl
/-- A bool. -/
def BoolR (_ : Nat → Prop) (_ : World) (cs : List Value) (x : Bool) : Prop := cs = [.bool x]
theorem BoolR.stable : Stable BoolR := fun _ _ _ _ _ _ h _ => h
theorem BoolR.one : ∀ S w cs x, BoolR S w cs x → ∀ u ∈ cs, u.oneCell' = true := by
  rintro S w cs x rfl u hu
  simp at hu
  subst hu; rfl

/-- A box of bytes, as a reading. -/
theorem BoxAt.bytes {w : World} {b : Nat} {xs : List Int} (h : BoxAt w b (xs.map (Value.int .u8)).toArray) {S : Nat → Prop} (hS : S b) : RdL U8R 1 S w (some ⟨b, 0, none⟩) xs.length xs :=
  ⟨rfl, fun _ => ⟨b, 0, rfl, hS, h.lt, fun i x hx => ⟨[.int .u8 x], rfl, rfl, fun j v hj => by
    match j, hj with
    | 0, hj =>
      simp only [List.getElem?_cons_zero, Option.some.injEq] at hj
      subst hj
      rw [h.cell]
      simp [hx]⟩⟩⟩
end Go.Cib

set_option linter.unusedSimpArgs false
set_option linter.unusedVariables false
namespace Go.Proofs.YtihnlhfngmbglaaGreat
open Go.RowKit Go.Cib
attribute [local go_sem] cell_set Later.cell Later.frozen Grw.cell Grw.frozen
section

theorem ret_bool2 {a b : Bool} (h : a = b) : Ending.returned (.bool a) = .returned (.bool b) := by rw [h]
theorem make64 (w : World) : (Instr.makeSlice 68 (.int .i64 64) (.int .i64 64)).run Tryz.prog w = .ok (.slice (some ⟨w.heap.size, 0, none⟩) 64 64) (w.alloc (.cells ((List.replicate 64 (0 : Int)).map (Value.int .u8)).toArray 5)) := by
  have h := run_make_row' (P := Tryz.prog) 68 5 (.int .u8 0) 1 (by kernel_rfl) (by kernel_rfl) rfl .i64 .i64 64 (by decide) (by decide) w
  rw [show madeCells #[Value.int .u8 0] 64 = ((List.replicate 64 (0 : Int)).map (Value.int .u8)).toArray from by kernel_rfl] at h
  exact h

end
section

@[local go_sem] theorem eql_map_some (m : Nat) (w : World) : (binOp .eql 187 (.map (some m)) (.map none)).run Tryz.prog w = .ok (.bool false) w := by kernel_rfl
@[local go_sem] theorem eql_map_none (w : World) : (binOp .eql 187 (.map none) (.map none)).run Tryz.prog w = .ok (.bool true) w := by kernel_rfl

/-- A drive's own five cells. -/
def drvCells (A : Option Addr) (n c : Nat) (A2 : Option Addr) (n2 c2 : Nat) (A3 : Option Addr) (n3 c3 : Nat) (m : Nat) (d : Bool) : Array Value := #[.slice A n c, .slice A2 n2 c2, .slice A3 n3 c3, .map (some m), .bool d]

section
variable {A A2 A3 : Option Addr} {n c n2 c2 n3 c3 m : Nat} {d : Bool} {p : Nat} {w : World}
theorem drv_cells (h : BoxAt w p (drvCells A n c A2 n2 c2 A3 n3 c3 m d)) : w.cell? ⟨p, 0, none⟩ = some (.slice A n c) ∧ w.cell? ⟨p, 1, none⟩ = some (.slice A2 n2 c2) ∧ w.cell? ⟨p, 2, none⟩ = some (.slice A3 n3 c3) ∧ w.cell? ⟨p, 3, none⟩ = some (.map (some m)) ∧ w.cell? ⟨p, 4, none⟩ = some (.bool d) :=
  ⟨h.cell 0, h.cell 1, h.cell 2, h.cell 3, h.cell 4⟩

set_option maxRecDepth 100000 in
theorem dnone_any (h : Hid (BoxAt w p (drvCells A n c A2 n2 c2 A3 n3 c3 m d))) : Calls Tryz.prog 123 #[.pointer (some ⟨p, 0, none⟩)] w fun e w' => e = .returned (.bool false) ∧ Below w.heap.size w w' := by
  obtain ⟨k0, k1, k2, k3, k4⟩ := drv_cells h.out
  go_enter Tryz.func123, Tryz.ntmps123
  go_wp2_with fail
  go_ret
  exact ⟨rfl, Below.refl _ _⟩

set_option maxRecDepth 100000 in
theorem has_any (z : Int) (h : Hid (BoxAt w p (drvCells A n c A2 n2 c2 A3 n3 c3 m d))) : Calls Tryz.prog 160 #[.pointer (some ⟨p, 0, none⟩), .int .i64 z] w fun e w' => e = .returned (.bool (decide (0 ≤ z ∧ z < n))) ∧ Below w.heap.size w w' := by
  obtain ⟨k0, k1, k2, k3, k4⟩ := drv_cells h.out
  by_cases h0 : 0 ≤ z
  · go_enter Tryz.func160, Tryz.ntmps160
    go_wp2_with fail
    go_ret
    exact ⟨ret_bool2 (by simp [h0] <;> omega), Below.refl _ _⟩
  · go_enter Tryz.func160, Tryz.ntmps160
    go_wp2_with fail
    go_ret
    exact ⟨ret_bool2 (by simp [h0] <;> omega), Below.refl _ _⟩

/-- Why nothing can be done. -/
def readyE (d : Bool) (n : Nat) (z : Int) : Int := if d then 90 else if 0 ≤ z ∧ z < n then 0 else 2
set_option maxRecDepth 100000 in
theorem dready_any (z : Int) (h : Hid (BoxAt w p (drvCells A n c A2 n2 c2 A3 n3 c3 m d))) : Calls Tryz.prog 131 #[.pointer (some ⟨p, 0, none⟩), .int .i64 z] w fun e w' => e = .returned (.int .i64 (readyE d n z)) ∧ Below w.heap.size w w' := by
  go_enter Tryz.func131, Tryz.ntmps131
  go_wp2_with fail
  refine (dnone_any h).mono ?_
  rintro e w1 ⟨rfl, h1⟩
  have H1 := Lib.hid (h.out.below h1)
  obtain ⟨k0, k1, k2, k3, k4⟩ := drv_cells H1.out
  cases d
  · go_wp2_with fail
    refine (has_any z H1).mono ?_
    rintro e w2 ⟨rfl, h2⟩
    have t2 := h1.trans (h2.mono h1.size)
    by_cases hz : 0 ≤ z ∧ z < n
    · have e1 : readyE false n z = 0 := by simp [readyE, hz]
      have e2 : decide (0 ≤ z ∧ z < n) = true := by simpa using hz
      rw [e2]
      have E1 := Lib.hid e1
      clear e1 e2 hz
      go_wp2_with fail
      go_ret
      exact ⟨by show Ending.returned (.int .i64 0) = Ending.returned (.int .i64 (readyE false n z)); rw [E1.out], t2⟩
    · have e1 : readyE false n z = 2 := by simp [readyE, hz]
      have e2 : decide (0 ≤ z ∧ z < n) = false := by simpa using hz
      rw [e2]
      have E1 := Lib.hid e1
      clear e1 e2 hz
      go_wp2_with fail
      go_ret
      exact ⟨by show Ending.returned (.int .i64 2) = Ending.returned (.int .i64 (readyE false n z)); rw [E1.out], t2⟩
  · go_wp2_with fail
    go_ret
    exact ⟨rfl, h1⟩
end
end
section

section
variable {A A2 A3 : Option Addr} {n c n2 c2 n3 c3 m : Nat} {d : Bool} {p : Nat} {w : World}
set_option maxRecDepth 100000 in
theorem sectors_any (h : Hid (BoxAt w p (drvCells A n c A2 n2 c2 A3 n3 c3 m d))) : Calls Tryz.prog 167 #[.pointer (some ⟨p, 0, none⟩)] w fun e w' => e = .returned (.int .i64 n) ∧ Below w.heap.size w w' := by
  go_enter Tryz.func167, Tryz.ntmps167
  go_wp2_with fail
  refine (dnone_any h).mono ?_
  rintro e w1 ⟨rfl, h1⟩
  obtain ⟨k0, k1, k2, k3, k4⟩ := drv_cells (h.out.below h1)
  go_wp2_with fail
  go_ret
  exact ⟨rfl, h1⟩
end
end
end Go.Proofs.YtihnlhfngmbglaaGreat
set_option linter.unusedSectionVars false
set_option linter.unusedSimpArgs false
set_option linter.unusedVariables false
namespace Go.Cib
open Go.RowKit

structure KeyTy (P : Program) (K : TypeId) {κ : Type} [DecidableEq κ] (mk : κ → Value) : Prop where
  same : ∃ d, P.underlying K = some d ∧ ∀ a b, Instr.sameNow d (mk a) (mk b) = some (decide (a = b))
  check : ∀ (empty : Bool) (w : World) (a : κ), (Instr.checkKey empty 10000 K (mk a)).run P w = .ok () w
  bits : ∀ a, Instr.sameBits 10000 (mk a) (mk a) = true

theorem keyTy_int {P : Program} {K : TypeId} {q : IntKind} (h : P.underlying K = some (.int q)) : KeyTy P K (Value.int q) where
  same := ⟨_, h, fun a b => by simp only [Instr.sameNow, if_true, Option.some.injEq]; rw [Bool.eq_iff_iff]; simp⟩
  check := fun e w a => by
    have : ∀ n, (Instr.checkKey e (n + 1) K (.int q a)).run P w = .ok () w := fun n => by simp [Instr.checkKey, run_underlying h]
    exact this 9999
  bits := fun a => by simp [Instr.sameBits]

section
variable {κ : Type} [DecidableEq κ]

def mlook : List (κ × Value) → κ → Option Value
  | [], _ => none
  | (a, v) :: r, k => if a = k then some v else mlook r k
def mput : List (κ × Value) → κ → Value → List (κ × Value)
  | [], k, v => [(k, v)]
  | (a, u) :: r, k, v => if a = k then (k, v) :: r else (a, u) :: mput r k v
def mdel : List (κ × Value) → κ → List (κ × Value)
  | [], _ => []
  | (a, u) :: r, k => if a = k then r else (a, u) :: mdel r k

theorem look_put (es : List (κ × Value)) (k j : κ) (v : Value) : mlook (mput es k v) j = if k = j then some v else mlook es j := by
  induction es with
  | nil => simp [mput, mlook]
  | cons p r ih =>
    obtain ⟨a, u⟩ := p
    by_cases h : a = k
    · subst h; by_cases hj : a = j <;> simp [mput, mlook, hj]
    · by_cases hj : a = j
      · subst hj; simp [mput, mlook, h, Ne.symm h]
      · simp [mput, mlook, h, hj, ih]

theorem put_keys (es : List (κ × Value)) (k : κ) (v : Value) : ∀ j, j ∈ (mput es k v).map (·.1) ↔ j = k ∨ j ∈ es.map (·.1) := by
  intro j
  induction es with
  | nil => simp [mput]
  | cons p r ih =>
    obtain ⟨a, u⟩ := p
    by_cases h : a = k
    · subst h; simp [mput]
    · simp only [mput, h, if_false, List.map_cons, List.mem_cons, ih]
      constructor
      · rintro (h | h | h)
        · exact .inr (.inl h)
        · exact .inl h
        · exact .inr (.inr h)
      · rintro (h | h | h)
        · exact .inr (.inl h)
        · exact .inl h
        · exact .inr (.inr h)
theorem put_nodup {es : List (κ × Value)} (hn : (es.map (·.1)).Nodup) (k : κ) (v : Value) : ((mput es k v).map (·.1)).Nodup := by
  induction es with
  | nil => simp [mput]
  | cons p r ih =>
    obtain ⟨a, u⟩ := p
    simp only [List.map_cons, List.nodup_cons] at hn
    by_cases h : a = k
    · subst h; simpa [mput] using hn
    · simp only [mput, h, if_false, List.map_cons, List.nodup_cons]
      refine ⟨fun hm => ?_, ih hn.2⟩
      rcases (put_keys r k v a).1 hm with h1 | h1
      · exact h h1
      · exact hn.1 h1
theorem del_sub (es : List (κ × Value)) (k : κ) : ∀ p ∈ mdel es k, p ∈ es := by
  induction es with
  | nil => simp [mdel]
  | cons p r ih =>
    obtain ⟨a, u⟩ := p
    intro q hq
    simp only [mdel] at hq
    split at hq
    · exact List.mem_cons_of_mem _ hq
    · rcases List.mem_cons.1 hq with h | h
      · rw [h]; simp
      · exact List.mem_cons_of_mem _ (ih q h)
theorem del_nodup {es : List (κ × Value)} (hn : (es.map (·.1)).Nodup) (k : κ) : ((mdel es k).map (·.1)).Nodup := by
  induction es with
  | nil => simp [mdel]
  | cons p r ih =>
    obtain ⟨a, u⟩ := p
    simp only [List.map_cons, List.nodup_cons] at hn
    simp only [mdel]
    split
    · exact hn.2
    · simp only [List.map_cons, List.nodup_cons]
      refine ⟨fun hm => hn.1 ?_, ih hn.2⟩
      obtain ⟨q, hq, e⟩ := List.mem_map.1 hm
      exact List.mem_map.2 ⟨q, del_sub r k q hq, e⟩
/-- Block b is a map of these entries. -/
def MapAt (mk : κ → Value) (w : World) (b : Nat) (es : List (κ × Value)) : Prop :=
  (es.map (·.1)).Nodup ∧ ∃ (arr : Array MapEntry) (clock : Nat), w.heap[b]? = some (.map arr clock) ∧ arr.toList.map (fun e => (e.key, e.val)) = es.map (fun p => (mk p.1, p.2)) ∧
    (arr.toList.map (·.born)).Nodup ∧ ∀ e ∈ arr.toList, e.born < clock

variable {mk : κ → Value} {w : World} {b : Nat} {es : List (κ × Value)}

theorem MapAt.keep {w' : World} (h : MapAt mk w b es) (hb : w'.heap[b]? = w.heap[b]?) : MapAt mk w' b es := by
  obtain ⟨h0, arr, clock, h1, h2⟩ := h
  exact ⟨h0, arr, clock, hb.trans h1, h2⟩
theorem MapAt.lt (h : MapAt mk w b es) : b < w.heap.size := by
  obtain ⟨_, arr, clock, h1, _⟩ := h
  exact (Array.getElem?_eq_some_iff.1 h1).1
theorem MapAt.below {w' : World} (h : MapAt mk w b es) (hb : Below w.heap.size w w') : MapAt mk w' b es := h.keep (hb.block b h.lt)
theorem MapAt.alloc (h : MapAt mk w b es) (o : Obj) : MapAt mk (w.alloc o) b es := h.keep (Below.heap_alloc _ _ _ h.lt)
theorem MapAt.grw {w' : World} {row : Option Nat} (h : MapAt mk w b es) (hg : w.grownBy w' row) (hne : some b ≠ row) : MapAt mk w' b es := h.keep (hg.block b h.lt hne)
theorem MapAt.new (mk : κ → Value) (w : World) : MapAt mk (w.alloc (.map #[] 0)) w.heap.size [] := ⟨by simp, #[], 0, heap_alloc_new w _, by simp, by simp, by simp⟩

theorem findNow_spec {d : TypeDesc} (hs : ∀ a b, Instr.sameNow d (mk a) (mk b) = some (decide (a = b))) (k : κ) : ∀ (L : List MapEntry) (es : List (κ × Value)) (i : Nat), L.map (fun e => (e.key, e.val)) = es.map (fun p => (mk p.1, p.2)) →
    (mlook es k = none ∧ Instr.findNow d (mk k) L i = some none) ∨
    ∃ j e v, mlook es k = some v ∧ L[j]? = some e ∧ e.key = mk k ∧ e.val = v ∧ Instr.findNow d (mk k) L i = some (some (i + j, v)) ∧
      (∀ f : MapEntry → MapEntry, ∀ u, (f e).key = mk k → (f e).val = u → (L.modify j f).map (fun e => (e.key, e.val)) = (mput es k u).map (fun p => (mk p.1, p.2))) ∧
      (L.eraseIdx j).map (fun e => (e.key, e.val)) = (mdel es k).map (fun p => (mk p.1, p.2))
  | [], es, i, h => by
    have : es = [] := by cases es with | nil => rfl | cons p r => simp at h
    subst this
    exact .inl ⟨rfl, rfl⟩
  | e :: L, [], i, h => by simp at h
  | e :: L, (a, u) :: r, i, h => by
    simp only [List.map_cons, List.cons.injEq, Prod.mk.injEq] at h
    obtain ⟨⟨hk, hv⟩, hr⟩ := h
    by_cases hak : a = k
    · subst hak
      refine .inr ⟨0, e, u, by simp [mlook], rfl, hk, hv, by simp [Instr.findNow, hk, hs, hv], fun f u' hf1 hf2 => ?_, ?_⟩
      · simp [mput, hf1, hf2, hr]
      · simp [mdel, hr]
    · have hka : k ≠ a := fun e => hak e.symm
      have hn : Instr.findNow d (mk k) (e :: L) i = Instr.findNow d (mk k) L (i + 1) := by simp [Instr.findNow, hk, hs, hka]
      rcases findNow_spec hs k L r (i + 1) hr with ⟨h1, h2⟩ | ⟨j, e', v, h1, h2, h3, h4, h5, h6, h7⟩
      · exact .inl ⟨by simp [mlook, hak, h1], by rw [hn, h2]⟩
      · refine .inr ⟨j + 1, e', v, by simp [mlook, hak, h1], by simpa using h2, h3, h4, by rw [hn, h5]; congr 3; omega, fun f u' hf1 hf2 => ?_, ?_⟩
        · simp only [List.modify_succ_cons, List.map_cons, mput, hak, if_false, List.cons.injEq]
          exact ⟨by simp [hk, hv], h6 f u' hf1 hf2⟩
        · simp only [List.eraseIdx_cons_succ, List.map_cons, mdel, hak, if_false, List.cons.injEq]
          exact ⟨by simp [hk, hv], h7⟩

variable {P : Program} {K E T : TypeId}

theorem run_findKey (kt : KeyTy P K mk) (k : κ) {arr : Array MapEntry} (h : arr.toList.map (fun e => (e.key, e.val)) = es.map (fun p => (mk p.1, p.2))) (w : World) :
    (mlook es k = none ∧ (Instr.findKey K (mk k) arr.toList).run P w = .ok none w) ∨
    ∃ j e v, mlook es k = some v ∧ arr.toList[j]? = some e ∧ e.key = mk k ∧ e.val = v ∧ (Instr.findKey K (mk k) arr.toList).run P w = .ok (some (j, v)) w ∧
      (∀ f : MapEntry → MapEntry, ∀ u, (f e).key = mk k → (f e).val = u → (arr.toList.modify j f).map (fun e => (e.key, e.val)) = (mput es k u).map (fun p => (mk p.1, p.2))) ∧
      (arr.toList.eraseIdx j).map (fun e => (e.key, e.val)) = (mdel es k).map (fun p => (mk p.1, p.2)) := by
  obtain ⟨d, hd, hs⟩ := kt.same
  rcases findNow_spec hs k arr.toList es 0 h with ⟨h1, h2⟩ | ⟨j, e, v, h1, h2, h3, h4, h5, h6, h7⟩
  · exact .inl ⟨h1, by simp [Instr.findKey, run_underlying hd, h2]⟩
  · exact .inr ⟨j, e, v, h1, h2, h3, h4, by simp [Instr.findKey, run_underlying hd, h5], h6, h7⟩

theorem run_getMap {arr : Array MapEntry} {clock : Nat} (h : w.heap[b]? = some (.map arr clock)) : (getObj b).run P w = .ok (.map arr clock) w := by
  simp [getObj, Sem.run, h]

/-- m[k]. -/
theorem run_lookup (kt : KeyTy P K mk) (ht : P.underlying T = some (.map K E)) {z : Value} (hz : ∀ w, (zeroValue E).run P w = .ok z w) (hm : MapAt mk w b es) (k : κ) (ok : Bool) :
    (Instr.lookup T (.map (some b)) (mk k) ok).run P w = .ok (if ok then .tuple #[(mlook es k).getD z, .bool (mlook es k).isSome] else (mlook es k).getD z) w := by
  obtain ⟨h0, arr, clock, h1, h2, h3, h4⟩ := hm
  rcases run_findKey kt k h2 w with ⟨e1, e2⟩ | ⟨j, e, v, e1, _, _, _, e2, _⟩
  · cases ok <;> simp [Instr.lookup, run_underlying ht, run_getMap h1, kt.check, e1, e2, hz]
  · cases ok <;> simp [Instr.lookup, run_underlying ht, run_getMap h1, kt.check, e1, e2]

theorem run_setObj {o o' : Obj} (h : w.heap[b]? = some o) (hne : ∀ c e f, o ≠ .cells c e f) : (setObj b o').run P w = .ok () { w with heap := w.heap.setIfInBounds b o' } := by
  cases o with
  | cells c e f => exact absurd rfl (hne c e f)
  | _ => simp [setObj, Sem.run, h]

theorem heap_setObj (w : World) (b : Nat) (o : Obj) (hb : b < w.heap.size) : ({ w with heap := w.heap.setIfInBounds b o } : World).heap[b]? = some o := by
  show (w.heap.setIfInBounds b o)[b]? = _
  simp [Array.getElem?_setIfInBounds, hb]
theorem grown_setObj (w : World) (b : Nat) (o : Obj) : w.grownBy ({ w with heap := w.heap.setIfInBounds b o } : World) (some b) := by
  refine ⟨rfl, rfl, rfl, by simp, fun k hk hne => ?_⟩
  show (w.heap.setIfInBounds b o)[k]? = _
  rw [Array.getElem?_setIfInBounds, if_neg (fun e => hne (by rw [e]))]

theorem keyThatStays_run (kt : KeyTy P K mk) (k : κ) (w : World) : (Instr.keyThatStays (mk k) (mk k)).run P w = .ok (mk k) w := by
  simp [Instr.keyThatStays, kt.bits]

/-- m[k] = v. -/
theorem run_mapUpdate (kt : KeyTy P K mk) (ht : P.underlying T = some (.map K E)) (hm : MapAt mk w b es) (k : κ) (v : Value) :
    ∃ w', (Instr.mapUpdate T (.map (some b)) (mk k) v).run P w = .ok () w' ∧ MapAt mk w' b (mput es k v) ∧ w.grownBy w' (some b) ∧ w'.heap.size = w.heap.size := by
  have hlt := hm.lt
  obtain ⟨h0, arr, clock, h1, h2, h3, h4⟩ := hm
  rcases run_findKey kt k h2 w with ⟨e1, e2⟩ | ⟨j, e, u, e1, ej, ek, ev, e2, emod, _⟩
  · refine ⟨{ w with heap := w.heap.setIfInBounds b (.map (arr.push { key := mk k, val := v, born := clock }) (clock + 1)) }, ?_, ⟨put_nodup h0 k v, _, _, heap_setObj w b _ hlt, ?_, ?_, ?_⟩, grown_setObj w b _, by simp⟩
    · simp [Instr.mapUpdate, run_underlying ht, run_getMap h1, kt.check, e2, run_setObj (P := P) h1 (by simp)]
    · have hp : mput es k v = es ++ [(k, v)] := by
        clear h0 h2 e2
        induction es with
        | nil => rfl
        | cons p r ih =>
          obtain ⟨a, u⟩ := p
          by_cases hak : a = k
          · simp [mlook, hak] at e1
          · simp only [mlook, hak, if_false] at e1
            simp [mput, hak, ih e1]
      rw [hp]; simp [h2]
    · simp only [Array.toList_push, List.map_append, List.map_cons, List.map_nil]
      rw [List.nodup_append]
      refine ⟨h3, by simp, fun a ha c hc => ?_⟩
      rw [List.mem_singleton.1 hc]
      obtain ⟨x, hx, rfl⟩ := List.mem_map.1 ha
      have := h4 x hx
      omega
    · intro x hx
      simp only [Array.toList_push, List.mem_append, List.mem_singleton] at hx
      rcases hx with hx | hx
      · have := h4 x hx; omega
      · rw [hx]; show clock < clock + 1; omega
  · have hkey : (((arr[j]?).map (·.key)).getD (mk k)) = mk k := by
      have : arr[j]? = some e := by simpa using ej
      simp [this, ek]
    refine ⟨{ w with heap := w.heap.setIfInBounds b (.map (arr.modify j fun e => { e with key := mk k, val := v }) clock) }, ?_, ⟨put_nodup h0 k v, _, _, heap_setObj w b _ hlt, ?_, ?_, ?_⟩, grown_setObj w b _, by simp⟩
    · simp [Instr.mapUpdate, run_underlying ht, run_getMap h1, kt.check, e2, hkey, keyThatStays_run kt, run_setObj (P := P) h1 (by simp)]
    · rw [Array.toList_modify]
      exact emod _ v rfl rfl
    · have : ((arr.modify j fun e => { e with key := mk k, val := v }).toList.map (·.born)) = arr.toList.map (·.born) := by
        rw [Array.toList_modify]
        apply List.ext_getElem?
        intro i
        simp only [List.getElem?_map, List.getElem?_modify]
        split <;> simp [Option.map_map] <;> rfl
      rw [this]; exact h3
    · intro x hx
      rw [Array.toList_modify] at hx
      obtain ⟨i, hi, rfl⟩ := List.mem_iff_getElem.1 hx
      rw [List.getElem_modify]
      have hm := h4 (arr.toList[i]'(by simpa using hi)) (List.getElem_mem _)
      split
      · exact hm
      · exact hm

/-- delete(m, k). -/
theorem run_delete (kt : KeyTy P K mk) (ht : P.underlying T = some (.map K E)) (hm : MapAt mk w b es) (k : κ) (K2 ty : TypeId) :
    ∃ w', (Builtin.delete_ #[T, K2] ty #[.map (some b), mk k]).run P w = .ok (.tuple #[]) w' ∧ MapAt mk w' b (mdel es k) ∧ w.grownBy w' (some b) ∧ w'.heap.size = w.heap.size := by
  have hlt := hm.lt
  obtain ⟨h0, arr, clock, h1, h2, h3, h4⟩ := hm
  rcases run_findKey kt k h2 w with ⟨e1, e2⟩ | ⟨j, e, u, e1, ej, ek, ev, e2, _, edel⟩
  · have hd : mdel es k = es := by
      clear h0 h2 e2
      induction es with
      | nil => rfl
      | cons p r ih =>
        obtain ⟨a, u⟩ := p
        by_cases hak : a = k
        · simp [mlook, hak] at e1
        · simp only [mlook, hak, if_false] at e1
          simp [mdel, hak, ih e1]
    refine ⟨{ w with heap := w.heap.setIfInBounds b (.map arr clock) }, ?_, ⟨del_nodup h0 k, _, _, heap_setObj w b _ hlt, by rw [hd]; exact h2, h3, h4⟩, grown_setObj w b _, by simp⟩
    simp [Builtin.delete_, run_underlying ht, run_getMap h1, kt.check, e2, run_setObj (P := P) h1 (by simp)]
  · have hj : j < arr.size := by have := (List.getElem?_eq_some_iff.1 ej).1; simpa using this
    have htl : (arr.eraseIdxIfInBounds j).toList = arr.toList.eraseIdx j := by simp [Array.eraseIdxIfInBounds, hj]
    refine ⟨{ w with heap := w.heap.setIfInBounds b (.map (arr.eraseIdxIfInBounds j) clock) }, ?_, ⟨del_nodup h0 k, _, _, heap_setObj w b _ hlt, ?_, ?_, ?_⟩, grown_setObj w b _, by simp⟩
    · simp [Builtin.delete_, run_underlying ht, run_getMap h1, kt.check, e2, run_setObj (P := P) h1 (by simp)]
    · rw [htl]; exact edel
    · rw [htl]
      exact h3.sublist ((List.eraseIdx_sublist _ _).map _)
    · intro x hx
      rw [htl] at hx
      exact h4 x (List.mem_of_mem_eraseIdx hx)

/-- len(m). -/
theorem run_lenMap (ht : P.underlying T = some (.map K E)) (hm : MapAt mk w b es) (ty : TypeId) : (Builtin.len_ #[T] ty #[.map (some b)]).run P w = .ok (.int .i64 es.length) w := by
  obtain ⟨h0, arr, clock, h1, h2, h3, h4⟩ := hm
  have : arr.size = es.length := by
    have := congrArg List.length h2
    simpa using this
  simp [Builtin.len_, run_underlying ht, run_getMap h1, this]; rfl
end

section
variable {κ : Type} [DecidableEq κ] {mk : κ → Value} {P : Program} {K E T : TypeId} {ops : Array Oper} {rest : List Oper} {o : Oper} {a : Act} {Q : Exit → Act → World → Prop} {w : World} {b : Nat} {es : List (κ × Value)}

end

/-! ### range over a map -/
section
variable {κ : Type} [DecidableEq κ] {mk : κ → Value} {P : Program} {K E T : TypeId}

/-- Block bi ranges over the map of block b; left: what is still to come. -/
def IterAt (mk : κ → Value) (w : World) (bi b : Nat) (left : List (κ × Value)) : Prop :=
  ∃ (arr : Array MapEntry) (clock : Nat) (seen : Array Nat), w.heap[b]? = some (.map arr clock) ∧ w.heap[bi]? = some (.mapIter (some b) clock seen clock) ∧
    (arr.toList.filter fun e => !seen.contains e.born).map (fun e => (e.key, e.val)) = left.map (fun p => (mk p.1, p.2)) ∧
    (arr.toList.map (·.born)).Nodup ∧ ∀ e ∈ arr.toList, e.born < clock

theorem IterAt.keep {w w' : World} {bi b : Nat} {left : List (κ × Value)} (h : IterAt mk w bi b left) (hb : w'.heap[b]? = w.heap[b]?) (hbi : w'.heap[bi]? = w.heap[bi]?) : IterAt mk w' bi b left := by
  obtain ⟨arr, clock, seen, h1, h2, h3⟩ := h
  exact ⟨arr, clock, seen, hb.trans h1, hbi.trans h2, h3⟩
theorem IterAt.lt {w : World} {bi b : Nat} {left : List (κ × Value)} (h : IterAt mk w bi b left) : bi < w.heap.size ∧ b < w.heap.size := by
  obtain ⟨arr, clock, seen, h1, h2, h3⟩ := h
  exact ⟨(Array.getElem?_eq_some_iff.1 h2).1, (Array.getElem?_eq_some_iff.1 h1).1⟩

variable {ops : Array Oper} {rest : List Oper} {o : Oper} {a : Act} {Q : Exit → Act → World → Prop} {w : World} {b bi : Nat} {es left : List (κ × Value)}

end
end Go.Cib

set_option linter.unusedSimpArgs false
set_option linter.unusedVariables false
namespace Go.Proofs.YtihnlhfngmbglaaGreat
open Go.RowKit Go.Cib
attribute [local go_sem] cell_set Later.cell Later.frozen Grw.cell Grw.frozen
section

/-! ### Lists of rows -/
theorem flatten_set {α : Type} {s : Nat} : ∀ (css : List (List α)) (_ : ∀ cs ∈ css, cs.length = s) (i : Nat) (cs : List α), i < css.length → cs.length = s → (css.set i cs).flatten = css.flatten.take (i * s) ++ cs ++ css.flatten.drop (i * s + s)
  | [], _, i, cs, h, _ => by simp at h
  | c :: css, hl, 0, cs, _, hc => by
    have h1 : c.length = s := hl c (by simp)
    simp [← h1]
  | c :: css, hl, i + 1, cs, hi, hc => by
    have h1 : c.length = s := hl c (by simp)
    have ih := flatten_set css (fun x hx => hl x (List.mem_cons_of_mem _ hx)) i cs (by simpa using hi) hc
    have e1 : (i + 1) * s = c.length + i * s := by rw [Nat.add_mul]; omega
    have e2 : c.length + i * s + s = c.length + (i * s + s) := by omega
    rw [List.set_cons_succ, List.flatten_cons, ih, List.flatten_cons, e1, e2, List.take_length_add_append, List.drop_length_add_append]
    simp
theorem flatten_len {α : Type} {s : Nat} : ∀ (css : List (List α)) (_ : ∀ cs ∈ css, cs.length = s), css.flatten.length = css.length * s
  | [], _ => by simp
  | c :: css, hl => by
    rw [List.flatten_cons, List.length_append, flatten_len css (fun x hx => hl x (List.mem_cons_of_mem _ hx)), hl c (by simp), List.length_cons, Nat.add_mul]; omega
/-- Cells from o on become vs. -/
def setMany {α : Type} : List α → Nat → List α → List α
  | xs, _, [] => xs
  | xs, o, v :: vs => setMany (xs.set o v) (o + 1) vs
theorem setMany_eq {α : Type} : ∀ (vs xs : List α) (o : Nat), o + vs.length ≤ xs.length → setMany xs o vs = xs.take o ++ vs ++ xs.drop (o + vs.length)
  | [], xs, o, h => by simp [setMany]
  | v :: vs, xs, o, h => by
    simp only [List.length_cons] at h
    rw [setMany, setMany_eq vs (xs.set o v) (o + 1) (by simp; omega)]
    have e1 : (xs.set o v).take (o + 1) = xs.take o ++ [v] := by
      rw [List.take_add_one, List.getElem?_set_self (by omega), List.take_set_of_le (Nat.le_refl _)]; rfl
    rw [e1, List.drop_set_of_lt (by omega)]
    simp [show o + 1 + vs.length = o + (vs.length + 1) by omega]

/-- Rows of a block of the call's own: one row is laid anew. -/
theorem ownsRow_setCells {base : Nat} {e : TypeId} {size g cap n : Nat} : ∀ (vs : List Value) (o : Nat) (xs : List Value) (w : World), w.ownsRow base e size (.slice (some ⟨g, 0, none⟩) n cap) n xs →
    (w.setCells g o vs).ownsRow base e size (.slice (some ⟨g, 0, none⟩) n cap) n (setMany xs o vs) ∧ w.grownBy (w.setCells g o vs) (some g)
  | [], o, xs, w, h => ⟨h, ⟨rfl, rfl, rfl, Nat.le_refl _, fun _ _ _ => rfl⟩⟩
  | v :: vs, o, xs, w, h => by
    obtain ⟨h1, h2⟩ := h.stored o v
    obtain ⟨h3, h4⟩ := ownsRow_setCells vs (o + 1) _ _ h1
    exact ⟨h3, ⟨h4.os.trans h2.os, h4.tape.trans h2.tape, h4.output.trans h2.output, Nat.le_trans h2.size h4.size, fun k hk hn => (h4.block k (by simpa using hk) hn).trans (h2.block k hk hn)⟩⟩
theorem ownsRow_row {base : Nat} {e : TypeId} {size g cap n : Nat} {css : List (List Value)} {w : World} (h : w.ownsRow base e size (.slice (some ⟨g, 0, none⟩) n cap) n css.flatten) (hl : ∀ cs ∈ css, cs.length = size) {i : Nat} (hi : i < n) (hn : css.length = n) {cs : List Value} (hc : cs.length = size) :
    (w.setCells g (i * size) cs).ownsRow base e size (.slice (some ⟨g, 0, none⟩) n cap) n (css.set i cs).flatten := by
  have h1 := (ownsRow_setCells cs (i * size) _ w h).1
  have hlen := flatten_len css hl
  have : i * size + size ≤ css.flatten.length := by
    rw [hlen, hn]
    have : (i + 1) * size ≤ n * size := Nat.mul_le_mul_right _ hi
    rw [Nat.add_mul] at this; omega
  rw [setMany_eq _ _ _ (by omega), hc] at h1
  rw [flatten_set css hl i cs (by omega) hc]
  exact h1
theorem ownsRow_range {base : Nat} {e : TypeId} {size g cap n : Nat} {css : List (List Value)} {w : World} (h : w.ownsRow base e size (.slice (some ⟨g, 0, none⟩) n cap) n css.flatten) (hl : ∀ cs ∈ css, cs.length = size) {i : Nat} {cs : List Value} (hi : css[i]? = some cs) (hn : css.length = n) : w.rangeAt g (i * size) cs := by
  have hil := (List.getElem?_eq_some_iff.1 hi).1
  have hcl : cs.length = size := hl cs (List.mem_of_getElem? hi)
  intro j v hj
  have hjl := (List.getElem?_eq_some_iff.1 hj).1
  have : i * size + j < n * size := by
    have : (i + 1) * size ≤ n * size := Nat.mul_le_mul_right _ (by omega)
    rw [Nat.add_mul] at this; omega
  rw [h.cellAt _ this, flatten_get css hl i cs j hi (by omega), hj]
theorem ownsRow_there {base : Nat} {e : TypeId} {size g cap n : Nat} {xs : List Value} {w : World} (h : w.ownsRow base e size (.slice (some ⟨g, 0, none⟩) n cap) n xs) {o k : Nat} (hi : o + k ≤ n * size) : w.there g o k := by
  intro j hj
  refine ⟨?_, h.frozenAt _⟩
  rw [h.cellAt _ (by omega)]
  have := h.1
  rw [List.getElem?_eq_getElem (by omega)]; rfl

/-! ### The state -/
structure DSt where
  stored : List (List Int)
  rotten : List Bool
  cache : List (Int × List Int)
  dead : Bool

def secCells (x : List Int) : List Value := x.map (Value.int .u8)
def waitCells (p : Int × List Int) : List Value := .int .i64 p.1 :: secCells p.2
/-- Where the last write of a place waits. -/
def lastIx : List (Int × List Int) → Int → Option Nat
  | [], _ => none
  | p :: c, k => match lastIx c k with
    | some i => some (i + 1)
    | none => if p.1 = k then some 0 else none
theorem lastIx_snoc (c : List (Int × List Int)) (p : Int × List Int) (k : Int) : lastIx (c ++ [p]) k = if p.1 = k then some c.length else lastIx c k := by
  induction c with
  | nil => by_cases h : p.1 = k <;> simp [lastIx, h]
  | cons q c ih =>
    rw [List.cons_append, lastIx, ih]
    by_cases h : p.1 = k
    · simp [h]
    · simp [h, lastIx]
theorem lastIx_some : ∀ {c : List (Int × List Int)} {k : Int} {i : Nat}, lastIx c k = some i → ∃ s, c[i]? = some (k, s)
  | [], k, i, h => by simp [lastIx] at h
  | p :: c, k, i, h => by
    rw [lastIx] at h
    cases h1 : lastIx c k with
    | some j =>
      rw [h1] at h
      simp only [Option.some.injEq] at h
      subst h
      obtain ⟨s, hs⟩ := lastIx_some h1
      exact ⟨s, by simpa using hs⟩
    | none =>
      rw [h1] at h
      by_cases h2 : p.1 = k
      · simp only [h2, ↓reduceIte, Option.some.injEq] at h
        subst h; subst h2
        exact ⟨p.2, rfl⟩
      · simp [h2] at h
/-- What a place is by its last write. -/
def DSt.seen (st : DSt) (k : Nat) : List Int := match lastIx st.cache k with
  | some i => ((st.cache[i]?).map (·.2)).getD []
  | none => (st.stored[k]?).getD []
/-- The writes that are kept, stored. -/
def putL (keep : Nat → Bool) : Nat → List (Int × List Int) → List (List Int) → List (List Int)
  | _, [], xs => xs
  | i, p :: c, xs => putL keep (i + 1) c (if keep i then xs.set p.1.toNat p.2 else xs)
def freshL (keep : Nat → Bool) : Nat → List (Int × List Int) → List Bool → List Bool
  | _, [], xs => xs
  | i, p :: c, xs => freshL keep (i + 1) c (if keep i then xs.set p.1.toNat false else xs)
theorem putL_snoc (keep : Nat → Bool) : ∀ (c : List (Int × List Int)) (i : Nat) (p : Int × List Int) (xs : List (List Int)), putL keep i (c ++ [p]) xs = if keep (i + c.length) then (putL keep i c xs).set p.1.toNat p.2 else putL keep i c xs
  | [], i, p, xs => by simp [putL]
  | q :: c, i, p, xs => by
    rw [List.cons_append, putL, putL_snoc keep c, putL, List.length_cons, show i + 1 + c.length = i + (c.length + 1) by omega]
theorem freshL_snoc (keep : Nat → Bool) : ∀ (c : List (Int × List Int)) (i : Nat) (p : Int × List Int) (xs : List Bool), freshL keep i (c ++ [p]) xs = if keep (i + c.length) then (freshL keep i c xs).set p.1.toNat false else freshL keep i c xs
  | [], i, p, xs => by simp [freshL]
  | q :: c, i, p, xs => by
    rw [List.cons_append, freshL, freshL_snoc keep c, freshL, List.length_cons, show i + 1 + c.length = i + (c.length + 1) by omega]
theorem putL_len (keep : Nat → Bool) : ∀ (c : List (Int × List Int)) (i : Nat) (xs : List (List Int)), (putL keep i c xs).length = xs.length
  | [], i, xs => rfl
  | q :: c, i, xs => by rw [putL, putL_len keep c]; split <;> simp
theorem freshL_len (keep : Nat → Bool) : ∀ (c : List (Int × List Int)) (i : Nat) (xs : List Bool), (freshL keep i c xs).length = xs.length
  | [], i, xs => rfl
  | q :: c, i, xs => by rw [freshL, freshL_len keep c]; split <;> simp
theorem putL_all (keep : Nat → Bool) {Q : List Int → Prop} : ∀ (c : List (Int × List Int)) (i : Nat) (xs : List (List Int)), (∀ p ∈ c, Q p.2) → (∀ x ∈ xs, Q x) → ∀ x ∈ putL keep i c xs, Q x
  | [], i, xs, _, h, x, hx => h x hx
  | q :: c, i, xs, hc, h, x, hx => by
    refine putL_all keep c (i + 1) _ (fun p hp => hc p (List.mem_cons_of_mem _ hp)) ?_ x hx
    intro y hy
    split at hy
    · rcases List.mem_or_eq_of_mem_set hy with h1 | h1
      · exact h y h1
      · rw [h1]; exact hc q (by simp)
    · exact h y hy
def DSt.settle (st : DSt) (keep : Nat → Bool) : DSt := ⟨putL keep 0 st.cache st.stored, freshL keep 0 st.cache st.rotten, [], st.dead⟩
def DSt.write (st : DSt) (k : Int) (s : List Int) : DSt := { st with cache := st.cache ++ [(k, s)] }
def DSt.new (n : Nat) : DSt := ⟨List.replicate n (List.replicate 64 0), List.replicate n false, [], false⟩

/-- A state that can be: n sectors. -/
structure DSt.ok (st : DSt) (n : Nat) : Prop where
  sl : st.stored.length = n
  rl : st.rotten.length = n
  s64 : ∀ x ∈ st.stored, x.length = 64
  c64 : ∀ p ∈ st.cache, p.2.length = 64
  cat : ∀ p ∈ st.cache, 0 ≤ p.1 ∧ p.1 < n

theorem DSt.ok.write {st : DSt} {n : Nat} (h : st.ok n) {k : Int} {s : List Int} (hs : s.length = 64) (hk : 0 ≤ k ∧ k < n) : (st.write k s).ok n :=
  ⟨h.sl, h.rl, h.s64, fun p hp => by
    rcases List.mem_append.1 hp with h1 | h1
    · exact h.c64 p h1
    · simp at h1; subst h1; exact hs, fun p hp => by
    rcases List.mem_append.1 hp with h1 | h1
    · exact h.cat p h1
    · simp at h1; subst h1; exact hk⟩
theorem DSt.ok.settle {st : DSt} {n : Nat} (h : st.ok n) (keep : Nat → Bool) : (st.settle keep).ok n :=
  ⟨by simp [DSt.settle, putL_len, h.sl], by simp [DSt.settle, freshL_len, h.rl], putL_all keep (Q := fun x => x.length = 64) _ _ _ h.c64 h.s64, by simp [DSt.settle], by simp [DSt.settle]⟩
theorem DSt.ok.new (n : Nat) : (DSt.new n).ok n := ⟨by simp [DSt.new], by simp [DSt.new], by simp [DSt.new], by simp [DSt.new], by simp [DSt.new]⟩
theorem DSt.ok.seen {st : DSt} {n : Nat} (h : st.ok n) {k : Nat} (hk : k < n) : (st.seen k).length = 64 := by
  unfold DSt.seen
  cases h1 : lastIx st.cache k with
  | some i =>
    obtain ⟨s, hs⟩ := lastIx_some h1
    simpa [hs] using h.c64 _ (List.mem_of_getElem? hs)
  | none =>
    have hl := h.sl
    rw [show st.stored[k]? = some (st.stored[k]'(by omega)) from List.getElem?_eq_getElem (by omega)]
    exact h.s64 _ (List.getElem_mem _)
theorem DSt.seen_write {st : DSt} {k : Int} {s : List Int} {j : Nat} : (st.write k s).seen j = if k = j then s else st.seen j := by
  unfold DSt.seen DSt.write
  simp only [lastIx_snoc]
  by_cases h : k = j
  · simp [h]
  · simp only [h, ↓reduceIte]
    cases h1 : lastIx st.cache j with
    | none => rfl
    | some i =>
      obtain ⟨s, hs⟩ := lastIx_some h1
      have := (List.getElem?_eq_some_iff.1 hs).1
      simp only [List.getElem?_append_left this]

/-! ### In memory -/
structure DrvB (w : World) (p n sb sc rb rc : Nat) (A : Option Addr) (cc mb : Nat) (st : DSt) : Prop where
  ok : st.ok n
  n1 : 1 ≤ n
  n600 : n ≤ 600
  box : BoxAt w p (drvCells (some ⟨sb, 0, none⟩) n sc (some ⟨rb, 0, none⟩) n rc A st.cache.length cc mb st.dead)
  so : w.ownsRow 0 198 64 (.slice (some ⟨sb, 0, none⟩) n sc) n (st.stored.map secCells).flatten
  ro : w.ownsRow 0 4 1 (.slice (some ⟨rb, 0, none⟩) n rc) n (st.rotten.map Value.bool)
  co : w.ownsRow 0 244 65 (.slice A st.cache.length cc) st.cache.length (st.cache.map waitCells).flatten
  ma : ∃ es, MapAt (Value.int .i64) w mb es ∧ ∀ k : Int, mlook es k = (lastIx st.cache k).map fun i : Nat => Value.int .i64 (i : Int)
  ps : p ≠ sb
  pr : p ≠ rb
  pm : p ≠ mb
  sr : sb ≠ rb
  sm : sb ≠ mb
  rm : rb ≠ mb
  pc : (Value.slice A st.cache.length cc).ownBlock ≠ some p
  sc : (Value.slice A st.cache.length cc).ownBlock ≠ some sb
  rc : (Value.slice A st.cache.length cc).ownBlock ≠ some rb
  mc : (Value.slice A st.cache.length cc).ownBlock ≠ some mb

/-- A drive of n sectors in state st, at p; its blocks are F. -/
def DrvAt (F : Nat → Prop) (w : World) (p n : Nat) (st : DSt) : Prop := ∃ sb sc rb rc A cc mb, DrvB w p n sb sc rb rc A cc mb st ∧ F p ∧ F sb ∧ F rb ∧ F mb ∧ (∀ k, (Value.slice A st.cache.length cc).ownBlock = some k → F k) ∧ ∀ k, F k → k < w.heap.size

theorem ownsRow_keep {w w' : World} {base : Nat} {e : TypeId} {size : Nat} {v : Value} {n : Nat} {xs : List Value} (h : w.ownsRow base e size v n xs) (hk : ∀ k, v.ownBlock = some k → w'.heap[k]? = w.heap[k]?) : w'.ownsRow base e size v n xs := by
  rcases h with ⟨h1, h2 | ⟨g, cap, cur, rfl, h3, h4, h5⟩⟩
  · exact ⟨h1, .inl h2⟩
  · exact ⟨h1, .inr ⟨g, cap, cur, rfl, h3, (hk g rfl).trans h4, h5⟩⟩

theorem DrvB.keep {w w' : World} {p n sb sc rb rc : Nat} {A : Option Addr} {cc mb : Nat} {st : DSt} (h : DrvB w p n sb sc rb rc A cc mb st)
    (h1 : w'.heap[p]? = w.heap[p]?) (h2 : w'.heap[sb]? = w.heap[sb]?) (h3 : w'.heap[rb]? = w.heap[rb]?) (h4 : w'.heap[mb]? = w.heap[mb]?) (h5 : ∀ k, (Value.slice A st.cache.length cc).ownBlock = some k → w'.heap[k]? = w.heap[k]?) : DrvB w' p n sb sc rb rc A cc mb st :=
  { h with box := h.box.keep h1, so := ownsRow_keep h.so (by rintro k ⟨⟩; exact h2), ro := ownsRow_keep h.ro (by rintro k ⟨⟩; exact h3), co := ownsRow_keep h.co h5, ma := by obtain ⟨es, h6, h7⟩ := h.ma; exact ⟨es, h6.keep h4, h7⟩ }
theorem DrvAt.keep {F G : Nat → Prop} {w w' : World} {p n : Nat} {st : DSt} (h : DrvAt F w p n st) (hk : Keep G w w') (hd : ∀ k, F k → ¬ G k) : DrvAt F w' p n st := by
  obtain ⟨sb, sc, rb, rc, A, cc, mb, hb, f1, f2, f3, f4, f5, lt⟩ := h
  have hh : ∀ k, F k → w'.heap[k]? = w.heap[k]? := fun k hf => hk.block k (lt k hf) (hd k hf)
  exact ⟨sb, sc, rb, rc, A, cc, mb, hb.keep (hh _ f1) (hh _ f2) (hh _ f3) (hh _ f4) (fun k hk => hh _ (f5 k hk)), f1, f2, f3, f4, f5, fun k hf => Nat.lt_of_lt_of_le (lt k hf) hk.size⟩
theorem DrvAt.below {F : Nat → Prop} {w w' : World} {p n : Nat} {st : DSt} (h : DrvAt F w p n st) (hk : Below w.heap.size w w') : DrvAt F w' p n st := h.keep (Keep.of_below (F := fun _ => False) hk) (fun _ _ h => h)
theorem DrvAt.ok {F : Nat → Prop} {w : World} {p n : Nat} {st : DSt} (h : DrvAt F w p n st) : st.ok n := by
  obtain ⟨sb, sc, rb, rc, A, cc, mb, hb, _⟩ := h; exact hb.ok
theorem DrvAt.lt {F : Nat → Prop} {w : World} {p n : Nat} {st : DSt} (h : DrvAt F w p n st) {k : Nat} (hk : F k) : k < w.heap.size := by
  obtain ⟨sb, sc, rb, rc, A, cc, mb, hb, _, _, _, _, _, lt⟩ := h; exact lt k hk
theorem DrvAt.box {F : Nat → Prop} {w : World} {p n : Nat} {st : DSt} (h : DrvAt F w p n st) : ∃ sb sc rb rc A cc mb, Hid (BoxAt w p (drvCells (some ⟨sb, 0, none⟩) n sc (some ⟨rb, 0, none⟩) n rc A st.cache.length cc mb st.dead)) := by
  obtain ⟨sb, sc, rb, rc, A, cc, mb, hb, _⟩ := h; exact ⟨sb, sc, rb, rc, A, cc, mb, Lib.hid hb.box⟩

/-- A call changed the drive. -/
def Upd (F : Nat → Prop) (w w' : World) (p n : Nat) (st' : DSt) : Prop := ∃ F', DrvAt F' w' p n st' ∧ (∀ k, F' k → k < w.heap.size → F k) ∧ Keep F w w'
end
end Go.Proofs.YtihnlhfngmbglaaGreat
