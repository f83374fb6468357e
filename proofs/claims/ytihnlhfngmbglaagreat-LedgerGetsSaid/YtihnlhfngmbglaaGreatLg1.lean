/-
  Regions that draw their order, and end with a store that changes what is read ahead of it: S need not hold behind operations that wait for all that is taken first.
  As Ord: an operation is taken first for which those of lst wait by way of another one.
  Steps of a region's script, in few words: what each step asks is asked by default arguments.
  A library for the proofs of this seat: worlds that are later than another, readings of slices as lists, slices of the call's own.
  More of the library: pushing one element onto a slice of the call's own.
  More of the library: objects that are changed in place; blocks that a call may change.
  The field of 256: plain.
  The field of 256: inverses.
  Rows of bytes over the field: sums of products, multiples, and what is annihilated; plain.
  Elimination over the field: what is annihilated stays; plain.
  Rows of bytes in memory, as lists of numbers below 256.
  Full, and the small questions about a drive.
  The small questions about a drive: none, has, ready.
  Waits, Sectors, Dead.
-/
import Derived.Deep.RegionHeld
import Derived.WalkKit
import Derived.WalkSpells
import Derived.WalkLawsBesides
import Derived.Deep.QuietTactic
import Derived.BigQuiet
import Derived.Lib.Hide
import Derived.Maps.AppendAt
import Derived.Deep.AppendLies
import Derived.Deep.Draws
import Derived.RegionTactic
import Derived.OwnWalk
import Derived.Test.YtihnlhfngmbglaaGreatRows
import Derived.IntWalk
import Derived.Deep.OwnRows
namespace Go
section
variable {P : Program} {ops : Array Oper} {Q : Exit → Act → World → Prop} {md : Region.Mode} {S : World → Prop} {lst : List Nat}

/-- Whatever order is picked, and S holds behind each operation but those of lst. -/
def wpAnyL (P : Program) (md : Region.Mode) (ops : Array Oper) (Q : Exit → Act → World → Prop) (S : World → Prop) (lst : List Nat) : Nat → Array Bool → Act → World → Prop
  | 0, listed, a, w => Region.ready md ops listed = [] ∧ Q .normal a w
  | fuel + 1, listed, a, w =>
    (Region.ready md ops listed = [] → Q .normal a w) ∧
    ∀ i ∈ Region.ready md ops listed, wpOp P ops Q i (fun a' w' => (i ∉ lst → S w') ∧ wpAnyL P md ops Q S lst fuel (listed.setIfInBounds i true) a' w') a w
theorem wpAny_of_L : ∀ (fuel : Nat) (listed : Array Bool) (a : Act) (w : World), wpAnyL P md ops Q S lst fuel listed a w → wpAny P md ops Q fuel listed a w
  | 0, _, _, _, h => h
  | fuel + 1, _, _, _, h => ⟨h.1, fun i hi => wpOp_mono (fun a' w' h' => wpAny_of_L fuel _ a' w' h'.2) (h.2 i hi)⟩

/-- All of lst wait for number i. -/
def Region.waits (md : Region.Mode) (ops : Array Oper) (lst : List Nat) (i : Nat) : Bool :=
  lst.all fun j => match ops[j]? with
    | some o => o.after.any fun e => Region.binds md e && e.on == i
    | none => true

theorem waits_not {listed : Array Bool} {i j : Nat} (hw : Region.waits md ops lst i = true) (hj : j ∈ lst) (hr : j ∈ Region.ready md ops listed) (hi : i ∈ Region.ready md ops listed) : False := by
  obtain ⟨_, oj, hoj, hall⟩ := mem_ready.1 hr
  have h1 := List.all_eq_true.1 hw j hj
  rw [hoj] at h1
  obtain ⟨e, he, h2⟩ := Array.any_eq_true'.1 h1
  rw [Bool.and_eq_true, beq_iff_eq] at h2
  have h3 := hall e he h2.1
  rw [h2.2] at h3
  have h0 := (mem_ready.1 hi).1
  rcases Nat.lt_or_ge i listed.size with h' | h'
  · simp [h'] at h0 h3; rw [h0] at h3; cases h3
  · simp [Array.getElem?_eq_none h'] at h3

theorem wpAnyL_first {i : Nat} {oi : Oper} {v : Value} (hi : ops[i]? = some oi) (hsel : ∀ (j : Nat) (o : Oper) cs b, ops[j]? = some o → o.op ≠ .select cs b)
    (hwt : Region.waits md ops lst i = true)
    (hQ : ∀ c a w, Q (.panic c) (a.put oi.dst v) w → Q (.panic c) a w) :
    ∀ (fuel : Nat) (listed : Array Bool) (a : Act) (w : World),
      (∀ j oj, ops[j]? = some oj → j ≠ i → listed.getD j true = false → (∀ e ∈ oj.after, Region.binds md e = true → e.on ≠ i) → oi.apart ops oj = true) →
      i ∈ Region.ready md ops listed → YieldsIf P ops S oi v a → S w →
      wpAnyL P md ops Q S lst fuel (listed.setIfInBounds i true) (a.put oi.dst v) w → wpAnyL P md ops Q S lst (fuel + 1) listed a w := by
  intro fuel
  induction fuel with
  | zero =>
    intro listed a w _ hr hy hS H
    refine ⟨fun h => (by rw [h] at hr; cases hr), fun j hj => ?_⟩
    by_cases hji : j = i
    · subst hji; exact hy.wpOp hi hS ⟨fun _ => hS, H⟩
    · have := ready_mono hj hji
      rw [H.1] at this
      cases this
  | succ fuel ih =>
    intro listed a w hfree hr hy hS H
    refine ⟨fun h => (by rw [h] at hr; cases hr), fun j hj => ?_⟩
    by_cases hji : j = i
    · subst hji; exact hy.wpOp hi hS ⟨fun _ => hS, H⟩
    · have h1 := H.2 j (ready_mono hj hji)
      have hnl : j ∉ lst := fun hl => waits_not hwt hl hj hr
      obtain ⟨hjun, oj, hoj, hall⟩ := mem_ready.1 hj
      have hnot : ∀ e ∈ oj.after, Region.binds md e = true → e.on ≠ i := fun e he hb heq => by
        have h1 := hall e he hb
        have h0 := (mem_ready.1 hr).1
        rw [heq] at h1
        rcases Nat.lt_or_ge i listed.size with h' | h'
        · simp [h'] at h0 h1; rw [h0] at h1; cases h1
        · simp [Array.getElem?_eq_none h'] at h1
      have h2 := wpOp_putIf hoj (hfree j oj hoj hji hjun hnot) (fun cs b => hsel i oi cs b hi) (fun cs b => hsel j oj cs b hoj) hQ hy h1
      have hfree' : ∀ k ok, ops[k]? = some ok → k ≠ i → (listed.setIfInBounds j true).getD k true = false →
          (∀ e ∈ ok.after, Region.binds md e = true → e.on ≠ i) → oi.apart ops ok = true := fun k ok hk hki hun hno => by
        refine hfree k ok hk hki ?_ hno
        by_cases hjk : j = k
        · subst hjk; exact hjun
        · rw [getD_set_ne true hjk] at hun; exact hun
      refine wpOp_mono (fun a' w' h3 => ⟨h3.2.1, ih (listed.setIfInBounds j true) a' w' hfree' (ready_mono hr (Ne.symm hji)) h3.1 (h3.2.1 hnl) ?_⟩) h2
      rw [Array.setIfInBounds_comm _ _ hji]
      exact h3.2.2

theorem wpAnyL_take {i : Nat} {oi : Oper} {v : Value} {fuel : Nat} {listed : Array Bool} {a : Act} {w : World} (hi : ops[i]? = some oi)
    (hs : Region.noSelect ops = true) (hwt : Region.waits md ops lst i = true) (hf : Region.free md ops listed i = true) (hr : (Region.ready md ops listed).contains i = true)
    (hQ : ∀ c a w, Q (.panic c) (a.put oi.dst v) w → Q (.panic c) a w) (hy : YieldsIf P ops S oi v a) (hS : S w)
    (h : wpAnyL P md ops Q S lst fuel (listed.setIfInBounds i true) (a.put oi.dst v) w) : wpAnyL P md ops Q S lst (fuel + 1) listed a w :=
  wpAnyL_first hi (Region.noSelect_spec hs) hwt hQ fuel listed a w (Region.free_spec hi hf) (by simpa using hr) hy hS h

theorem wpAnyL_done {listed : Array Bool} {a : Act} {w : World} (hr : Region.ready md ops listed = []) (h : Q .normal a w) :
    ∀ fuel, wpAnyL P md ops Q S lst fuel listed a w
  | 0 => ⟨hr, h⟩
  | _ + 1 => ⟨fun _ => h, by rw [hr]; simp⟩

def AllReadyL (P : Program) (md : Region.Mode) (ops : Array Oper) (Q : Exit → Act → World → Prop) (S : World → Prop) (lst : List Nat) (fuel : Nat) (listed : Array Bool) (a : Act) (w : World) (rs : List Nat) : Prop :=
  ∀ i ∈ rs, wpOp P ops Q i (fun a' w' => (i ∉ lst → S w') ∧ wpAnyL P md ops Q S lst fuel (listed.setIfInBounds i true) a' w') a w
theorem AllReadyL.nil {fuel : Nat} {listed : Array Bool} {a : Act} {w : World} : AllReadyL P md ops Q S lst fuel listed a w [] := fun _ h => by cases h
theorem AllReadyL.cons {fuel : Nat} {listed : Array Bool} {a : Act} {w : World} {i : Nat} {o : Oper} {rs : List Nat} (ho : ops[i]? = some o)
    (h : ∀ K' : Act → World → Prop, Shut (∀ a w, S w → (S w → wpAnyL P md ops Q S lst fuel (listed.setIfInBounds i true) a w) → K' a w) → if Region.wanted o (yielded ops a.tmps) = true then Oper.wp P o a w K' Q else K' (a.put o.dst undef) w)
    (hs : AllReadyL P md ops Q S lst fuel listed a w rs) : AllReadyL P md ops Q S lst fuel listed a w (i :: rs) := fun j hj => by
  rcases List.mem_cons.1 hj with rfl | hj
  · exact wpOp_step ho (fun K' hK => h K' (fun a w hS hW => hK a w ⟨fun _ => hS, hW hS⟩))
  · exact hs j hj
/-- An operation of lst comes up: S need not hold behind it. -/
theorem AllReadyL.last {fuel : Nat} {listed : Array Bool} {a : Act} {w : World} {i : Nat} {o : Oper} {rs : List Nat} (ho : ops[i]? = some o) (hl : i ∈ lst)
    (h : ∀ K' : Act → World → Prop, Shut (∀ a w, wpAnyL P md ops Q S lst fuel (listed.setIfInBounds i true) a w → K' a w) → if Region.wanted o (yielded ops a.tmps) = true then Oper.wp P o a w K' Q else K' (a.put o.dst undef) w)
    (hs : AllReadyL P md ops Q S lst fuel listed a w rs) : AllReadyL P md ops Q S lst fuel listed a w (i :: rs) := fun j hj => by
  rcases List.mem_cons.1 hj with rfl | hj
  · exact wpOp_step ho (fun K' hK => h K' (fun a w hW => hK a w ⟨fun hn => absurd hl hn, hW⟩))
  · exact hs j hj
theorem wpAnyL_ready {rs : List Nat} {fuel : Nat} {listed : Array Bool} {a : Act} {w : World} (hr : Region.ready md ops listed = rs) (hne : rs ≠ [])
    (h : AllReadyL P md ops Q S lst fuel listed a w rs) : wpAnyL P md ops Q S lst (fuel + 1) listed a w :=
  ⟨fun h0 => absurd (hr ▸ h0) hne, hr ▸ h⟩
/-- The beginning. -/
theorem wp_region_L {id : Nat} {a : Act} {w : World} (lst : List Nat) (hm : P.follows .mixedOrders = true) (hS : S w.drew)
    (h : S w.drew → wpAnyL P .any ops Q S lst ops.size (Array.replicate ops.size false) a w.drew) : (Code.region id ops true).wp P Q a w :=
  wp_region_any hm (wpAny_of_L _ _ _ _ (h hS))
end
end Go

namespace Go
section
variable {P : Program} {ops : Array Oper} {Q : Exit → Act → World → Prop} {md : Region.Mode} {S : World → Prop} {lst : List Nat}
theorem wpAnyL_firstI {i : Nat} {oi : Oper} {v : Value} (hi : ops[i]? = some oi) (hsel : ∀ (j : Nat) (o : Oper) cs b, ops[j]? = some o → o.op ≠ .select cs b)
    {I : Array Bool → Prop} (hI : ∀ (listed : Array Bool) (j : Nat), I listed → i ∈ Region.ready md ops listed → j ∈ Region.ready md ops listed → j ≠ i → j ∉ lst ∧ I (listed.setIfInBounds j true))
    (hQ : ∀ c a w, Q (.panic c) (a.put oi.dst v) w → Q (.panic c) a w) :
    ∀ (fuel : Nat) (listed : Array Bool) (a : Act) (w : World),
      (∀ j oj, ops[j]? = some oj → j ≠ i → listed.getD j true = false → (∀ e ∈ oj.after, Region.binds md e = true → e.on ≠ i) → oi.apart ops oj = true) →
      I listed → i ∈ Region.ready md ops listed → YieldsIf P ops S oi v a → S w →
      wpAnyL P md ops Q S lst fuel (listed.setIfInBounds i true) (a.put oi.dst v) w → wpAnyL P md ops Q S lst (fuel + 1) listed a w := by
  intro fuel
  induction fuel with
  | zero =>
    intro listed a w _ hIl hr hy hS H
    refine ⟨fun h => (by rw [h] at hr; cases hr), fun j hj => ?_⟩
    by_cases hji : j = i
    · subst hji; exact hy.wpOp hi hS ⟨fun _ => hS, H⟩
    · have := ready_mono hj hji
      rw [H.1] at this
      cases this
  | succ fuel ih =>
    intro listed a w hfree hIl hr hy hS H
    refine ⟨fun h => (by rw [h] at hr; cases hr), fun j hj => ?_⟩
    by_cases hji : j = i
    · subst hji; exact hy.wpOp hi hS ⟨fun _ => hS, H⟩
    · have h1 := H.2 j (ready_mono hj hji)
      obtain ⟨hnl, hI2⟩ := hI listed j hIl hr hj hji
      obtain ⟨hjun, oj, hoj, hall⟩ := mem_ready.1 hj
      have hnot : ∀ e ∈ oj.after, Region.binds md e = true → e.on ≠ i := fun e he hb heq => by
        have h1 := hall e he hb
        have h0 := (mem_ready.1 hr).1
        rw [heq] at h1
        rcases Nat.lt_or_ge i listed.size with h' | h'
        · simp [h'] at h0 h1; rw [h0] at h1; cases h1
        · simp [Array.getElem?_eq_none h'] at h1
      have h2 := wpOp_putIf hoj (hfree j oj hoj hji hjun hnot) (fun cs b => hsel i oi cs b hi) (fun cs b => hsel j oj cs b hoj) hQ hy h1
      have hfree' : ∀ k ok, ops[k]? = some ok → k ≠ i → (listed.setIfInBounds j true).getD k true = false →
          (∀ e ∈ ok.after, Region.binds md e = true → e.on ≠ i) → oi.apart ops ok = true := fun k ok hk hki hun hno => by
        refine hfree k ok hk hki ?_ hno
        by_cases hjk : j = k
        · subst hjk; exact hjun
        · rw [getD_set_ne true hjk] at hun; exact hun
      refine wpOp_mono (fun a' w' h3 => ⟨h3.2.1, ih (listed.setIfInBounds j true) a' w' hfree' hI2 (ready_mono hr (Ne.symm hji)) h3.1 (h3.2.1 hnl) ?_⟩) h2
      rw [Array.setIfInBounds_comm _ _ hji]
      exact h3.2.2

def Region.waitsFor2 (md : Region.Mode) (ops : Array Oper) (j i : Nat) : Bool := match ops[j]? with
  | some o => o.after.any fun e => Region.binds md e && e.on == i
  | none => true
/-- All of lst wait for i, or for m, which waits for i. -/
def Region.waitsBy (md : Region.Mode) (ops : Array Oper) (lst : List Nat) (m i : Nat) : Bool :=
  Region.waitsFor2 md ops m i && lst.all fun j => Region.waitsFor2 md ops j i || Region.waitsFor2 md ops j m
theorem waits_un {listed : Array Bool} {i j : Nat} (hw : Region.waitsFor2 md ops j i = true) (hr : j ∈ Region.ready md ops listed) (h0 : listed.getD i true = false) : False := by
  obtain ⟨_, oj, hoj, hall⟩ := mem_ready.1 hr
  unfold Region.waitsFor2 at hw
  rw [hoj] at hw
  obtain ⟨e, he, h2⟩ := Array.any_eq_true'.1 hw
  rw [Bool.and_eq_true, beq_iff_eq] at h2
  have h3 := hall e he h2.1
  rw [h2.2] at h3
  rcases Nat.lt_or_ge i listed.size with h' | h'
  · simp [h'] at h0 h3; rw [h0] at h3; cases h3
  · simp [Array.getElem?_eq_none h'] at h3
theorem wpAnyL_takeB {i : Nat} {oi : Oper} {v : Value} {fuel : Nat} {listed : Array Bool} {a : Act} {w : World} (m : Nat) (hi : ops[i]? = some oi)
    (hs : Region.noSelect ops = true) (hwt : Region.waitsBy md ops lst m i = true) (hmu : listed.getD m true = false) (hf : Region.free md ops listed i = true) (hr : (Region.ready md ops listed).contains i = true)
    (hQ : ∀ c a w, Q (.panic c) (a.put oi.dst v) w → Q (.panic c) a w) (hy : YieldsIf P ops S oi v a) (hS : S w)
    (h : wpAnyL P md ops Q S lst fuel (listed.setIfInBounds i true) (a.put oi.dst v) w) : wpAnyL P md ops Q S lst (fuel + 1) listed a w := by
  unfold Region.waitsBy at hwt
  rw [Bool.and_eq_true] at hwt
  obtain ⟨h1, h2⟩ := hwt
  refine wpAnyL_firstI hi (Region.noSelect_spec hs) (I := fun l => l.getD m true = false) (fun l j hIl hil hjl hji => ⟨fun hl => ?_, ?_⟩) hQ fuel listed a w (Region.free_spec hi hf) hmu (by simpa using hr) hy hS h
  · have h3 := List.all_eq_true.1 h2 j hl
    rw [Bool.or_eq_true] at h3
    rcases h3 with h3 | h3
    · exact waits_un h3 hjl (mem_ready.1 hil).1
    · exact waits_un h3 hjl hIl
  · have hjm : j ≠ m := fun e => by
      subst e
      exact waits_un h1 hjl (mem_ready.1 hil).1
    rw [getD_set_ne true hjm]
    exact hIl
end
end Go

namespace Go
theorem zz1 {α : Type} {xs : List α} {i : Nat} (h : i < xs.toArray.size) : xs.toArray[i] = xs[i]'(by simpa using h) := List.getElem_toArray h
theorem zz2 {α : Type} (a : α) (l : List α) (i : Nat) (h : i + 1 < (a :: l).length) : (a :: l)[i + 1] = l[i]'(Nat.lt_of_succ_lt_succ h) := List.getElem_cons_succ a l i h
theorem zz3 {α : Type} (a : α) (l : List α) (h : 0 < (a :: l).length) : (a :: l)[0] = a := List.getElem_cons_zero a l h
theorem zz4 {α : Type} (l : List α) (i : Nat) (a : α) : l.toArray.setIfInBounds i a = (l.set i a).toArray := List.setIfInBounds_toArray ..
theorem zz5 {α : Type} (x : α) (xs : List α) (a : α) : (x :: xs).set 0 a = a :: xs := rfl
theorem zz6 {α : Type} (x : α) (xs : List α) (i : Nat) (a : α) : (x :: xs).set (i + 1) a = x :: xs.set i a := rfl
section
variable {P : Program} {ops : Array Oper} {Q : Exit → Act → World → Prop} {md : Region.Mode} {S : World → Prop} {lst : List Nat}
/-- An operation that only computes, taken first. -/
theorem tkH (i : Nat) {oi : Oper} {v : Value} {fuel : Nat} {listed : Array Bool} {a a' : Act} {w : World} (hi : ops[i]? = some oi)
    (h : wpAnyH P md ops Q S fuel (listed.setIfInBounds i true) a' w)
    (hv : ∀ w, S w → (execOp a.eval oi).run P w = .ok (.value v) w := by (intro wq hSw; (try dsimp only at hSw); (try simp (maxSteps := 2000000) only [Go.zz1, Go.zz2, Go.zz3]); go_simp); try with_reducible rfl)
    (ha : a.put oi.dst v = a' := by (try simp (maxSteps := 2000000) only [Go.zz1, Go.zz2, Go.zz3, Act.put, Go.zz4, Go.zz5, Go.zz6]); try with_reducible rfl)
    (hs : Region.noSelect ops = true := by kernel_rfl) (hf : Region.free md ops listed i = true := by kernel_rfl) (hr : (Region.ready md ops listed).contains i = true := by kernel_rfl)
    (hQ : ∀ c a w, Q (.panic c) (a.put oi.dst v) w → Q (.panic c) a w := by exact fun _ _ _ h => h) (hw : Region.wanted oi (yielded ops a.tmps) = true := by first | kernel_rfl | rfl) (hS : S w := by assumption) : wpAnyH P md ops Q S (fuel + 1) listed a w := by
  subst ha
  exact wpAnyH_take hi hs hf hr hQ (.inl ⟨hw, hv⟩) hS h
/-- One that isn't wanted. -/
theorem skH (i : Nat) {oi : Oper} {fuel : Nat} {listed : Array Bool} {a a' : Act} {w : World} (hi : ops[i]? = some oi)
    (h : wpAnyH P md ops Q S fuel (listed.setIfInBounds i true) a' w)
    (ha : a.put oi.dst undef = a' := by (try simp (maxSteps := 2000000) only [Go.zz1, Go.zz2, Go.zz3, Act.put, Go.zz4, Go.zz5, Go.zz6]); try with_reducible rfl)
    (hs : Region.noSelect ops = true := by kernel_rfl) (hf : Region.free md ops listed i = true := by kernel_rfl) (hr : (Region.ready md ops listed).contains i = true := by kernel_rfl)
    (hQ : ∀ c a w, Q (.panic c) (a.put oi.dst undef) w → Q (.panic c) a w := by exact fun _ _ _ h => h) (hw : Region.wanted oi (yielded ops a.tmps) = false := by first | kernel_rfl | rfl) (hS : S w := by assumption) : wpAnyH P md ops Q S (fuel + 1) listed a w := by
  subst ha
  exact wpAnyH_take hi hs hf hr hQ (.inr ⟨hw, rfl⟩) hS h
/-- One that comes up alone. -/
theorem rdH (i : Nat) {o : Oper} {fuel : Nat} {listed : Array Bool} {a : Act} {w : World} (ho : ops[i]? = some o)
    (h : ∀ K' : Act → World → Prop, Shut (∀ a w, S w → (S w → wpAnyH P md ops Q S fuel (listed.setIfInBounds i true) a w) → K' a w) → if Region.wanted o (yielded ops a.tmps) = true then Oper.wp P o a w K' Q else K' (a.put o.dst undef) w)
    (hr : Region.ready md ops listed = [i] := by kernel_rfl) : wpAnyH P md ops Q S (fuel + 1) listed a w :=
  wpAnyH_ready hr (by simp) (AllReadyH.cons ho h AllReadyH.nil)
theorem tkL (i : Nat) {oi : Oper} {v : Value} {fuel : Nat} {listed : Array Bool} {a a' : Act} {w : World} (hi : ops[i]? = some oi)
    (h : wpAnyL P md ops Q S lst fuel (listed.setIfInBounds i true) a' w)
    (hv : ∀ w, S w → (execOp a.eval oi).run P w = .ok (.value v) w := by (intro wq0 hSw; (try dsimp only at hSw); (try simp (maxSteps := 2000000) only [Go.zz1, Go.zz2, Go.zz3]); go_simp); try with_reducible rfl)
    (ha : a.put oi.dst v = a' := by (try simp (maxSteps := 2000000) only [Go.zz1, Go.zz2, Go.zz3, Act.put, Go.zz4, Go.zz5, Go.zz6]); try with_reducible rfl)
    (hs : Region.noSelect ops = true := by kernel_rfl) (hwt : Region.waits md ops lst i = true := by kernel_rfl) (hf : Region.free md ops listed i = true := by kernel_rfl) (hr : (Region.ready md ops listed).contains i = true := by kernel_rfl)
    (hQ : ∀ c a w, Q (.panic c) (a.put oi.dst v) w → Q (.panic c) a w := by exact fun _ _ _ h => h) (hw : Region.wanted oi (yielded ops a.tmps) = true := by first | kernel_rfl | rfl) (hS : S w := by assumption) : wpAnyL P md ops Q S lst (fuel + 1) listed a w := by
  subst ha
  exact wpAnyL_take hi hs hwt hf hr hQ (.inl ⟨hw, hv⟩) hS h
/-- Those of lst wait for it by way of number m. -/
theorem tkLB (i m : Nat) {oi : Oper} {v : Value} {fuel : Nat} {listed : Array Bool} {a a' : Act} {w : World} (hi : ops[i]? = some oi)
    (h : wpAnyL P md ops Q S lst fuel (listed.setIfInBounds i true) a' w)
    (hv : ∀ w, S w → (execOp a.eval oi).run P w = .ok (.value v) w := by (intro wq0 hSw; (try dsimp only at hSw); (try simp (maxSteps := 2000000) only [Go.zz1, Go.zz2, Go.zz3]); go_simp); try with_reducible rfl)
    (ha : a.put oi.dst v = a' := by (try simp (maxSteps := 2000000) only [Go.zz1, Go.zz2, Go.zz3, Act.put, Go.zz4, Go.zz5, Go.zz6]); try with_reducible rfl)
    (hs : Region.noSelect ops = true := by kernel_rfl) (hwt : Region.waitsBy md ops lst m i = true := by kernel_rfl) (hmu : listed.getD m true = false := by kernel_rfl) (hf : Region.free md ops listed i = true := by kernel_rfl) (hr : (Region.ready md ops listed).contains i = true := by kernel_rfl)
    (hQ : ∀ c a w, Q (.panic c) (a.put oi.dst v) w → Q (.panic c) a w := by exact fun _ _ _ h => h) (hw : Region.wanted oi (yielded ops a.tmps) = true := by first | kernel_rfl | rfl) (hS : S w := by assumption) : wpAnyL P md ops Q S lst (fuel + 1) listed a w := by
  subst ha
  exact wpAnyL_takeB m hi hs hwt hmu hf hr hQ (.inl ⟨hw, hv⟩) hS h
theorem rdL (i : Nat) {o : Oper} {fuel : Nat} {listed : Array Bool} {a : Act} {w : World} (ho : ops[i]? = some o)
    (h : ∀ K' : Act → World → Prop, Shut (∀ a w, S w → (S w → wpAnyL P md ops Q S lst fuel (listed.setIfInBounds i true) a w) → K' a w) → if Region.wanted o (yielded ops a.tmps) = true then Oper.wp P o a w K' Q else K' (a.put o.dst undef) w)
    (hr : Region.ready md ops listed = [i] := by kernel_rfl) : wpAnyL P md ops Q S lst (fuel + 1) listed a w :=
  wpAnyL_ready hr (by simp) (AllReadyL.cons ho h AllReadyL.nil)
/-- One of lst comes up alone. -/
theorem lsL (i : Nat) {o : Oper} {fuel : Nat} {listed : Array Bool} {a : Act} {w : World} (ho : ops[i]? = some o)
    (h : ∀ K' : Act → World → Prop, Shut (∀ a w, wpAnyL P md ops Q S lst fuel (listed.setIfInBounds i true) a w → K' a w) → if Region.wanted o (yielded ops a.tmps) = true then Oper.wp P o a w K' Q else K' (a.put o.dst undef) w)
    (hr : Region.ready md ops listed = [i] := by kernel_rfl) (hl : i ∈ lst := by decide) : wpAnyL P md ops Q S lst (fuel + 1) listed a w :=
  wpAnyL_ready hr (by simp) (AllReadyL.last ho hl h AllReadyL.nil)
end
end Go

namespace Go.Cib
open Go.RowKit

/-! ### Worlds that are later -/

structure Later (B : Nat) (W : World) where
  to : World
  ok : Below B W to

instance {B : Nat} {W : World} : Nonempty (Later B W) := ⟨⟨W, Below.refl _ _⟩⟩

section
variable {B : Nat} {W : World}
theorem Later.cell (y : Later B W) {b o : Nat} (h : b < B) : y.to.cell? ⟨b, o, none⟩ = W.cell? ⟨b, o, none⟩ := y.ok.cell (p := ⟨b, o, none⟩) h
theorem Later.frozen (y : Later B W) {b o : Nat} (h : b < B) : y.to.frozen? ⟨b, o, none⟩ = W.frozen? ⟨b, o, none⟩ := y.ok.frozen (p := ⟨b, o, none⟩) h
theorem Later.block (y : Later B W) {b : Nat} (h : b < B) : y.to.heap[b]? = W.heap[b]? := y.ok.block b h
theorem _root_.Go.RowKit.Below.later {a : World} {B' : Nat} (h : Below B' a W) (hB : B' ≤ B) (y : Later B W) : Below B' a y.to := h.trans (y.ok.mono hB)
theorem Later.ex {w : World} (h : Below B W w) : ∃ y : Later B W, w = y.to := ⟨⟨w, h⟩, rfl⟩
theorem Later.call {P : Program} {f : FuncId} {args : Array Value} {v : Value} (y : Later B W)
    (h : Calls P f args y.to fun e w' => e = .returned v ∧ Below y.to.heap.size y.to w') (hB : B ≤ W.heap.size) :
    Calls P f args y.to fun e w'' => e = .returned v ∧ ∃ z : Later B W, w'' = z.to :=
  h.mono fun _ w' ⟨he, hb⟩ => ⟨he, ⟨⟨w', y.ok.trans (hb.mono (Nat.le_trans hB y.ok.size))⟩, rfl⟩⟩
end

/-- A region that draws its order, whose operations read, and whose callees leave what was there: in the text's order. -/
theorem wp_region_later {P : Program} {id : Nat} {Q : Exit → Act → World → Prop} {a : Act} {w : World} {l : List Oper} (hm : P.follows .mixedOrders = true) (hB : Region.lexB .any l.toArray = true)
    (h : wpQuiet P l.toArray (fun w' => ∃ y : Later w.heap.size w, w' = y.to) (fun a' => ∀ w', (∃ y : Later w.heap.size w, w' = y.to) → Q .normal a' w') l a) : (Code.region id l.toArray true).wp P Q a w :=
  wp_region_quiet (C := fun w' => ∃ y : Later w.heap.size w, w' = y.to) hm hB ⟨⟨w.drew, (Below.refl _ _).drew⟩, rfl⟩ (by simpa using h)

structure Grw (row : Option Nat) (W : World) where
  to : World
  ok : W.grownBy to row
theorem Grw.cell {row : Option Nat} {W : World} (y : Grw row W) {b o : Nat} (h : b < W.heap.size) (hn : some b ≠ row) : y.to.cell? ⟨b, o, none⟩ = W.cell? ⟨b, o, none⟩ := World.cell?_of_block (y.ok.block b h hn)
theorem Grw.frozen {row : Option Nat} {W : World} (y : Grw row W) {b o : Nat} (h : b < W.heap.size) (hn : some b ≠ row) : y.to.frozen? ⟨b, o, none⟩ = W.frozen? ⟨b, o, none⟩ := World.frozen?_of_block (y.ok.block b h hn)
theorem Grw.ex {row : Option Nat} {W w : World} (h : W.grownBy w row) : ∃ y : Grw row W, w = y.to := ⟨⟨w, h⟩, rfl⟩
theorem Later.of_grown {W w : World} (h : W.grownBy w none) : ∃ y : Later W.heap.size W, w = y.to := ⟨⟨w, ⟨h.os, h.tape, h.output, h.size, fun k hk => h.block k hk (by simp)⟩⟩, rfl⟩

theorem cell_set (w : World) (b o b' o' : Nat) (v : Value) : (w.setCell ⟨b, o, none⟩ v).cell? ⟨b', o', none⟩ = if b = b' ∧ o = o' then (w.cell? ⟨b', o', none⟩).map (fun _ => v) else w.cell? ⟨b', o', none⟩ := by
  by_cases h : b = b' ∧ o = o'
  · obtain ⟨rfl, rfl⟩ := h
    rw [if_pos ⟨rfl, rfl⟩]
    cases hc : w.cell? ⟨b, o, none⟩ with
    | some u => rw [World.cell?_setCell_same _ _ _ hc]; rfl
    | none =>
      simp only [World.setCell, World.cell?, Array.getElem?_modify, ↓reduceIte] at hc ⊢
      cases hb : w.heap[b]? with
      | none => rfl
      | some x => cases x <;> simp_all
  · rw [if_neg h]
    exact World.cell?_setCell_other _ _ _ _ (fun e => h (by injection e with e1 e2; exact ⟨e1, e2⟩))

/-! ### Readings -/

/-- A slice whose elements (of s cells each) read as xs by R, all in blocks of S. -/
def RdL {X : Type} (R : (Nat → Prop) → World → List Value → X → Prop) (s : Nat) (S : Nat → Prop) (w : World) (A : Option Addr) (n : Nat) (xs : List X) : Prop :=
  xs.length = n ∧ (0 < n → ∃ b o, A = some ⟨b, o, none⟩ ∧ S b ∧ b < w.heap.size ∧
    ∀ i x, xs[i]? = some x → ∃ cs : List Value, cs.length = s ∧ R S w cs x ∧ ∀ j v, cs[j]? = some v → w.cell? ⟨b, o + i * s + j, none⟩ = some v)

/-- What is read so stays, where the blocks of S stay. -/
def Stable {X : Type} (R : (Nat → Prop) → World → List Value → X → Prop) : Prop :=
  ∀ (S S' : Nat → Prop) (w w' : World) (cs : List Value) (x : X), R S w cs x → (∀ b, S b → b < w.heap.size → S' b ∧ w'.heap[b]? = w.heap[b]?) → R S' w' cs x

theorem lt_of_block {w w' : World} {b : Nat} (hb : b < w.heap.size) (h : w'.heap[b]? = w.heap[b]?) : b < w'.heap.size := by
  rcases Nat.lt_or_ge b w'.heap.size with h1 | h1
  · exact h1
  · rw [Array.getElem?_eq_none h1, Array.getElem?_eq_getElem hb] at h; cases h

theorem RdL.stable {X : Type} {R : (Nat → Prop) → World → List Value → X → Prop} (hR : Stable R) {s : Nat} {S S' : Nat → Prop} {w w' : World} {A : Option Addr} {n : Nat} {xs : List X}
    (h : RdL R s S w A n xs) (hk : ∀ b, S b → b < w.heap.size → S' b ∧ w'.heap[b]? = w.heap[b]?) : RdL R s S' w' A n xs :=
  ⟨h.1, fun hn => by
    obtain ⟨b, o, hA, hS, hlt, hc⟩ := h.2 hn
    refine ⟨b, o, hA, (hk b hS hlt).1, lt_of_block hlt (hk b hS hlt).2, fun i x hx => ?_⟩
    obtain ⟨cs, h1, h2, h3⟩ := hc i x hx
    exact ⟨cs, h1, hR _ _ _ _ _ _ h2 hk, fun j v hj => (World.cell?_of_block (a := ⟨b, _, none⟩) (hk b hS hlt).2).trans (h3 j v hj)⟩⟩

theorem RdL.nil {X : Type} {R : (Nat → Prop) → World → List Value → X → Prop} {s : Nat} {S : Nat → Prop} {w : World} {A : Option Addr} : RdL R s S w A 0 [] := ⟨rfl, fun h => absurd h (by omega)⟩

theorem RdL.below {X : Type} {R : (Nat → Prop) → World → List Value → X → Prop} (hR : Stable R) {s : Nat} {S : Nat → Prop} {w w' : World} {A : Option Addr} {n : Nat} {xs : List X}
    (h : RdL R s S w A n xs) (hb : Below w.heap.size w w') : RdL R s S w' A n xs := h.stable hR fun b hS hlt => ⟨hS, hb.block b hlt⟩

theorem RdL.setCell {X : Type} {R : (Nat → Prop) → World → List Value → X → Prop} (hR : Stable R) {s : Nat} {S : Nat → Prop} {w : World} {A : Option Addr} {n : Nat} {xs : List X}
    (h : RdL R s S w A n xs) {p : Addr} (hp : ¬ S p.block) (u : Value) : RdL R s S (w.setCell p u) A n xs := h.stable hR fun _ hS _ => ⟨hS, Below.heap_setCell _ _ _ _ (fun e => hp (e ▸ hS))⟩

theorem RdL.alloc {X : Type} {R : (Nat → Prop) → World → List Value → X → Prop} (hR : Stable R) {s : Nat} {S : Nat → Prop} {w : World} {A : Option Addr} {n : Nat} {xs : List X}
    (h : RdL R s S w A n xs) (o : Obj) : RdL R s S (w.alloc o) A n xs := h.stable hR fun _ hS hlt => ⟨hS, Below.heap_alloc _ _ _ hlt⟩

theorem RdL.weaken {X : Type} {R : (Nat → Prop) → World → List Value → X → Prop} (hR : Stable R) {s : Nat} {S S' : Nat → Prop} {w : World} {A : Option Addr} {n : Nat} {xs : List X}
    (h : RdL R s S w A n xs) (hS : ∀ b, S b → S' b) : RdL R s S' w A n xs := h.stable hR fun b hb _ => ⟨hS b hb, rfl⟩

theorem RdL.addr {X : Type} {R : (Nat → Prop) → World → List Value → X → Prop} {s : Nat} {S : Nat → Prop} {w : World} {A : Option Addr} {n : Nat} {xs : List X}
    (h : RdL R s S w A n xs) {k : Nat} (hk : k < n) : ∃ b o, A = some ⟨b, o, none⟩ ∧ S b ∧ b < w.heap.size := by
  obtain ⟨b, o, h1, h2, h3, _⟩ := h.2 (by omega)
  exact ⟨b, o, h1, h2, h3⟩

theorem RdL.at {X : Type} {R : (Nat → Prop) → World → List Value → X → Prop} {s : Nat} {S : Nat → Prop} {w : World} {b o : Nat} {n : Nat} {xs : List X}
    (h : RdL R s S w (some ⟨b, o, none⟩) n xs) {k : Nat} (hk : k < n) : ∃ (hl : k < xs.length) (cs : List Value), cs.length = s ∧ R S w cs xs[k] ∧ ∀ j v, cs[j]? = some v → w.cell? ⟨b, o + k * s + j, none⟩ = some v := by
  obtain ⟨b', o', hA, _, _, hc⟩ := h.2 (by omega)
  obtain ⟨rfl, rfl⟩ : b = b' ∧ o = o' := by simpa using hA
  have hl : k < xs.length := by rw [h.1]; exact hk
  obtain ⟨cs, h1, h2, h3⟩ := hc k xs[k] (List.getElem?_eq_getElem hl)
  exact ⟨hl, cs, h1, h2, h3⟩

/-- An int. -/
def IntR (_ : Nat → Prop) (_ : World) (cs : List Value) (x : Int) : Prop := cs = [.int .i64 x]
theorem IntR.stable : Stable IntR := fun _ _ _ _ _ _ h _ => h
/-- A uint64. -/
def U64R (_ : Nat → Prop) (_ : World) (cs : List Value) (x : Int) : Prop := cs = [.int .u64 x]
theorem U64R.stable : Stable U64R := fun _ _ _ _ _ _ h _ => h
theorem IntR.one : ∀ S w cs x, IntR S w cs x → ∀ u ∈ cs, u.oneCell' = true := by
  rintro S w cs x rfl u hu
  simp at hu
  subst hu; rfl
theorem U64R.one : ∀ S w cs x, U64R S w cs x → ∀ u ∈ cs, u.oneCell' = true := by
  rintro S w cs x rfl u hu
  simp at hu
  subst hu; rfl

/-! ### Slices of the call's own -/

structure SlTy (P : Program) (T E : TypeId) (z : Value) (size bytes : Nat) : Prop where
  und : P.underlying T = some (.slice E)
  info : (P.info? E).map (fun i => (i.zero, i.size, i.bytes)) = some (some z, size, bytes)
  zsz : z.cells.size = size
  pos : 0 < size

/-- The blocks of S but that of v. -/
def Rest (S : Nat → Prop) (v : Value) (b : Nat) : Prop := S b ∧ some b ≠ v.ownBlock

def OwnL {X : Type} (R : (Nat → Prop) → World → List Value → X → Prop) (E : TypeId) (s base : Nat) (S : Nat → Prop) (w : World) (v : Value) (n : Nat) (xs : List X) : Prop :=
  ∃ css : List (List Value), w.ownsRow base E s v n css.flatten ∧ xs.length = n ∧ css.length = n ∧ (∀ cs ∈ css, cs.length = s) ∧
    ∀ (i : Nat) (cs : List Value) (x : X), css[i]? = some cs → xs[i]? = some x → R (Rest S v) w cs x


section
variable {X : Type} {R : (Nat → Prop) → World → List Value → X → Prop} {E : TypeId} {s base : Nat} {S : Nat → Prop} {w w' : World} {v v' : Value} {n : Nat} {xs : List X}

theorem OwnL.nil_ : OwnL R E s base S w (.slice none 0 0) 0 [] := ⟨[], ⟨by simp, .inl ⟨rfl, rfl⟩⟩, rfl, rfl, by simp, by simp⟩

/-- A new row, made with a length of 0. -/
theorem OwnL.made (cur : Array Value) (cap : Nat) (hb : base ≤ w.heap.size) (hm : cap ≤ maxLen) (hs : cur.size = cap * s) :
    OwnL R E s base S (w.alloc (.cells cur E)) (.slice (some ⟨w.heap.size, 0, none⟩) 0 cap) 0 [] :=
  ⟨[], World.ownsRow_made w cur cap hb hm hs, rfl, rfl, by simp, by simp⟩

/-- Behind whatever leaves all old blocks but perhaps v's own, and v as an owned row. -/
theorem OwnL.keep (hR : Stable R) (h : OwnL R E s base S w v n xs) (hb : Below w.heap.size w w') : OwnL R E s base S w' v n xs := by
  obtain ⟨css, h1, h2, h3, h4, h5⟩ := h
  refine ⟨css, h1.kept (row := none) ⟨hb.os, hb.tape, hb.output, hb.size, fun k hk _ => hb.block k hk⟩ (by cases hv : v.ownBlock <;> simp), h2, h3, h4, fun i cs x hc hx => ?_⟩
  exact hR _ _ _ _ _ _ (h5 i cs x hc hx) fun b hS hlt => ⟨hS, hb.block b hlt⟩

theorem OwnL.alloc (hR : Stable R) (h : OwnL R E s base S w v n xs) (o : Obj) : OwnL R E s base S (w.alloc o) v n xs := h.keep hR ((Below.refl _ _).alloc (Nat.le_refl _) o)

/-- While another slice of the call's own grows. -/
theorem OwnL.other {S' : Nat → Prop} {v2 : Value} (hR : Stable R) (h : OwnL R E s base S w v n xs) (hg : w.grownBy w' v2.ownBlock) (hne : v.ownBlock = none ∨ v.ownBlock ≠ v2.ownBlock)
    (hS : ∀ b, S b → some b ≠ v2.ownBlock) (hS' : ∀ b, S b → b < w.heap.size → S' b) : OwnL R E s base S' w' v n xs := by
  obtain ⟨css, h1, h2, h3, h4, h5⟩ := h
  refine ⟨css, h1.kept hg hne, h2, h3, h4, fun i cs x hc hx => ?_⟩
  exact hR _ _ _ _ _ _ (h5 i cs x hc hx) fun b hb hlt => ⟨⟨hS' b hb.1 hlt, hb.2⟩, hg.block b hlt (hS b hb.1)⟩

theorem flatten_get {α : Type} {s : Nat} : ∀ (css : List (List α)) (_ : ∀ cs ∈ css, cs.length = s) (i : Nat) (cs : List α) (j : Nat), css[i]? = some cs → j < s → css.flatten[i * s + j]? = cs[j]?
  | [], _, i, cs, j, h, _ => by simp at h
  | c :: css, hl, 0, cs, j, h, hj => by
    have hc : c.length = s := hl c (by simp)
    simp at h; subst h
    rw [List.flatten_cons, List.getElem?_append_left (by omega)]; simp
  | c :: css, hl, i + 1, cs, j, h, hj => by
    have hc : c.length = s := hl c (by simp)
    rw [List.flatten_cons, List.getElem?_append_right (by rw [hc, Nat.add_mul]; omega), hc]
    have : (i + 1) * s + j - s = i * s + j := by rw [Nat.add_mul]; omega
    rw [this]
    exact flatten_get css (fun cs h => hl cs (List.mem_cons_of_mem _ h)) i cs j (by simpa using h) hj

theorem OwnL.form (h : OwnL R E s base S w v n xs) : ∃ A c, v = .slice A n c ∧ n ≤ c := by
  obtain ⟨css, h1, _⟩ := h
  rcases h1.2 with ⟨rfl, rfl⟩ | ⟨g, cap, cur, rfl, _, _, hnc, _⟩
  · exact ⟨none, 0, rfl, Nat.le_refl _⟩
  · exact ⟨_, cap, rfl, hnc⟩

/-- As a reading. -/
theorem OwnL.rd {S' : Nat → Prop} (h : OwnL R E s base S w v n xs) (hb : ∀ k, base ≤ k → S' k) (hel : ∀ cs x, R (Rest S v) w cs x → R S' w cs x) : ∃ A c, v = .slice A n c ∧ n ≤ c ∧ RdL R s S' w A n xs := by
  obtain ⟨css, h1, h2, h3, h4, h5⟩ := h
  rcases h1.2 with ⟨rfl, rfl⟩ | ⟨g, cap, cur, rfl, hg, hblk, hnc, hcm, hsz, ht⟩
  · exact ⟨none, 0, rfl, Nat.le_refl _, by rw [List.length_eq_zero_iff.1 h2]; exact RdL.nil⟩
  · refine ⟨_, cap, rfl, hnc, h2, fun _ => ⟨g, 0, rfl, hb g hg, (Array.getElem?_eq_some_iff.1 hblk).1, fun i x hx => ?_⟩⟩
    have hi : i < css.length := by have := (List.getElem?_eq_some_iff.1 hx).1; omega
    refine ⟨css[i], h4 _ (List.getElem_mem _), hel _ _ (h5 i _ x (List.getElem?_eq_getElem hi) hx), fun j u hj => ?_⟩
    have hjs : j < s := by have h6 := (List.getElem?_eq_some_iff.1 hj).1; have h7 := h4 _ (List.getElem_mem hi); omega
    have hf := flatten_get css h4 i css[i] j (List.getElem?_eq_getElem hi) hjs
    have hc := h1.cells (g := g) rfl (i * s + j) u (by rw [hf]; exact hj)
    have ha : (⟨g, 0, none⟩ : Addr).add (i * s + j) = ⟨g, 0 + i * s + j, none⟩ := by unfold Addr.add; split <;> simp_all <;> omega
    rw [ha] at hc
    exact hc
end

section
variable {P : Program} {ops : Array Oper} {rest : List Oper} {o : Oper} {a : Act} {Q : Exit → Act → World → Prop} {w : World}

/-- append(s, x) of one element, that lies in a row: onto a slice of the call's own. -/
theorem wpList_push {X : Type} {R : (Nat → Prop) → World → List Value → X → Prop} (hR : Stable R) {T E : TypeId} {z : Value} {size bytes : Nat} (st : SlTy P T E z size bytes) {s x : Operand}
    (hgd : o.guard = none) (ho : o.op = .call { callee := .builtin .append, args := #[s, x], argTypes := #[T, T] })
    {base n : Nat} {S : Nat → Prop} {v : Value} {xs : List X} (hs : a.eval s = v) (hown : OwnL R E size base S w v n xs)
    {b off c : Nat} {cs : List Value} {y : X} (hx : a.eval x = .slice (some ⟨b, off, none⟩) 1 c) (hcs : cs.length = size) (hcell : ∀ j u, cs[j]? = some u → w.cell? ⟨b, off + j, none⟩ = some u)
    (h1 : ∀ u ∈ cs, u.oneCell' = true) (hy : R (Rest S v) w cs y)
    (hlen : n + 1 ≤ maxLen) (hbytes : (n + 1) * bytes ≤ 140737488355328) (hbase : base ≤ w.heap.size)
    (h' : ∀ A' c' w', n + 1 ≤ c' → OwnL R E size base S w' (.slice A' (n + 1) c') (n + 1) (xs ++ [y]) → w.grownBy w' v.ownBlock → (Value.ownBlock (.slice A' (n + 1) c') = v.ownBlock ∨ Value.ownBlock (.slice A' (n + 1) c') = some w.heap.size) → wpList P ops Q rest (a.put o.dst (.slice A' (n + 1) c')) w') :
    wpList P ops Q (o :: rest) a w := by
  have h : ∀ v' w', OwnL R E size base S w' v' (n + 1) (xs ++ [y]) → w.grownBy w' v.ownBlock → (v'.ownBlock = v.ownBlock ∨ v'.ownBlock = some w.heap.size) → wpList P ops Q rest (a.put o.dst v') w' := fun v' w' e1 e2 e3 => by
    obtain ⟨A, c, rfl, e4⟩ := e1.form
    exact h' A c w' e4 e1 e2 e3
  obtain ⟨i, hi, hz, hsz, hby⟩ := info_parts st.info
  obtain ⟨css, k1, k2, k3, k4, k5⟩ := hown
  have hn0 : 0 < size := st.pos
  refine wpList_append_own_at w hgd s x T ho base E i z size bytes st.und hi hz hsz hby st.zsz hn0 v n css.flatten hs k1 ⟨b, off, none⟩ 1 c cs hx (by omega) (fun j u hj => by rw [Addr.add_lit]; exact hcell j u hj) h1 hlen hbytes hbase ?_
  intro v' w' hown' hg _ hat
  refine h v' w' ⟨css ++ [cs], by simpa using hown', by simp [k2], by simp [k3], ?_, ?_⟩ hg hat
  · intro c' hc'
    rcases List.mem_append.1 hc' with hc' | hc'
    · exact k4 _ hc'
    · rw [List.mem_singleton.1 hc']; exact hcs
  · have hst : ∀ (b : Nat), Rest S v b → b < w.heap.size → Rest S v' b ∧ w'.heap[b]? = w.heap[b]? := fun b hS hlt => by
      refine ⟨⟨hS.1, ?_⟩, hg.block b hlt hS.2⟩
      rcases hat with e | e
      · rw [e]; exact hS.2
      · rw [e]; intro h; injection h with h; omega
    intro i c' y' hc' hy'
    by_cases hin : i < n
    · rw [List.getElem?_append_left (by omega)] at hc' hy'
      exact hR _ _ _ _ _ _ (k5 i c' y' hc' hy') hst
    · have hie : i = n := by
        have := (List.getElem?_eq_some_iff.1 hy').1
        simp [k2] at this; omega
      subst hie
      rw [List.getElem?_append_right (by omega)] at hc' hy'
      simp only [k3, k2, Nat.sub_self, List.getElem?_cons_zero, Option.some.injEq] at hc' hy'
      subst hc'; subst hy'
      exact hR _ _ _ _ _ _ hy hst

/-- append(s, xs...): onto a slice of the call's own. -/
theorem wpList_appL {X : Type} {R : (Nat → Prop) → World → List Value → X → Prop} (hR : Stable R) (hone : ∀ S w cs x, R S w cs x → ∀ u ∈ cs, u.oneCell' = true) {T E : TypeId} {z : Value} {size bytes : Nat} (st : SlTy P T E z size bytes) {s x : Operand}
    (hgd : o.guard = none) (ho : o.op = .call { callee := .builtin .append, args := #[s, x], argTypes := #[T, T] })
    {base n : Nat} {S S0 : Nat → Prop} {v : Value} {xs : List X} (hs : a.eval s = v) (hown : OwnL R E size base S w v n xs)
    {A : Option Addr} {m c : Nat} {ys : List X} (hx : a.eval x = .slice A m c) (hr : RdL R size S0 w A m ys)
    (hy : ∀ cs y, R S0 w cs y → R (Rest S v) w cs y)
    (hlen : n + m ≤ maxLen) (hbytes : (n + m) * bytes ≤ 140737488355328) (hbase : base ≤ w.heap.size)
    (h' : ∀ A' c' w', n + m ≤ c' → OwnL R E size base S w' (.slice A' (n + m) c') (n + m) (xs ++ ys) → w.grownBy w' v.ownBlock → (Value.ownBlock (.slice A' (n + m) c') = v.ownBlock ∨ Value.ownBlock (.slice A' (n + m) c') = some w.heap.size) → wpList P ops Q rest (a.put o.dst (.slice A' (n + m) c')) w') :
    wpList P ops Q (o :: rest) a w := by
  have h : ∀ v' w', OwnL R E size base S w' v' (n + m) (xs ++ ys) → w.grownBy w' v.ownBlock → (v'.ownBlock = v.ownBlock ∨ v'.ownBlock = some w.heap.size) → wpList P ops Q rest (a.put o.dst v') w' := fun v' w' e1 e2 e3 => by
    obtain ⟨A, c, rfl, e4⟩ := e1.form
    exact h' A c w' e4 e1 e2 e3
  obtain ⟨i, hi, hz, hsz, hby⟩ := info_parts st.info
  obtain ⟨css, k1, k2, k3, k4, k5⟩ := hown
  have hn0 : 0 < size := st.pos
  rcases Nat.eq_zero_or_pos m with hm | hm
  · subst hm
    have hys : ys = [] := List.length_eq_zero_iff.1 hr.1
    subst hys
    refine wpList_plain hgd fun K hK => ?_
    have hrun : (Builtin.append_ #[T, T] o.type #[v, .slice A 0 c]).run P w = .ok v w := by
      rcases k1.2 with ⟨rfl, rfl⟩ | ⟨g, cap, cur, rfl, _, _, hnc, _⟩
      · cases A <;> simp [Builtin.append_, run_underlying st.und, sizeOf, typeInfo, hi, Builtin.lenOf, Builtin.firstCells, loadCells, loadCellsFrom]
      · cases A <;> simp [Builtin.append_, run_underlying st.und, sizeOf, typeInfo, hi, Builtin.lenOf, Builtin.firstCells, hnc, storeCells, loadCells, loadCellsFrom]
    unfold Oper.wp execOp
    simp only [ho, resolve, invoke, builtin, Sem.run_bind, Sem.run_pure, Result.andThen_ok, List.map_toArray, List.map_cons, List.map_nil, hs, hx, hrun]
    exact hK _ _ (h v w ⟨css, by simpa using k1, by simpa using k2, by simpa using k3, k4, by simpa using k5⟩ (World.grownBy.refl w _) (.inl rfl))
  · obtain ⟨b, off, rfl, _, _, hc⟩ := hr.2 hm
    have hex : ∃ news : List (List Value), news.length = m ∧ ∀ i cs, news[i]? = some cs → ∃ y, ys[i]? = some y ∧ cs.length = size ∧ R S0 w cs y ∧ ∀ j u, cs[j]? = some u → w.cell? ⟨b, off + i * size + j, none⟩ = some u := by
      have hall : ∀ k, k ≤ m → ∃ news : List (List Value), news.length = k ∧ ∀ i cs, news[i]? = some cs → ∃ y, ys[i]? = some y ∧ cs.length = size ∧ R S0 w cs y ∧ ∀ j u, cs[j]? = some u → w.cell? ⟨b, off + i * size + j, none⟩ = some u := by
        intro k
        induction k with
        | zero => exact fun _ => ⟨[], rfl, by simp⟩
        | succ k ih =>
          intro hk
          obtain ⟨news, hl, hn⟩ := ih (by omega)
          have hky : k < ys.length := by rw [hr.1]; omega
          obtain ⟨cs, e1, e2, e3⟩ := hc k ys[k] (List.getElem?_eq_getElem hky)
          refine ⟨news ++ [cs], by simp [hl], fun i cs' hi' => ?_⟩
          by_cases hik : i < k
          · rw [List.getElem?_append_left (by omega)] at hi'
            exact hn i cs' hi'
          · have : i = k := by
              have := (List.getElem?_eq_some_iff.1 hi').1
              simp [hl] at this; omega
            subst this
            rw [List.getElem?_append_right (by omega)] at hi'
            simp only [hl, Nat.sub_self, List.getElem?_cons_zero, Option.some.injEq] at hi'
            subst hi'
            exact ⟨_, List.getElem?_eq_getElem hky, e1, e2, e3⟩
      exact hall m (Nat.le_refl _)
    obtain ⟨news, hl, hn⟩ := hex
    have hlen1 : ∀ cs ∈ news, cs.length = size := fun cs hcs => by
      obtain ⟨i, hi', rfl⟩ := List.mem_iff_getElem.1 hcs
      obtain ⟨_, _, h2, _⟩ := hn i _ (List.getElem?_eq_getElem hi')
      exact h2
    have hfl : ∀ (l : List (List Value)), (∀ cs ∈ l, cs.length = size) → l.flatten.length = l.length * size := by
      intro l
      induction l with
      | nil => simp
      | cons c l ih =>
        intro hh
        rw [List.flatten_cons, List.length_append, ih (fun cs h => hh cs (List.mem_cons_of_mem _ h)), hh c (by simp), List.length_cons, Nat.add_mul]; omega
    refine wpList_append_own_at w hgd s x T ho base E i z size bytes st.und hi hz hsz hby st.zsz hn0 v n css.flatten hs k1 ⟨b, off, none⟩ m c news.flatten hx (by rw [hfl news hlen1, hl]) ?_ ?_ hlen hbytes hbase ?_
    · intro j u hj
      rw [Addr.add_lit]
      have hjl : j < news.length * size := by rw [← hfl news hlen1]; exact (List.getElem?_eq_some_iff.1 hj).1
      have hq : j / size < news.length := Nat.div_lt_of_lt_mul (by rw [Nat.mul_comm]; exact hjl)
      have hjm : j = (j / size) * size + j % size := by rw [Nat.mul_comm]; exact (Nat.div_add_mod j size).symm
      obtain ⟨y, _, _, _, h4⟩ := hn (j / size) _ (List.getElem?_eq_getElem hq)
      have hf := flatten_get news hlen1 (j / size) _ (j % size) (List.getElem?_eq_getElem hq) (Nat.mod_lt _ hn0)
      rw [← hjm] at hf
      rw [hf] at hj
      have h5 := h4 _ u hj
      rw [show off + j / size * size + j % size = off + j by omega] at h5
      exact h5
    · intro u hu
      obtain ⟨cs, hcs, huc⟩ := List.mem_flatten.1 hu
      obtain ⟨i, hi', rfl⟩ := List.mem_iff_getElem.1 hcs
      obtain ⟨y, _, _, h3, _⟩ := hn i _ (List.getElem?_eq_getElem hi')
      exact hone _ _ _ _ h3 u huc
    · intro v' w' hown' hg _ hat
      have hst : ∀ (b : Nat), Rest S v b → b < w.heap.size → Rest S v' b ∧ w'.heap[b]? = w.heap[b]? := fun b hS hlt => by
        refine ⟨⟨hS.1, ?_⟩, hg.block b hlt hS.2⟩
        rcases hat with e | e
        · rw [e]; exact hS.2
        · rw [e]; intro h; injection h with h; omega
      refine h v' w' ⟨css ++ news, by simpa using hown', by simp [k2, hr.1], by simp [k3, hl], ?_, ?_⟩ hg hat
      · intro c' hc'
        rcases List.mem_append.1 hc' with hc' | hc'
        · exact k4 _ hc'
        · exact hlen1 _ hc'
      · intro i c' y' hc' hy'
        by_cases hin : i < n
        · rw [List.getElem?_append_left (by omega)] at hc' hy'
          exact hR _ _ _ _ _ _ (k5 i c' y' hc' hy') hst
        · rw [List.getElem?_append_right (by omega)] at hc' hy'
          rw [k3] at hc'; rw [k2] at hy'
          obtain ⟨y, e1, _, e3, _⟩ := hn _ _ hc'
          rw [e1] at hy'; injection hy' with hy'; subst hy'
          exact hR _ _ _ _ _ _ (hy _ _ e3) hst
end

theorem OwnL.lt {X : Type} {R : (Nat → Prop) → World → List Value → X → Prop} {E : TypeId} {s base : Nat} {S : Nat → Prop} {w : World} {v : Value} {n : Nat} {xs : List X} (h : OwnL R E s base S w v n xs) :
    ∀ k, v.ownBlock = some k → base ≤ k ∧ k < w.heap.size := by
  obtain ⟨css, h1, _⟩ := h
  exact h1.lt
theorem OwnL.rest {X : Type} {R : (Nat → Prop) → World → List Value → X → Prop} {E : TypeId} {s base : Nat} {S : Nat → Prop} {w : World} {v : Value} {n : Nat} {xs : List X} (h : OwnL R E s base S w v n xs) {b : Nat} (hS : S b) (hb : w.heap.size ≤ b) : Rest S v b :=
  ⟨hS, fun e => by have := (h.lt b e.symm).2; omega⟩

section
variable {P : Program} {ops : Array Oper} {rest : List Oper} {o : Oper} {a : Act} {Q : Exit → Act → World → Prop} {w : World}
/-- make([]T, 0, n). -/
theorem wpList_make0 {X : Type} (R : (Nat → Prop) → World → List Value → X → Prop) (S : Nat → Prop) {T E : TypeId} {z : Value} {size bytes : Nat} (st : SlTy P T E z size bytes) {l c : Operand}
    (hgd : o.guard = none) (ho : o.op = .makeSlice T l c) {base : Nat} {kl kc : IntKind} {C : Int} (hl : a.eval l = .int kl 0) (hc : a.eval c = .int kc C)
    (n : Nat) (hC : C = (n : Int)) (hbytes : bytes * n ≤ 281474976710656) (hn : n ≤ maxLen) (hbase : base ≤ w.heap.size)
    (h : ∀ (y : Later w.heap.size w), w.heap.size < y.to.heap.size → OwnL R E size base S y.to (.slice (some ⟨w.heap.size, 0, none⟩) 0 n) 0 [] → wpList P ops Q rest (a.put o.dst (.slice (some ⟨w.heap.size, 0, none⟩) 0 n)) y.to) :
    wpList P ops Q (o :: rest) a w := by
  obtain ⟨i, hi, hz, hsz, hby⟩ := info_parts st.info
  subst hby
  refine wpList_make_own w hgd l c T ho base E i z size st.und hi hz hsz kl kc C n hl hc hC hbytes hn hbase ?_
  intro w' hown hg
  have hlt := (hown.lt w.heap.size rfl).2
  obtain ⟨y, rfl⟩ := Later.of_grown hg
  exact h y hlt ⟨[], hown, rfl, rfl, by simp, by simp⟩

end

end Go.Cib

namespace Go.Cib
open Go.RowKit

section
variable {P : Program} {ops : Array Oper} {rest : List Oper} {o : Oper} {a : Act} {Q : Exit → Act → World → Prop} {W : World}
/-- append(s, x): x lies in the row that was just laid for it. -/
theorem wpList_push1 {X : Type} {R : (Nat → Prop) → World → List Value → X → Prop} (hR : Stable R) (hone : ∀ S w cs x, R S w cs x → ∀ u ∈ cs, u.oneCell' = true) {T E : TypeId} {z : Value} {size bytes : Nat} (st : SlTy P T E z size bytes) {s x : Operand}
    (hgd : o.guard = none) (ho : o.op = .call { callee := .builtin .append, args := #[s, x], argTypes := #[T, T] })
    {base n c : Nat} {S : Nat → Prop} {v : Value} {xs : List X} {cs : Array Value} {y : X} (hs : a.eval s = v) (hx : a.eval x = .slice (some ⟨W.heap.size, 0, none⟩) 1 c)
    (hown : OwnL R E size base S W v n xs) (hcs : cs.size = size) (hy : R (Rest S v) W cs.toList y)
    (hlen : n + 1 ≤ maxLen) (hbytes : (n + 1) * bytes ≤ 140737488355328) (hbase : base ≤ W.heap.size)
    (h : ∀ A' c' (u : Grw v.ownBlock W), n + 1 ≤ c' → OwnL R E size base S u.to (.slice A' (n + 1) c') (n + 1) (xs ++ [y]) → W.heap.size < u.to.heap.size → Below base W u.to → (Value.ownBlock (.slice A' (n + 1) c') = v.ownBlock ∨ Value.ownBlock (.slice A' (n + 1) c') = some (W.heap.size + 1)) → wpList P ops Q rest (a.put o.dst (.slice A' (n + 1) c')) u.to) :
    wpList P ops Q (o :: rest) a (W.alloc (.cells cs E)) := by
  have hal : Below W.heap.size W (W.alloc (.cells cs E)) := (Below.refl _ _).alloc (Nat.le_refl _) _
  refine wpList_push hR st hgd ho hs (hown.keep hR hal) (b := W.heap.size) (off := 0) (cs := cs.toList) (y := y) hx (by simpa using hcs) ?_ (hone _ _ _ _ hy) (hR _ _ _ _ _ _ hy fun b hb hlt => ⟨hb, hal.block b hlt⟩) hlen hbytes (by simp only [World.size_alloc]; omega) ?_
  · intro j u hj
    have hnew : (W.alloc (.cells cs E)).heap[W.heap.size]? = some (.cells cs E (0, 0)) := heap_alloc_new W _
    rw [cell_of_row _ W.heap.size (0 + j) cs E (0, 0) hnew]
    simpa using hj
  · intro A' c' w' hc hown' hg hat
    have hg2 : W.grownBy w' v.ownBlock := ⟨hg.os, hg.tape, hg.output, by have := hg.size; simp only [World.size_alloc] at this; omega, fun k hk hne => (hg.block k (by simp only [World.size_alloc]; omega) hne).trans (Below.heap_alloc _ _ _ hk)⟩
    refine h A' c' ⟨w', hg2⟩ hc hown' ?_ ?_ ?_
    · have := hg.size; simp only [World.size_alloc] at this; exact this
    · exact (Below.refl _ _).grown hg2 hbase (fun k hk => (hown.lt k hk).1)
    · simpa only [World.size_alloc] using hat
end

theorem OwnL.len {X : Type} {R : (Nat → Prop) → World → List Value → X → Prop} {E : TypeId} {s base : Nat} {S : Nat → Prop} {w : World} {v : Value} {n : Nat} {xs : List X} (h : OwnL R E s base S w v n xs) : xs.length = n := by
  obtain ⟨_, _, h2, _⟩ := h
  exact h2

/-- A row that was just laid for one element, as a slice of the call's own. -/
theorem OwnL.lit {X : Type} {R : (Nat → Prop) → World → List Value → X → Prop} (hR : Stable R) {E : TypeId} {s base : Nat} {S : Nat → Prop} {W : World} {cs : Array Value} {y : X} (hcs : cs.size = s) (hb : base ≤ W.heap.size) (hy : R S W cs.toList y) :
    OwnL R E s base S (W.alloc (.cells cs E)) (.slice (some ⟨W.heap.size, 0, none⟩) 1 1) 1 [y] := by
  refine ⟨[cs.toList], ?_, rfl, rfl, by simpa using hcs, ?_⟩
  · have := World.ownsRow_lit (base := base) (e := E) (size := s) W cs 1 hb (by unfold maxLen; omega) (by simpa using hcs)
    simpa using this
  · intro i c x hc hx
    match i, hc, hx with
    | 0, hc, hx =>
      simp only [List.getElem?_cons_zero, Option.some.injEq] at hc hx
      subst hc; subst hx
      refine hR _ _ _ _ _ _ hy fun b hS hlt => ⟨⟨hS, ?_⟩, Below.heap_alloc _ _ _ hlt⟩
      intro e
      simp [Value.ownBlock] at e
      omega

/-- Two slices of the call's own, side by side. -/
def Own2 {X : Type} (R : (Nat → Prop) → World → List Value → X → Prop) (E : TypeId) (s base : Nat) (S : Nat → Prop) (w : World) (v1 v2 : Value) (n1 n2 : Nat) (l1 l2 : List X) : Prop :=
  OwnL R E s base (fun b => S b ∧ some b ≠ v2.ownBlock) w v1 n1 l1 ∧ OwnL R E s base (fun b => S b ∧ some b ≠ v1.ownBlock) w v2 n2 l2 ∧ (v1.ownBlock = none ∨ v1.ownBlock ≠ v2.ownBlock)

section
variable {X : Type} {R : (Nat → Prop) → World → List Value → X → Prop} {E : TypeId} {s base : Nat} {S : Nat → Prop} {w w' : World} {v1 v2 v1' : Value} {n1 n2 n1' : Nat} {l1 l2 l1' : List X}
theorem Own2.nil_ : Own2 R E s base S w (.slice none 0 0) (.slice none 0 0) 0 0 [] [] := ⟨OwnL.nil_, OwnL.nil_, .inl rfl⟩
theorem Own2.swap (h : Own2 R E s base S w v1 v2 n1 n2 l1 l2) : Own2 R E s base S w v2 v1 n2 n1 l2 l1 :=
  ⟨h.2.1, h.1, by rcases h.2.2 with e | e
                  · cases hv : v2.ownBlock with
                    | none => exact .inl rfl
                    | some k => rw [e]; exact .inr (by simp)
                  · exact .inr (Ne.symm e)⟩
theorem Own2.keep (hR : Stable R) (h : Own2 R E s base S w v1 v2 n1 n2 l1 l2) (hb : Below w.heap.size w w') : Own2 R E s base S w' v1 v2 n1 n2 l1 l2 :=
  ⟨h.1.keep hR hb, h.2.1.keep hR hb, h.2.2⟩
theorem Own2.pushed (hR : Stable R) (h : Own2 R E s base S w v1 v2 n1 n2 l1 l2) (hg : w.grownBy w' v1.ownBlock) (hat : v1'.ownBlock = v1.ownBlock ∨ ∃ k, w.heap.size ≤ k ∧ v1'.ownBlock = some k)
    (h1 : OwnL R E s base (fun b => S b ∧ some b ≠ v2.ownBlock) w' v1' n1' l1') : Own2 R E s base S w' v1' v2 n1' n2 l1' l2 := by
  have hlt := h.2.1.lt
  refine ⟨h1, h.2.1.other hR hg ?_ (fun b hb => hb.2) (fun b hb hbl => ⟨hb.1, ?_⟩), ?_⟩
  · exact h.swap.2.2
  · rcases hat with e | ⟨k, hk, e⟩
    · rw [e]; exact hb.2
    · rw [e]; intro h; injection h with h; omega
  · rcases hat with e | ⟨k, hk, e⟩
    · rw [e]; exact h.2.2
    · right; rw [e]; intro h
      have := hlt _ h.symm; omega
theorem Own2.rd {A1 A2 : Option Addr} {c1 c2 : Nat} {S' : Nat → Prop} (hR : Stable R) (h : Own2 R E s base S w (.slice A1 n1 c1) (.slice A2 n2 c2) n1 n2 l1 l2) (hB : ∀ b, base ≤ b → S' b) (hS : ∀ b, S b → S' b) : RdL R s S' w A1 n1 l1 ∧ n1 ≤ c1 := by
  obtain ⟨A, c, e, hc, hr⟩ := h.1.rd (S' := S') hB (fun cs x hx => hR _ _ _ _ _ _ hx fun b hb _ => ⟨hS b hb.1.1, rfl⟩)
  injection e with e1 e2 e3
  subst e1; subst e3
  exact ⟨hr, hc⟩
end

/-- A variable that was put aside: block b holds just these cells. -/
def BoxAt (w : World) (b : Nat) (cs : Array Value) : Prop := ∃ t, w.heap[b]? = some (.cells cs t (0, 0))
section
variable {w w' : World} {b : Nat} {cs : Array Value}
theorem BoxAt.cell (h : BoxAt w b cs) (o : Nat) : w.cell? ⟨b, o, none⟩ = cs[o]? := by
  obtain ⟨t, h⟩ := h
  exact cell_of_row w b o cs t (0, 0) h
theorem BoxAt.frozen (h : BoxAt w b cs) (o : Nat) : w.frozen? ⟨b, o, none⟩ = false := by
  obtain ⟨t, h⟩ := h
  simp [World.frozen?, h]
theorem BoxAt.lt (h : BoxAt w b cs) : b < w.heap.size := by
  obtain ⟨t, h⟩ := h
  exact (Array.getElem?_eq_some_iff.1 h).1
theorem BoxAt.keep (h : BoxAt w b cs) (hb : w'.heap[b]? = w.heap[b]?) : BoxAt w' b cs := by
  obtain ⟨t, h⟩ := h
  exact ⟨t, hb.trans h⟩
theorem BoxAt.below (h : BoxAt w b cs) (hb : Below w.heap.size w w') : BoxAt w' b cs := h.keep (hb.block b h.lt)
theorem BoxAt.alloc (h : BoxAt w b cs) (o : Obj) : BoxAt (w.alloc o) b cs := h.keep (Below.heap_alloc _ _ _ h.lt)
theorem BoxAt.grw {row : Option Nat} (h : BoxAt w b cs) (hg : w.grownBy w' row) (hne : some b ≠ row) : BoxAt w' b cs := h.keep (hg.block b h.lt hne)
theorem BoxAt.new (w : World) (cs : Array Value) (t : TypeId) : BoxAt (w.alloc (.cells cs t)) w.heap.size cs := ⟨t, heap_alloc_new w _⟩
end

/-- A row that was just laid for one element, as a reading. -/
theorem RdL.one {X : Type} {R : (Nat → Prop) → World → List Value → X → Prop} (hR : Stable R) {E : TypeId} {s : Nat} {S : Nat → Prop} {W : World} {cs : Array Value} {y : X} (hcs : cs.size = s) (hy : R S W cs.toList y) :
    RdL R s (fun _ => True) (W.alloc (.cells cs E)) (some ⟨W.heap.size, 0, none⟩) 1 [y] := by
  obtain ⟨A, c, e, _, hr⟩ := (OwnL.lit hR (E := E) (s := s) (base := 0) hcs (Nat.zero_le _) hy).rd (S' := fun _ => True) (fun _ _ => trivial) (fun cs x hx => hR _ _ _ _ _ _ hx fun _ _ _ => ⟨trivial, rfl⟩)
  injection e with e1 e2 e3
  subst e1
  exact hr

end Go.Cib

set_option linter.unusedSimpArgs false
set_option linter.unusedVariables false
namespace Go.Cib
open Go.RowKit

/-- What was there outside of F is there. -/
structure Keep (F : Nat → Prop) (a w : World) : Prop where
  os : w.os = a.os
  tape : w.tape = a.tape
  output : w.output = a.output
  size : a.heap.size ≤ w.heap.size
  block : ∀ k, k < a.heap.size → ¬ F k → w.heap[k]? = a.heap[k]?

section
variable {F G : Nat → Prop} {a w w' : World}
theorem Keep.refl (F : Nat → Prop) (w : World) : Keep F w w := ⟨rfl, rfl, rfl, Nat.le_refl _, fun _ _ _ => rfl⟩
theorem Keep.of_below (h : Below a.heap.size a w) : Keep F a w := ⟨h.os, h.tape, h.output, h.size, fun k hk _ => h.block k hk⟩
theorem Keep.mono (h : Keep F a w) (hF : ∀ k, F k → k < a.heap.size → G k) : Keep G a w := ⟨h.os, h.tape, h.output, h.size, fun k hk hg => h.block k hk fun hf => hg (hF k hf hk)⟩
theorem Keep.trans (h : Keep F a w) (h2 : Keep G w w') (hG : ∀ k, G k → k < a.heap.size → F k) : Keep F a w' :=
  ⟨h2.os.trans h.os, h2.tape.trans h.tape, h2.output.trans h.output, Nat.le_trans h.size h2.size, fun k hk hf => (h2.block k (Nat.lt_of_lt_of_le hk h.size) fun hg => hf (hG k hg hk)).trans (h.block k hk hf)⟩
theorem Keep.below {B : Nat} (h : Keep F a w) (hB : B ≤ a.heap.size) (hF : ∀ k, F k → B ≤ k) : Below B a w := ⟨h.os, h.tape, h.output, h.size, fun k hk => h.block k (Nat.lt_of_lt_of_le hk hB) fun hf => absurd (hF k hf) (by omega)⟩
theorem Keep.of_grown {row : Option Nat} (h : a.grownBy w row) : Keep (fun k => some k = row) a w := ⟨h.os, h.tape, h.output, h.size, fun k hk hf => h.block k hk hf⟩
theorem Keep.alloc (h : Keep F a w) (o : Obj) : Keep F a (w.alloc o) := h.trans (G := fun _ => False) ⟨rfl, rfl, rfl, by simp, fun k hk _ => Below.heap_alloc _ _ _ hk⟩ (fun _ h => h.elim)
theorem Keep.setCell (h : Keep F a w) {p : Addr} (hp : p.block < a.heap.size → F p.block) (v : Value) : Keep F a (w.setCell p v) :=
  h.trans (G := fun k => k = p.block) ⟨rfl, rfl, rfl, by simp, fun k _ hk => Below.heap_setCell _ _ _ _ hk⟩ (fun k e hk => e ▸ hp (e ▸ hk))
end

theorem RdL.keep {X : Type} {R : (Nat → Prop) → World → List Value → X → Prop} (hR : Stable R) {s : Nat} {S F : Nat → Prop} {w w' : World} {A : Option Addr} {n : Nat} {xs : List X}
    (h : RdL R s S w A n xs) (hk : Keep F w w') (hd : ∀ b, S b → ¬ F b) : RdL R s S w' A n xs := h.stable hR fun b hS hlt => ⟨hS, hk.block b hlt (hd b hS)⟩
theorem BoxAt.keeps {F : Nat → Prop} {w w' : World} {b : Nat} {cs : Array Value} (h : BoxAt w b cs) (hk : Keep F w w') (hb : ¬ F b) : BoxAt w' b cs := h.keep (hk.block b h.lt hb)
theorem BoxAt.set {w : World} {b : Nat} {cs : Array Value} (h : BoxAt w b cs) (o : Nat) (v : Value) : BoxAt (w.setCell ⟨b, o, none⟩ v) b (cs.setIfInBounds o v) := by
  obtain ⟨t, h⟩ := h
  exact ⟨t, by simp [World.setCell, Array.getElem?_modify, h]⟩
theorem BoxAt.set_other {w : World} {b : Nat} {cs : Array Value} (h : BoxAt w b cs) {p : Addr} (hp : b ≠ p.block) (v : Value) : BoxAt (w.setCell p v) b cs := h.keep (Below.heap_setCell _ _ _ _ hp)

/-- A byte. -/
def U8R (_ : Nat → Prop) (_ : World) (cs : List Value) (x : Int) : Prop := cs = [.int .u8 x]
theorem U8R.stable : Stable U8R := fun _ _ _ _ _ _ h _ => h
theorem U8R.one : ∀ S w cs x, U8R S w cs x → ∀ u ∈ cs, u.oneCell' = true := by
  rintro S w cs x rfl u hu
  simp at hu
  subst hu; rfl
/-- A bool. -/
def BoolR (_ : Nat → Prop) (_ : World) (cs : List Value) (x : Bool) : Prop := cs = [.bool x]
theorem BoolR.stable : Stable BoolR := fun _ _ _ _ _ _ h _ => h
theorem BoolR.one : ∀ S w cs x, BoolR S w cs x → ∀ u ∈ cs, u.oneCell' = true := by
  rintro S w cs x rfl u hu
  simp at hu
  subst hu; rfl

/-- A box of bytes, as a reading. -/
theorem BoxAt.bytes {w : World} {b : Nat} {xs : List Int} (h : BoxAt w b (xs.map (Value.int .u8)).toArray) {S : Nat → Prop} (hS : S b) : RdL U8R 1 S w (some ⟨b, 0, none⟩) xs.length xs :=
  ⟨rfl, fun _ => ⟨b, 0, rfl, hS, h.lt, fun i x hx => ⟨[.int .u8 x], rfl, rfl, fun j v hj => by
    match j, hj with
    | 0, hj =>
      simp only [List.getElem?_cons_zero, Option.some.injEq] at hj
      subst hj
      rw [h.cell]
      simp [hx]⟩⟩⟩
end Go.Cib

set_option linter.unusedSimpArgs false
set_option linter.unusedVariables false
namespace Go.Proofs.YtihnlhfngmbglaaGreat
open Go.RowKit Go.Cib
attribute [local go_sem] cell_set Later.cell Later.frozen Grw.cell Grw.frozen
section

/-- Times x. -/
def xt (a : Nat) : Nat := if 2 * a < 256 then 2 * a else (2 * a) ^^^ 285
def xtn : Nat → Nat → Nat
  | 0, a => a
  | n + 1, a => xt (xtn n a)
def ex (i : Nat) : Nat := xtn i 1
def lgFrom (a : Nat) : Nat → Nat → Nat
  | 0, i => i
  | n + 1, i => if ex i = a then i else lgFrom a n (i + 1)
def lg (a : Nat) : Nat := lgFrom a 255 0
def gm (a b : Nat) : Nat := if a = 0 ∨ b = 0 then 0 else ex (lg a + lg b)
theorem xt_lt {a : Nat} (h : a < 256) : xt a < 256 := by
  have : ∀ a : Fin 256, xt a.1 < 256 := by decide +kernel
  exact this ⟨a, h⟩
theorem xt_xor {a b : Nat} (ha : a < 256) (hb : b < 256) : xt (a ^^^ b) = xt a ^^^ xt b := by
  have : ∀ a b : Fin 256, xt (a.1 ^^^ b.1) = xt a.1 ^^^ xt b.1 := by decide +kernel
  exact this ⟨a, ha⟩ ⟨b, hb⟩
theorem xtn_lt {a : Nat} (h : a < 256) : ∀ n, xtn n a < 256
  | 0 => h
  | n + 1 => xt_lt (xtn_lt h n)
theorem xor_lt {a b : Nat} (ha : a < 256) (hb : b < 256) : a ^^^ b < 256 := Nat.xor_lt_two_pow (n := 8) ha hb
theorem xtn_xor {a b : Nat} (ha : a < 256) (hb : b < 256) : ∀ n, xtn n (a ^^^ b) = xtn n a ^^^ xtn n b
  | 0 => rfl
  | n + 1 => by
    show xt (xtn n (a ^^^ b)) = _
    rw [xtn_xor ha hb n, xt_xor (xtn_lt ha n) (xtn_lt hb n)]; rfl
theorem xtn_add (a m : Nat) : ∀ n, xtn (n + m) a = xtn n (xtn m a)
  | 0 => by rw [Nat.zero_add]; rfl
  | n + 1 => by rw [Nat.succ_add]; show xt (xtn (n + m) a) = _; rw [xtn_add a m n]; rfl
theorem xtn_zero : ∀ n, xtn n 0 = 0
  | 0 => rfl
  | n + 1 => by show xt (xtn n 0) = 0; rw [xtn_zero n]; rfl
theorem ex_255 : ex 255 = 1 := by decide +kernel
theorem ex_lg {a : Nat} (h0 : a ≠ 0) (h : a < 256) : ex (lg a) = a ∧ lg a < 255 := by
  have : ∀ a : Fin 256, a.1 ≠ 0 → ex (lg a.1) = a.1 ∧ lg a.1 < 255 := by decide +kernel
  exact this ⟨a, h⟩ h0
theorem ex_add (i j : Nat) : ex (i + j) = xtn i (ex j) := xtn_add 1 j i
theorem ex_period (i : Nat) : ex (i + 255) = ex i := by rw [ex_add, ex_255]; rfl
theorem ex_lt (i : Nat) : ex i < 256 := xtn_lt (by decide) i
/-- Times a is so many times x. -/
theorem gm_eq {a b : Nat} (ha : a ≠ 0) (hb : b < 256) : gm a b = xtn (lg a) b := by
  unfold gm
  by_cases h : b = 0
  · subst h; rw [if_pos (.inr rfl), xtn_zero]
  · rw [if_neg (by omega), ex_add, (ex_lg h hb).1]
theorem gm_zero (a : Nat) : gm a 0 = 0 := by unfold gm; rw [if_pos (.inr rfl)]
theorem gm_comm (a b : Nat) : gm a b = gm b a := by
  unfold gm
  rw [Nat.add_comm]
  by_cases h : a = 0 ∨ b = 0
  · rw [if_pos h, if_pos h.symm]
  · rw [if_neg h, if_neg (fun h2 => h h2.symm)]
theorem gm_lt {a b : Nat} : gm a b < 256 := by
  unfold gm
  split
  · omega
  · exact ex_lt _
theorem gm_xor {a b c : Nat} (hb : b < 256) (hc : c < 256) : gm a (b ^^^ c) = gm a b ^^^ gm a c := by
  by_cases h : a = 0
  · subst h; unfold gm; simp
  · rw [gm_eq h (xor_lt hb hc), gm_eq h hb, gm_eq h hc, xtn_xor hb hc]
end
section

theorem ex_mod (i : Nat) : ex i = ex (i % 255) := by
  have h : ∀ q r, ex (r + 255 * q) = ex r := by
    intro q
    induction q with
    | zero => intro r; rfl
    | succ q ih => intro r; rw [show r + 255 * (q + 1) = (r + 255 * q) + 255 by omega, ex_period, ih]
  have := h (i / 255) (i % 255)
  rw [show i % 255 + 255 * (i / 255) = i from Nat.mod_add_div i 255] at this
  exact this
theorem lg_ex_lt {i : Nat} (h : i < 255) : lg (ex i) = i := by
  have : ∀ i : Fin 255, lg (ex i.1) = i.1 := by decide +kernel
  exact this ⟨i, h⟩
theorem lg_ex (i : Nat) : lg (ex i) = i % 255 := by rw [ex_mod, lg_ex_lt (Nat.mod_lt _ (by decide))]
theorem ex_ne (i : Nat) : ex i ≠ 0 := by
  rw [ex_mod]
  have : ∀ i : Fin 255, ex i.1 ≠ 0 := by decide +kernel
  exact this ⟨i % 255, Nat.mod_lt _ (by decide)⟩
theorem ex_congr {i j : Nat} (h : i % 255 = j % 255) : ex i = ex j := by rw [ex_mod i, h, ← ex_mod]
theorem gm_ne {a b : Nat} (ha : a ≠ 0) (hb : b ≠ 0) : gm a b ≠ 0 := by
  unfold gm
  rw [if_neg (by omega)]
  exact ex_ne _
theorem gm_assoc (a b c : Nat) : gm (gm a b) c = gm a (gm b c) := by
  by_cases ha : a = 0
  · subst ha; simp [gm]
  by_cases hb : b = 0
  · subst hb; simp [gm]
  by_cases hc : c = 0
  · subst hc; simp [gm]
  have h1 : gm a b = ex (lg a + lg b) := by unfold gm; rw [if_neg (by omega)]
  have h2 : gm b c = ex (lg b + lg c) := by unfold gm; rw [if_neg (by omega)]
  rw [h1, h2]
  have n1 := ex_ne (lg a + lg b)
  have n2 := ex_ne (lg b + lg c)
  unfold gm
  rw [if_neg (by omega), if_neg (by omega), lg_ex, lg_ex]
  exact ex_congr (by omega)
theorem lg_one : lg 1 = 0 := by decide +kernel
theorem gm_one {b : Nat} (hb : b < 256) : gm 1 b = b := by rw [gm_eq (by decide) hb, lg_one]; rfl
/-- One by a number. -/
def inv (a : Nat) : Nat := ex (255 - lg a)
theorem gm_inv {a : Nat} (h0 : a ≠ 0) (h : a < 256) : gm a (inv a) = 1 := by
  have h1 := (ex_lg h0 h).2
  have n1 := ex_ne (255 - lg a)
  unfold gm inv
  rw [if_neg (by omega), lg_ex]
  rw [show ex (lg a + (255 - lg a) % 255) = ex 255 from ex_congr (by omega), ex_255]
theorem inv_lt (a : Nat) : inv a < 256 := ex_lt _
theorem gm_cancel {a b c : Nat} (h0 : a ≠ 0) (h : a < 256) (hb : b < 256) (hc : c < 256) (e : gm a b = gm a c) : b = c := by
  have h1 : gm (inv a) (gm a b) = gm (inv a) (gm a c) := by rw [e]
  rw [← gm_assoc, ← gm_assoc, gm_comm (inv a) a, gm_inv h0 h, gm_one hb, gm_one hc] at h1
  exact h1
end
section

instance : Std.Associative gm := ⟨gm_assoc⟩
instance : Std.Commutative gm := ⟨gm_comm⟩
theorem gm_xor2 {a b c : Nat} (ha : a < 256) (hb : b < 256) : gm (a ^^^ b) c = gm a c ^^^ gm b c := by
  rw [gm_comm, gm_xor ha hb, gm_comm c a, gm_comm c b]
theorem zero_gm (a : Nat) : gm 0 a = 0 := by rw [gm_comm, gm_zero]
theorem gm_one2 {b : Nat} (hb : b < 256) : gm b 1 = b := by rw [gm_comm, gm_one hb]
theorem inv_ne {a : Nat} (h0 : a ≠ 0) (h : a < 256) : inv a ≠ 0 := fun e => by
  have := gm_inv h0 h
  rw [e, gm_zero] at this; cases this
theorem gm_eq_zero {a b : Nat} (h : gm a b = 0) (ha : a ≠ 0) : b = 0 := by
  rcases Nat.eq_zero_or_pos b with hb | hb
  · exact hb
  · exact absurd h (gm_ne ha (by omega))
theorem xor_zero_eq {a b : Nat} (h : a ^^^ b = 0) : a = b := by
  have h2 : (a ^^^ b) ^^^ b = 0 ^^^ b := by rw [h]
  rw [Nat.xor_assoc, Nat.xor_self, Nat.xor_zero, Nat.zero_xor] at h2
  exact h2
theorem xor_ne {a b : Nat} (h : a ≠ b) : a ^^^ b ≠ 0 := fun e => h (xor_zero_eq e)

/-- The sum of the first n. -/
def sumx (f : Nat → Nat) : Nat → Nat
  | 0 => 0
  | n + 1 => sumx f n ^^^ f n
theorem sumx_lt {f : Nat → Nat} (h : ∀ i, f i < 256) : ∀ n, sumx f n < 256
  | 0 => Nat.succ_pos _
  | n + 1 => xor_lt (sumx_lt h n) (h n)
theorem sumx_cong {f g : Nat → Nat} : ∀ {n : Nat}, (∀ i, i < n → f i = g i) → sumx f n = sumx g n
  | 0, _ => rfl
  | n + 1, h => by
    show sumx f n ^^^ f n = sumx g n ^^^ g n
    rw [sumx_cong fun i hi => h i (by omega), h n (by omega)]
theorem sumx_xor (f g : Nat → Nat) : ∀ n, sumx (fun i => f i ^^^ g i) n = sumx f n ^^^ sumx g n
  | 0 => (Nat.xor_self 0).symm
  | n + 1 => by
    show sumx (fun i => f i ^^^ g i) n ^^^ (f n ^^^ g n) = (sumx f n ^^^ f n) ^^^ (sumx g n ^^^ g n)
    rw [sumx_xor f g n]
    ac_rfl
theorem sumx_mul {f : Nat → Nat} (h : ∀ i, f i < 256) (c : Nat) : ∀ n, gm c (sumx f n) = sumx (fun i => gm c (f i)) n
  | 0 => gm_zero c
  | n + 1 => by
    show gm c (sumx f n ^^^ f n) = sumx (fun i => gm c (f i)) n ^^^ gm c (f n)
    rw [gm_xor (sumx_lt h n) (h n), sumx_mul h c n]
theorem sumx_zero {f : Nat → Nat} : ∀ {n : Nat}, (∀ i, i < n → f i = 0) → sumx f n = 0
  | 0, _ => rfl
  | n + 1, h => by
    show sumx f n ^^^ f n = 0
    rw [sumx_zero fun i hi => h i (by omega), h n (by omega)]; rfl
theorem sumx_one {f : Nat → Nat} {j : Nat} : ∀ {n : Nat}, j < n → (∀ i, i < n → i ≠ j → f i = 0) → sumx f n = f j
  | 0, h, _ => absurd h (Nat.not_lt_zero _)
  | n + 1, h, h2 => by
    show sumx f n ^^^ f n = f j
    by_cases e : j = n
    · subst e
      rw [sumx_zero fun i hi => h2 i (by omega) (by omega), Nat.zero_xor]
    · rw [sumx_one (by omega) fun i hi hne => h2 i (by omega) hne, h2 n (by omega) (fun h => e h.symm), Nat.xor_zero]
theorem sumx_add (f : Nat → Nat) (n : Nat) : ∀ m, sumx f (n + m) = sumx f n ^^^ sumx (fun i => f (n + i)) m
  | 0 => by show sumx f n = sumx f n ^^^ 0; rw [Nat.xor_zero]
  | m + 1 => by
    show sumx f (n + m) ^^^ f (n + m) = sumx f n ^^^ (sumx (fun i => f (n + i)) m ^^^ f (n + m))
    rw [sumx_add f n m, Nat.xor_assoc]
/-! ### Rows -/

/-- All are bytes. -/
def Byt (l : List Nat) : Prop := ∀ x ∈ l, x < 256
def gt (l : List Nat) (i : Nat) : Nat := l.getD i 0
theorem gt_lt {l : List Nat} (h : Byt l) (i : Nat) : gt l i < 256 := by
  unfold gt
  rw [List.getD_eq_getElem?_getD]
  cases e : l[i]? with
  | none => exact Nat.succ_pos _
  | some x => exact h x (List.mem_of_getElem? e)
theorem gt_of_lt {l : List Nat} {i : Nat} (h : i < l.length) : l[i]? = some (gt l i) := by
  unfold gt
  rw [List.getD_eq_getElem?_getD, List.getElem?_eq_getElem h]; rfl
theorem gt_ge {l : List Nat} {i : Nat} (h : l.length ≤ i) : gt l i = 0 := by
  unfold gt
  rw [List.getD_eq_getElem?_getD, List.getElem?_eq_none h]; rfl
theorem gt_ext {a b : List Nat} (h : a.length = b.length) (h2 : ∀ i, i < a.length → gt a i = gt b i) : a = b := by
  refine List.ext_getElem? fun i => ?_
  by_cases hi : i < a.length
  · rw [gt_of_lt hi, gt_of_lt (h ▸ hi), h2 i hi]
  · rw [List.getElem?_eq_none (by omega), List.getElem?_eq_none (by omega)]
theorem gt_append (a b : List Nat) (i : Nat) : gt (a ++ b) i = if i < a.length then gt a i else gt b (i - a.length) := by
  unfold gt
  split
  · rename_i h
    rw [List.getD_eq_getElem?_getD, List.getD_eq_getElem?_getD, List.getElem?_append_left h]
  · rename_i h
    rw [List.getD_eq_getElem?_getD, List.getD_eq_getElem?_getD, List.getElem?_append_right (by omega)]

/-- A row times c. -/
def sc (c : Nat) (row : List Nat) : List Nat := row.map (gm c)
/-- Into, with c times row added. -/
def fd (c : Nat) : List Nat → List Nat → List Nat
  | [], into => into
  | _ :: _, [] => []
  | r :: row, x :: into => (x ^^^ gm c r) :: fd c row into
theorem sc_len (c : Nat) (row : List Nat) : (sc c row).length = row.length := List.length_map ..
theorem sc_byt (c : Nat) (row : List Nat) : Byt (sc c row) := fun x h => by
  obtain ⟨y, _, rfl⟩ := List.mem_map.1 h
  exact gm_lt
theorem sc_gt (c : Nat) (row : List Nat) (i : Nat) : gt (sc c row) i = gm c (gt row i) := by
  unfold gt sc
  rw [List.getD_eq_getElem?_getD, List.getD_eq_getElem?_getD, List.getElem?_map]
  cases row[i]? with
  | none => exact (gm_zero c).symm
  | some x => rfl
theorem fd_len (c : Nat) : ∀ row into : List Nat, (fd c row into).length = into.length
  | [], _ => rfl
  | _ :: _, [] => rfl
  | _ :: row, _ :: into => by show (fd c row into).length + 1 = _; rw [fd_len c row into]; rfl
theorem fd_byt (c : Nat) : ∀ row into : List Nat, Byt into → Byt (fd c row into)
  | [], _, h => h
  | _ :: _, [], h => h
  | r :: row, x :: into, h => fun y hy => by
    rcases List.mem_cons.1 hy with rfl | hy
    · exact xor_lt (h x (List.mem_cons_self ..)) gm_lt
    · exact fd_byt c row into (fun z hz => h z (List.mem_cons_of_mem _ hz)) y hy
theorem fd_gt (c : Nat) : ∀ (row into : List Nat) (i : Nat), row.length ≤ into.length → gt (fd c row into) i = gt into i ^^^ gm c (gt row i)
  | [], into, i, _ => by
    show gt into i = gt into i ^^^ gm c 0
    rw [gm_zero, Nat.xor_zero]
  | _ :: _, [], _, h => absurd h (by simp)
  | r :: row, x :: into, 0, _ => rfl
  | r :: row, x :: into, i + 1, h => fd_gt c row into i (by simpa using h)
theorem fd_zero {row into : List Nat} (h : row.length ≤ into.length) : fd 0 row into = into :=
  gt_ext (fd_len ..) fun i _ => by rw [fd_gt 0 row into i h, zero_gm, Nat.xor_zero]

/-- The sum of the products with y of the first n. -/
def dt (n : Nat) (r : List Nat) (y : Nat → Nat) : Nat := sumx (fun l => gm (gt r l) (y l)) n
theorem dt_sc (n c : Nat) (r : List Nat) (y : Nat → Nat) : dt n (sc c r) y = gm c (dt n r y) := by
  unfold dt
  rw [sumx_mul fun _ => gm_lt]
  exact sumx_cong fun i _ => by rw [sc_gt, gm_assoc]
theorem dt_fd {n c : Nat} {r s : List Nat} (y : Nat → Nat) (h : r.length ≤ s.length) (hs : Byt s) : dt n (fd c r s) y = dt n s y ^^^ gm c (dt n r y) := by
  unfold dt
  rw [sumx_mul fun _ => gm_lt, ← sumx_xor]
  exact sumx_cong fun i _ => by rw [fd_gt c r s i h, gm_xor2 (gt_lt hs i) gm_lt, gm_assoc]
theorem dt_lt {n : Nat} {r : List Nat} {y : Nat → Nat} : dt n r y < 256 := sumx_lt (fun _ => gm_lt) n

/-! ### The short law of the sums of fractions -/

def fr (a : Nat) : List (Nat × Nat) → Nat
  | [] => 0
  | (b, x) :: l => gm x (inv (a ^^^ b)) ^^^ fr a l
theorem fr_lt (a : Nat) : ∀ l, fr a l < 256
  | [] => Nat.succ_pos _
  | (_, _) :: l => xor_lt gm_lt (fr_lt a l)
theorem inv_gm {u w : Nat} (h0 : u ≠ 0) (h : u < 256) (hw : w < 256) : gm u (gm w (inv u)) = w := by
  rw [show gm u (gm w (inv u)) = gm w (gm u (inv u)) by ac_rfl, gm_inv h0 h, gm_one2 hw]
/-- (a+b) x/(a+b') + (a0+b) x/(a0+b') = (a+a0) (x (b+b')/(a0+b')) / (a+b'). -/
theorem frac {u v w x : Nat} (hu : u < 256) (hv : v < 256) (hw : w < 256) (hx : x < 256) (u0 : u ≠ 0) (v0 : v ≠ 0) :
    gm (u ^^^ w) (gm x (inv u)) ^^^ gm (v ^^^ w) (gm x (inv v)) = gm (u ^^^ v) (gm (gm x (gm w (inv v))) (inv u)) := by
  rw [gm_xor2 hu hw, gm_xor2 hv hw, gm_xor2 hu hv, inv_gm u0 hu hx, inv_gm v0 hv hx]
  have e1 : gm u (gm (gm x (gm w (inv v))) (inv u)) = gm x (gm w (inv v)) := inv_gm u0 hu gm_lt
  have e2 : gm v (gm (gm x (gm w (inv v))) (inv u)) = gm x (gm w (inv u)) := by
    rw [show gm v (gm (gm x (gm w (inv v))) (inv u)) = gm v (gm (gm x (gm w (inv u))) (inv v)) by ac_rfl]
    exact inv_gm v0 hv gm_lt
  rw [e1, e2]
  rw [show gm w (gm x (inv u)) = gm x (gm w (inv u)) by ac_rfl, show gm w (gm x (inv v)) = gm x (gm w (inv v)) by ac_rfl]
  have h : ∀ p q r : Nat, (p ^^^ q) ^^^ (p ^^^ r) = r ^^^ q := fun p q r => by
    rw [show (p ^^^ q) ^^^ (p ^^^ r) = (p ^^^ p) ^^^ (r ^^^ q) by ac_rfl, Nat.xor_self, Nat.zero_xor]
  exact h _ _ _
def nx (a0 b : Nat) (l : List (Nat × Nat)) : List (Nat × Nat) := l.map fun p => (p.1, gm p.2 (gm (b ^^^ p.1) (inv (a0 ^^^ p.1))))
theorem fr_next {a a0 b : Nat} (ha : a < 256) (ha0 : a0 < 256) (hb : b < 256) : ∀ l : List (Nat × Nat), (∀ p ∈ l, p.1 < 256 ∧ p.2 < 256 ∧ a ≠ p.1 ∧ a0 ≠ p.1) →
    gm (a ^^^ b) (fr a l) ^^^ gm (a0 ^^^ b) (fr a0 l) = gm (a ^^^ a0) (fr a (nx a0 b l))
  | [], _ => by
    show gm _ 0 ^^^ gm _ 0 = gm _ 0
    rw [gm_zero, gm_zero, gm_zero]; rfl
  | (b', x) :: l, h => by
    obtain ⟨hb', hx, h1, h2⟩ := h (b', x) (List.mem_cons_self ..)
    have ih := fr_next ha ha0 hb l fun p hp => h p (List.mem_cons_of_mem _ hp)
    show gm (a ^^^ b) (gm x (inv (a ^^^ b')) ^^^ fr a l) ^^^ gm (a0 ^^^ b) (gm x (inv (a0 ^^^ b')) ^^^ fr a0 l) = gm (a ^^^ a0) (gm (gm x (gm (b ^^^ b') (inv (a0 ^^^ b')))) (inv (a ^^^ b')) ^^^ fr a (nx a0 b l))
    rw [gm_xor gm_lt (fr_lt a l), gm_xor gm_lt (fr_lt a0 l), gm_xor gm_lt (fr_lt a _), ← ih]
    have e := frac (u := a ^^^ b') (v := a0 ^^^ b') (w := b ^^^ b') (x := x) (xor_lt ha hb') (xor_lt ha0 hb') (xor_lt hb hb') hx (xor_ne h1) (xor_ne h2)
    have ex : ∀ p : Nat, (p ^^^ b') ^^^ (b ^^^ b') = p ^^^ b := fun p => by
      rw [show (p ^^^ b') ^^^ (b ^^^ b') = (p ^^^ b) ^^^ (b' ^^^ b') by ac_rfl, Nat.xor_self, Nat.xor_zero]
    have ex2 : (a ^^^ b') ^^^ (a0 ^^^ b') = a ^^^ a0 := by
      rw [show (a ^^^ b') ^^^ (a0 ^^^ b') = (a ^^^ a0) ^^^ (b' ^^^ b') by ac_rfl, Nat.xor_self, Nat.xor_zero]
    rw [ex, ex, ex2] at e
    rw [← e]
    ac_rfl
theorem nx_fst (a0 b : Nat) (l : List (Nat × Nat)) : (nx a0 b l).map Prod.fst = l.map Prod.fst := by
  unfold nx
  rw [List.map_map]; rfl
theorem cauchy : ∀ (L : List (Nat × Nat)) (A : List Nat), L.length ≤ A.length → A.Nodup → (L.map Prod.fst).Nodup → (∀ a ∈ A, a < 256) → (∀ p ∈ L, p.1 < 256 ∧ p.2 < 256) → (∀ a ∈ A, ∀ p ∈ L, a ≠ p.1) → (∀ a ∈ A, fr a L = 0) → ∀ p ∈ L, p.2 = 0
  | [], _, _, _, _, _, _, _, _ => fun _ h => by cases h
  | (b, x) :: L, [], h, _, _, _, _, _, _ => absurd h (by simp)
  | (b, x) :: L, a0 :: A, hlen, hA, hL, ba, bl, hne, hz => by
    have ha0 := ba a0 (List.mem_cons_self ..)
    have hbx := bl (b, x) (List.mem_cons_self ..)
    rw [List.nodup_cons] at hA
    rw [List.map_cons, List.nodup_cons] at hL
    have hne0 : a0 ≠ b := hne a0 (List.mem_cons_self ..) (b, x) (List.mem_cons_self ..)
    have hnext : ∀ a ∈ A, fr a (nx a0 b L) = 0 := fun a ha => by
      have ha1 := ba a (List.mem_cons_of_mem _ ha)
      have haa : a ≠ a0 := fun e => hA.1 (e ▸ ha)
      have hab : a ≠ b := hne a (List.mem_cons_of_mem _ ha) (b, x) (List.mem_cons_self ..)
      have e := fr_next ha1 ha0 hbx.1 L fun p hp => ⟨(bl p (List.mem_cons_of_mem _ hp)).1, (bl p (List.mem_cons_of_mem _ hp)).2, hne a (List.mem_cons_of_mem _ ha) p (List.mem_cons_of_mem _ hp), hne a0 (List.mem_cons_self ..) p (List.mem_cons_of_mem _ hp)⟩
      have z1 : gm x (inv (a ^^^ b)) ^^^ fr a L = 0 := hz a (List.mem_cons_of_mem _ ha)
      have z2 : gm x (inv (a0 ^^^ b)) ^^^ fr a0 L = 0 := hz a0 (List.mem_cons_self ..)
      rw [← xor_zero_eq z1, ← xor_zero_eq z2, inv_gm (xor_ne hab) (xor_lt ha1 hbx.1) hbx.2, inv_gm (xor_ne hne0) (xor_lt ha0 hbx.1) hbx.2, Nat.xor_self] at e
      exact gm_eq_zero e.symm (xor_ne haa)
    have hrest : ∀ p ∈ L, p.2 = 0 := fun p hp => by
      have ih := cauchy (nx a0 b L) A (by unfold nx; rw [List.length_map]; simpa using hlen) hA.2 (by rw [nx_fst]; exact hL.2) (fun a ha => ba a (List.mem_cons_of_mem _ ha))
        (fun q hq => by
          obtain ⟨p, hp, rfl⟩ := List.mem_map.1 hq
          exact ⟨(bl p (List.mem_cons_of_mem _ hp)).1, gm_lt⟩)
        (fun a ha q hq => by
          obtain ⟨p, hp, rfl⟩ := List.mem_map.1 hq
          exact hne a (List.mem_cons_of_mem _ ha) p (List.mem_cons_of_mem _ hp)) hnext (p.1, gm p.2 (gm (b ^^^ p.1) (inv (a0 ^^^ p.1)))) (List.mem_map.2 ⟨p, hp, rfl⟩)
      have hp1 := bl p (List.mem_cons_of_mem _ hp)
      have hbp : b ≠ p.1 := fun e => hL.1 (e ▸ List.mem_map.2 ⟨p, hp, rfl⟩)
      have hap : a0 ≠ p.1 := hne a0 (List.mem_cons_self ..) p (List.mem_cons_of_mem _ hp)
      have hne2 : gm (b ^^^ p.1) (inv (a0 ^^^ p.1)) ≠ 0 := gm_ne (xor_ne hbp) (inv_ne (xor_ne hap) (xor_lt ha0 hp1.1))
      rw [gm_comm] at ih
      exact gm_eq_zero ih hne2
    have hfr : ∀ (M : List (Nat × Nat)), (∀ p ∈ M, p.2 = 0) → fr a0 M = 0 := by
      intro M
      induction M with
      | nil => exact fun _ => rfl
      | cons q M ih =>
        obtain ⟨q1, q2⟩ := q
        intro hM
        show gm q2 _ ^^^ fr a0 M = 0
        rw [ih fun p hp => hM p (List.mem_cons_of_mem _ hp), show q2 = 0 from hM (q1, q2) (List.mem_cons_self ..), zero_gm]; rfl
    intro p hp
    rcases List.mem_cons.1 hp with rfl | hp
    · have z2 : gm x (inv (a0 ^^^ b)) ^^^ fr a0 L = 0 := hz a0 (List.mem_cons_self ..)
      rw [hfr L hrest, Nat.xor_zero, gm_comm] at z2
      exact gm_eq_zero z2 (inv_ne (xor_ne hne0) (xor_lt ha0 hbx.1))
    · exact hrest p hp
end
section

abbrev Rws := List (List Nat)
def ra (a : Rws) (i : Nat) : List Nat := a.getD i []
theorem ra_of_lt {a : Rws} {i : Nat} (h : i < a.length) : a[i]? = some (ra a i) := by
  unfold ra
  rw [List.getD_eq_getElem?_getD, List.getElem?_eq_getElem h]; rfl
theorem ra_some {a : Rws} {i : Nat} {r : List Nat} (h : a[i]? = some r) : ra a i = r := by
  unfold ra
  rw [List.getD_eq_getElem?_getD, h]; rfl
theorem ra_mem {a : Rws} {i : Nat} (h : i < a.length) : ra a i ∈ a := List.mem_of_getElem? (ra_of_lt h)
theorem ra_ext {a b : Rws} (h : a.length = b.length) (h2 : ∀ i, i < a.length → ra a i = ra b i) : a = b := by
  refine List.ext_getElem? fun i => ?_
  by_cases hi : i < a.length
  · rw [ra_of_lt hi, ra_of_lt (h ▸ hi), h2 i hi]
  · rw [List.getElem?_eq_none (by omega), List.getElem?_eq_none (by omega)]
theorem ra_mapIdx (f : Nat → List Nat → List Nat) {a : Rws} {i : Nat} (h : i < a.length) : ra (a.mapIdx f) i = f i (ra a i) := by
  refine ra_some ?_
  rw [List.getElem?_mapIdx, ra_of_lt h]; rfl

/-- n rows of m bytes. -/
def Shp (n m : Nat) (a : Rws) : Prop := a.length = n ∧ ∀ r ∈ a, r.length = m ∧ Byt r
theorem Shp.row {n m : Nat} {a : Rws} (h : Shp n m a) {i : Nat} (hi : i < n) : (ra a i).length = m ∧ Byt (ra a i) := h.2 _ (ra_mem (by rw [h.1]; exact hi))
theorem Shp.of {n m : Nat} {a : Rws} (h : a.length = n) (h2 : ∀ i, i < n → (ra a i).length = m ∧ Byt (ra a i)) : Shp n m a := ⟨h, fun r hr => by
  obtain ⟨i, hi, rfl⟩ := List.mem_iff_getElem.1 hr
  have := h2 i (h ▸ hi)
  rwa [ra_some (List.getElem?_eq_getElem hi)] at this⟩

def Ann (n m : Nat) (a : Rws) (y : Nat → Nat) : Prop := ∀ i, i < n → dt m (ra a i) y = 0

/-! ### The steps -/

def swF (a : Rws) (i j : Nat) : Rws := (a.set i (ra a j)).set j (ra a i)
theorem swF_len (a : Rws) (i j : Nat) : (swF a i j).length = a.length := by unfold swF; rw [List.length_set, List.length_set]
theorem ra_set (a : Rws) (i : Nat) (r : List Nat) {k : Nat} (hk : k < a.length) : ra (a.set i r) k = if k = i then r else ra a k := by
  refine ra_some ?_
  rw [List.getElem?_set]
  split
  · rename_i h
    subst h
    rw [if_pos rfl, if_pos hk]
  · rename_i h
    rw [if_neg (fun e => h e.symm), ra_of_lt hk]
theorem swF_ra (a : Rws) (i j : Nat) {k : Nat} (hk : k < a.length) : ra (swF a i j) k = if k = j then ra a i else if k = i then ra a j else ra a k := by
  unfold swF
  rw [ra_set _ _ _ (by rw [List.length_set]; exact hk), ra_set _ _ _ hk]
def scF (j c : Nat) (a : Rws) : Rws := a.mapIdx fun i r => if i = j then sc c r else r
def elF (P : Nat → Bool) (j col : Nat) (a : Rws) : Rws := a.mapIdx fun i r => if P i = true then fd (gt r col) (ra a j) r else r
theorem scF_len (j c : Nat) (a : Rws) : (scF j c a).length = a.length := List.length_mapIdx ..
theorem elF_len (P : Nat → Bool) (j col : Nat) (a : Rws) : (elF P j col a).length = a.length := List.length_mapIdx ..
theorem scF_ra (j c : Nat) {a : Rws} {i : Nat} (h : i < a.length) : ra (scF j c a) i = if i = j then sc c (ra a i) else ra a i := ra_mapIdx _ h
theorem elF_ra (P : Nat → Bool) (j col : Nat) {a : Rws} {i : Nat} (h : i < a.length) : ra (elF P j col a) i = if P i = true then fd (gt (ra a i) col) (ra a j) (ra a i) else ra a i := ra_mapIdx _ h
section
variable {n m : Nat} {a : Rws}
theorem swF_shp {i j : Nat} (h : Shp n m a) (hi : i < n) (hj : j < n) : Shp n m (swF a i j) := .of (by rw [swF_len, h.1]) fun k hk => by
  rw [swF_ra _ _ _ (by rw [h.1]; exact hk)]
  split
  · exact h.row hi
  · split
    · exact h.row hj
    · exact h.row hk
theorem scF_shp {j c : Nat} (h : Shp n m a) : Shp n m (scF j c a) := .of (by rw [scF_len, h.1]) fun k hk => by
  rw [scF_ra _ _ (by rw [h.1]; exact hk)]
  split
  · exact ⟨by rw [sc_len]; exact (h.row hk).1, sc_byt _ _⟩
  · exact h.row hk
theorem elF_shp {P : Nat → Bool} {j col : Nat} (h : Shp n m a) : Shp n m (elF P j col a) := .of (by rw [elF_len, h.1]) fun k hk => by
  rw [elF_ra _ _ _ (by rw [h.1]; exact hk)]
  split
  · exact ⟨by rw [fd_len]; exact (h.row hk).1, fd_byt _ _ _ (h.row hk).2⟩
  · exact h.row hk
theorem swF_ann {i j : Nat} (h : a.length = n) (hi : i < n) (hj : j < n) (y : Nat → Nat) : Ann n m (swF a i j) y ↔ Ann n m a y := by
  have e : ∀ k, k < n → ra (swF a i j) k = if k = j then ra a i else if k = i then ra a j else ra a k := fun k hk => swF_ra a i j (by rw [h]; exact hk)
  constructor
  · intro H k hk
    by_cases h1 : k = i
    · subst h1
      have := H j hj
      rwa [e j hj, if_pos rfl] at this
    · by_cases h2 : k = j
      · subst h2
        have := H i hi
        rw [e i hi] at this
        by_cases h3 : i = k
        · exact absurd h3.symm h1
        · rwa [if_neg h3, if_pos rfl] at this
      · have := H k hk
        rwa [e k hk, if_neg h2, if_neg h1] at this
  · intro H k hk
    rw [e k hk]
    split
    · exact H i hi
    · split
      · exact H j hj
      · exact H k hk
theorem scF_ann {j c : Nat} (h : a.length = n) (hc : c ≠ 0) (y : Nat → Nat) : Ann n m (scF j c a) y ↔ Ann n m a y := by
  have e : ∀ k, k < n → ra (scF j c a) k = if k = j then sc c (ra a k) else ra a k := fun k hk => scF_ra j c (by rw [h]; exact hk)
  constructor
  · intro H k hk
    have := H k hk
    rw [e k hk] at this
    split at this
    · rw [dt_sc] at this
      exact gm_eq_zero this hc
    · exact this
  · intro H k hk
    rw [e k hk]
    split
    · rw [dt_sc, H k hk, gm_zero]
    · exact H k hk
theorem elF_ann {P : Nat → Bool} {j col : Nat} (h : Shp n m a) (hj : j < n) (hP : P j = false) (y : Nat → Nat) : Ann n m (elF P j col a) y ↔ Ann n m a y := by
  have e : ∀ k, k < n → ra (elF P j col a) k = if P k = true then fd (gt (ra a k) col) (ra a j) (ra a k) else ra a k := fun k hk => elF_ra P j col (by rw [h.1]; exact hk)
  have d : ∀ k, k < n → dt m (fd (gt (ra a k) col) (ra a j) (ra a k)) y = dt m (ra a k) y ^^^ gm (gt (ra a k) col) (dt m (ra a j) y) := fun k hk => dt_fd y (by rw [(h.row hk).1, (h.row hj).1]; exact Nat.le_refl _) (h.row hk).2
  constructor
  · intro H
    have h0 : dt m (ra a j) y = 0 := by
      have := H j hj
      rwa [e j hj, hP, if_neg (by decide)] at this
    intro k hk
    have := H k hk
    rw [e k hk] at this
    split at this
    · rwa [d k hk, h0, gm_zero, Nat.xor_zero] at this
    · exact this
  · intro H k hk
    rw [e k hk]
    split
    · rw [d k hk, H j hj, gm_zero, Nat.xor_zero, H k hk]
    · exact H k hk
end

/-! ### Where no row has a pivot -/

/-- Only nought is annihilated. -/
def Inj (n : Nat) (a : Rws) : Prop := ∀ x : Nat → Nat, (∀ l, x l < 256) → (∀ l, n ≤ l → x l = 0) → (∀ i, i < n → dt n (ra a i) x = 0) → ∀ l, x l = 0
theorem dt_xor {n : Nat} {r : List Nat} {x z : Nat → Nat} (hx : ∀ l, x l < 256) (hz : ∀ l, z l < 256) : dt n r (fun l => x l ^^^ z l) = dt n r x ^^^ dt n r z := by
  unfold dt
  rw [← sumx_xor]
  exact sumx_cong fun i _ => gm_xor (hx i) (hz i)
theorem dt_unit {n t v : Nat} (r : List Nat) (ht : t < n) : dt n r (fun l => if l = t then v else 0) = gm (gt r t) v := by
  unfold dt
  rw [sumx_one ht fun i _ hne => by show gm _ (if i = t then v else 0) = 0; rw [if_neg hne, gm_zero]]
  show gm _ (if t = t then v else 0) = _
  rw [if_pos rfl]
theorem dt_low {n m : Nat} (hnm : n ≤ m) {r : List Nat} {x : Nat → Nat} (hx : ∀ l, n ≤ l → x l = 0) : dt m r x = dt n r x := by
  obtain ⟨d, rfl⟩ : ∃ d, m = n + d := ⟨m - n, by omega⟩
  unfold dt
  rw [sumx_add]
  rw [sumx_zero (n := d) fun i _ => by rw [hx (n + i) (by omega), gm_zero], Nat.xor_zero]
structure Tri (n j : Nat) (a : Rws) : Prop where
  one : ∀ i, i < j → gt (ra a i) i = 1
  low : ∀ i l, l < i → i < j → gt (ra a i) l = 0
  rest : ∀ i l, j ≤ i → i < n → l < j → gt (ra a i) l = 0
theorem kern {n m j : Nat} {a : Rws} (hj : j < n) (T : Tri n j a) (h0 : ∀ i, j ≤ i → i < n → gt (ra a i) j = 0) : ∃ x : Nat → Nat, (∀ l, x l < 256) ∧ (∀ l, n ≤ l → x l = 0) ∧ x j = 1 ∧ ∀ i, i < n → dt n (ra a i) x = 0 := by
  have hp : ∀ d t, t + d = j → ∃ x : Nat → Nat, (∀ l, x l < 256) ∧ (∀ l, l < t ∨ j < l → x l = 0) ∧ x j = 1 ∧ ∀ i, t ≤ i → i < j → dt n (ra a i) x = 0 := by
    intro d
    induction d with
    | zero =>
      intro t ht
      refine ⟨fun l => if l = j then 1 else 0, fun l => ?_, fun l hl => if_neg (by omega), if_pos rfl, fun i h1 h2 => absurd h2 (by omega)⟩
      show (if l = j then 1 else 0) < 256
      split <;> decide
    | succ d ih =>
      intro t ht
      obtain ⟨x, b, z, o, k⟩ := ih (t + 1) (by omega)
      have hxt : x t = 0 := z t (.inl (by omega))
      have hv : ∀ l, (fun l => if l = t then dt n (ra a t) x else 0) l < 256 := fun l => by
        show (if l = t then dt n (ra a t) x else 0) < 256
        split
        · exact dt_lt
        · decide
      refine ⟨fun l => x l ^^^ (fun l => if l = t then dt n (ra a t) x else 0) l, fun l => xor_lt (b l) (hv l), fun l hl => ?_, ?_, fun i h1 h2 => ?_⟩
      · show x l ^^^ (if l = t then _ else 0) = 0
        rw [if_neg (by omega), z l (by omega)]; rfl
      · show x j ^^^ (if j = t then _ else 0) = 1
        rw [if_neg (by omega), o]; rfl
      · rw [dt_xor b hv, dt_unit _ (by omega)]
        by_cases e : i = t
        · subst e
          rw [T.one i h2, gm_one dt_lt, Nat.xor_self]
        · rw [k i (by omega) h2, T.low i t (by omega) h2, zero_gm]; rfl
  obtain ⟨x, b, z, o, k⟩ := hp j 0 (by omega)
  refine ⟨x, b, fun l hl => z l (.inr (by omega)), o, fun i hi => ?_⟩
  by_cases h : i < j
  · exact k i (Nat.zero_le _) h
  · refine sumx_zero fun l hl => ?_
    rcases Nat.lt_trichotomy l j with h1 | h1 | h1
    · rw [T.rest i l (by omega) hi h1, zero_gm]
    · rw [h1, h0 i (by omega) hi, zero_gm]
    · rw [z l (.inr h1), gm_zero]

/-! ### Ours: column by column, above and below -/

def clF (at' col : Nat) (a : Rws) : Rws := elF (fun i => decide (i ≠ at')) at' col (scF at' (inv (gt (ra a at') col)) a)
/-- The first row from one on that has something in a column. -/
def pvF (col : Nat) : Rws → Nat → Option Nat
  | [], _ => none
  | r :: l, i => if gt r col = 0 then pvF col l (i + 1) else some i
theorem pvF_some {col : Nat} : ∀ {l : Rws} {i k : Nat}, pvF col l i = some k → ∃ r, l[k - i]? = some r ∧ gt r col ≠ 0 ∧ i ≤ k
  | [], _, _, h => by cases h
  | r :: l, i, k, h => by
    unfold pvF at h
    split at h
    · obtain ⟨r', h1, h2, h3⟩ := pvF_some h
      refine ⟨r', ?_, h2, by omega⟩
      rw [show k - i = (k - (i + 1)) + 1 by omega]
      exact h1
    · rename_i h0
      injection h with h
      subst h
      refine ⟨r, ?_, h0, Nat.le_refl _⟩
      rw [Nat.sub_self]; rfl
theorem pvF_none {col : Nat} : ∀ {l : Rws} {i : Nat}, pvF col l i = none → ∀ r ∈ l, gt r col = 0
  | [], _, _ => fun _ h => by cases h
  | r :: l, i, h => fun r' hr => by
    unfold pvF at h
    split at h
    · rename_i h0
      rcases List.mem_cons.1 hr with rfl | hr
      · exact h0
      · exact pvF_none h r' hr
    · cases h
def eliF : Nat → Nat → Nat → Rws → Nat × Rws
  | 0, _, d, a => (d, a)
  | c + 1, col, d, a =>
    if d = a.length then (d, a) else
    match pvF col (a.drop d) d with
    | none => eliF c (col + 1) d a
    | some k => eliF c (col + 1) (d + 1) (clF d col (swF a d k))
structure Gj (n m j : Nat) (a : Rws) : Prop where
  shp : Shp n m a
  unit : ∀ i l, i < n → l < j → gt (ra a i) l = if i = l then 1 else 0
theorem Gj.tri {n m j : Nat} {a : Rws} (h : Gj n m j a) (hj : j ≤ n) : Tri n j a where
  one i hi := by rw [h.unit i i (by omega) hi, if_pos rfl]
  low i l hl hi := by rw [h.unit i l (by omega) (by omega), if_neg (by omega)]
  rest i l hi hn hl := by rw [h.unit i l hn hl, if_neg (by omega)]
theorem Gj.step {n m j k : Nat} {a : Rws} (h : Gj n m j a) (hj : j < n) (hk : k < n) (hjk : j ≤ k) (hv : gt (ra a k) j ≠ 0) :
    Gj n m (j + 1) (clF j j (swF a j k)) ∧ ∀ y, Ann n m (clF j j (swF a j k)) y ↔ Ann n m a y := by
  have hb := swF_shp (i := j) (j := k) h.shp hj hk
  have hbl : (swF a j k).length = n := hb.1
  have hpj : ra (swF a j k) j = ra a k := by
    rw [swF_ra a j k (by rw [h.shp.1]; exact hj)]
    split
    · rename_i e; rw [e]
    · rw [if_pos rfl]
  have hpv : gt (ra (swF a j k) j) j ≠ 0 := by rw [hpj]; exact hv
  have hp256 : gt (ra (swF a j k) j) j < 256 := gt_lt (hb.row hj).2 j
  have hc := scF_shp (j := j) (c := inv (gt (ra (swF a j k) j) j)) hb
  have hcl := hc.1
  have hlow : ∀ i l, i < n → l < j → gt (ra (swF a j k) i) l = if i = l then 1 else 0 := fun i l hi hl => by
    rw [swF_ra a j k (by rw [h.shp.1]; exact hi)]
    split
    · rename_i e
      subst e
      rw [h.unit j l hj hl, if_neg (by omega), if_neg (by omega)]
    · split
      · rename_i e
        subst e
        rw [h.unit k l hk hl, if_neg (by omega), if_neg (by omega)]
      · exact h.unit i l hi hl
  have hcj : ra (scF j (inv (gt (ra (swF a j k) j) j)) (swF a j k)) j = sc (inv (gt (ra (swF a j k) j) j)) (ra (swF a j k) j) := by
    rw [scF_ra _ _ (by rw [hbl]; exact hj), if_pos rfl]
  have hci : ∀ i, i < n → i ≠ j → ra (scF j (inv (gt (ra (swF a j k) j) j)) (swF a j k)) i = ra (swF a j k) i := fun i hi hne => by
    rw [scF_ra _ _ (by rw [hbl]; exact hi), if_neg hne]
  refine ⟨⟨elF_shp hc, fun i l hi hl => ?_⟩, fun y => ?_⟩
  · unfold clF
    rw [elF_ra _ _ _ (by rw [hcl]; exact hi)]
    by_cases e : i = j
    · subst e
      rw [if_neg (by simp), hcj, sc_gt]
      by_cases e2 : l = i
      · subst e2
        rw [if_pos rfl, gm_comm, gm_inv hpv hp256]
      · rw [hlow i l hi (by omega), if_neg (by omega), gm_zero]
    · rw [if_pos (by simpa using e), hci i hi e, hcj, fd_gt _ _ _ _ (by rw [sc_len, (hb.row hi).1, (hb.row hj).1]; exact Nat.le_refl _), sc_gt]
      by_cases e2 : l = j
      · subst e2
        rw [gm_comm (inv _), gm_inv hpv hp256, gm_one2 (gt_lt (hb.row hi).2 _), Nat.xor_self, if_neg e]
      · rw [hlow j l hj (by omega), if_neg (by omega : ¬ j = l), gm_zero, gm_zero, Nat.xor_zero, hlow i l hi (by omega)]
  · unfold clF
    rw [elF_ann hc hj (by simp) y, scF_ann hbl (inv_ne hpv hp256) y, swF_ann h.shp.1 hj hk y]
theorem eli_ok {n m : Nat} (hnm : n ≤ m) {a0 : Rws} (hI : Inj n a0) : ∀ (c j : Nat) (a : Rws), j + c = n → Gj n m j a → (∀ y : Nat → Nat, (∀ l, y l < 256) → (Ann n m a y ↔ Ann n m a0 y)) →
    ∃ a', eliF c j j a = (n, a') ∧ Gj n m n a' ∧ ∀ y : Nat → Nat, (∀ l, y l < 256) → (Ann n m a' y ↔ Ann n m a0 y)
  | 0, j, a, hc, hg, ha => by
    obtain rfl : j = n := by omega
    exact ⟨a, rfl, hg, ha⟩
  | c + 1, j, a, hc, hg, ha => by
    have hjn : j < n := by omega
    have hal := hg.shp.1
    unfold eliF
    rw [if_neg (by rw [hal]; omega)]
    cases hp : pvF j (a.drop j) j with
    | none =>
      exfalso
      have hz := pvF_none hp
      have h0 : ∀ i, j ≤ i → i < n → gt (ra a i) j = 0 := fun i h1 h2 => hz _ (by
        rw [List.mem_iff_getElem?]
        refine ⟨i - j, ?_⟩
        rw [List.getElem?_drop, show j + (i - j) = i by omega, ra_of_lt (by rw [hal]; exact h2)])
      obtain ⟨x, b, z, o, k⟩ := kern (m := m) hjn (hg.tri (by omega)) h0
      have hann : Ann n m a0 x := (ha x b).1 fun i hi => by rw [dt_low hnm z]; exact k i hi
      have := hI x b z (fun i hi => by rw [← dt_low hnm z]; exact hann i hi) j
      rw [o] at this; cases this
    | some k =>
      obtain ⟨r, h1, h2, h3⟩ := pvF_some hp
      rw [List.getElem?_drop, show j + (k - j) = k by omega] at h1
      have hk : k < n := by rw [← hal]; exact (List.getElem?_eq_some_iff.1 h1).1
      obtain ⟨s1, s2⟩ := hg.step hjn hk h3 (by rw [ra_some h1]; exact h2)
      exact eli_ok hnm hI c (j + 1) _ (by omega) s1 fun y hy => (s2 y).trans (ha y hy)
end
section

def ByR (_ : Nat → Prop) (_ : World) (cs : List Value) (x : Nat) : Prop := x < 256 ∧ cs = [.int .u8 (x : Int)]
theorem ByR.stable : Stable ByR := fun _ _ _ _ _ _ h _ => h
theorem ByR.one : ∀ S w cs x, ByR S w cs x → ∀ u ∈ cs, u.oneCell' = true := by
  rintro S w cs x ⟨_, rfl⟩ u hu
  simp at hu
  subst hu; rfl
theorem sl_by : SlTy Tryz.prog 68 5 (.int .u8 0) 1 1 := ⟨by kernel_rfl, by kernel_rfl, by kernel_rfl, by omega⟩
theorem by_at {S : Nat → Prop} {w : World} {b o n : Nat} {xs : List Nat} (h : RdL ByR 1 S w (some ⟨b, o, none⟩) n xs) {k : Nat} (hk : k < n) : w.cell? ⟨b, o + k, none⟩ = some (.int .u8 (gt xs k)) ∧ gt xs k < 256 := by
  obtain ⟨hl, cs, _, ⟨h1, rfl⟩, h2⟩ := h.at hk
  have e : gt xs k = xs[k] := by unfold gt; rw [List.getD_eq_getElem?_getD, List.getElem?_eq_getElem hl]; rfl
  rw [e]
  refine ⟨?_, h1⟩
  have := h2 0 _ rfl
  rwa [Nat.mul_one, Nat.add_zero] at this
theorem by_byt {S : Nat → Prop} {w : World} {A : Option Addr} {n : Nat} {xs : List Nat} (h : RdL ByR 1 S w A n xs) : Byt xs := fun x hx => by
  obtain ⟨i, hi, rfl⟩ := List.mem_iff_getElem.1 hx
  obtain ⟨b, o, rfl, _, _⟩ := h.addr (k := i) (by rw [← h.1]; exact hi)
  obtain ⟨_, cs, _, ⟨h1, _⟩, _⟩ := h.at (k := i) (by rw [← h.1]; exact hi)
  exact h1

/-- A row of bytes at the beginning of a block. -/
structure RowIn (w : World) (g : Nat) (cur : Array Value) (xs : List Nat) : Prop where
  box : BoxAt w g cur
  len : xs.length ≤ cur.size
  cells : ∀ i, i < xs.length → cur[i]? = some (.int .u8 (gt xs i))
  byt : Byt xs
section
variable {w w' : World} {g : Nat} {cur : Array Value} {xs : List Nat}
theorem RowIn.below (h : RowIn w g cur xs) (hb : Below w.heap.size w w') : RowIn w' g cur xs := ⟨h.box.below hb, h.len, h.cells, h.byt⟩
theorem RowIn.alloc (h : RowIn w g cur xs) (o : Obj) : RowIn (w.alloc o) g cur xs := ⟨h.box.alloc o, h.len, h.cells, h.byt⟩
theorem RowIn.drew (h : RowIn w g cur xs) : RowIn w.drew g cur xs := ⟨h.box.keep rfl, h.len, h.cells, h.byt⟩
theorem RowIn.cell (h : RowIn w g cur xs) {i : Nat} (hi : i < xs.length) : w.cell? ⟨g, i, none⟩ = some (.int .u8 (gt xs i)) := (h.box.cell i).trans (h.cells i hi)
theorem RowIn.frozen (h : RowIn w g cur xs) (i : Nat) : w.frozen? ⟨g, i, none⟩ = false := h.box.frozen i
theorem gt_set (xs : List Nat) (i x : Nat) {k : Nat} (hk : k < xs.length) : gt (xs.set i x) k = if k = i then x else gt xs k := by
  unfold gt
  rw [List.getD_eq_getElem?_getD, List.getD_eq_getElem?_getD, List.getElem?_set]
  split
  · rename_i h
    subst h
    rw [if_pos rfl, if_pos hk]; rfl
  · rename_i h
    rw [if_neg (fun e => h e.symm)]
theorem byt_set {xs : List Nat} (h : Byt xs) {i x : Nat} (hx : x < 256) : Byt (xs.set i x) := fun y hy => by
  rcases List.mem_or_eq_of_mem_set hy with h1 | h1
  · exact h y h1
  · rw [h1]; exact hx
theorem RowIn.set (h : RowIn w g cur xs) {i x : Nat} (hi : i < xs.length) (hx : x < 256) : RowIn (w.setCell ⟨g, i, none⟩ (.int .u8 (x : Int))) g (cur.setIfInBounds i (.int .u8 (x : Int))) (xs.set i x) where
  box := h.box.set i _
  len := by rw [List.length_set, Array.size_setIfInBounds]; exact h.len
  cells k hk := by
    rw [List.length_set] at hk
    have hl := h.len
    rw [gt_set _ _ _ hk, Array.getElem?_setIfInBounds]
    by_cases e : k = i
    · subst e
      rw [if_pos rfl, if_pos (by omega), if_pos rfl]
    · rw [if_neg (fun h => e h.symm), if_neg e]; exact h.cells k hk
  byt := byt_set h.byt hx
theorem RowIn.rd (h : RowIn w g cur xs) {S : Nat → Prop} (hS : S g) : RdL ByR 1 S w (some ⟨g, 0, none⟩) xs.length xs := ⟨rfl, fun _ => ⟨g, 0, rfl, hS, h.box.lt, fun i x hx => by
  have hi := (List.getElem?_eq_some_iff.1 hx).1
  refine ⟨[.int .u8 (x : Int)], rfl, ⟨h.byt x (List.mem_of_getElem? hx), rfl⟩, fun j v hj => ?_⟩
  have hj0 : j = 0 := by
    have := (List.getElem?_eq_some_iff.1 hj).1
    simp at this; exact this
  subst hj0
  simp at hj
  subst hj
  rw [show 0 + i * 1 + 0 = i by omega, h.cell hi, (Option.some.inj ((gt_of_lt hi).symm.trans hx))]⟩⟩
theorem RowIn.of_own {E : TypeId} {base n : Nat} {S : Nat → Prop} {v : Value} (h : OwnL ByR E 1 base S w v n xs) (hn : 0 < n) : ∃ g cap cur, v = .slice (some ⟨g, 0, none⟩) n cap ∧ base ≤ g ∧ n ≤ cap ∧ xs.length = n ∧ RowIn w g cur xs := by
  obtain ⟨A, cap, rfl, hc, hr⟩ := h.rd (S' := fun k => base ≤ k) (fun _ hk => hk) (fun cs x hx => hx)
  obtain ⟨css, h1, h2, h3, h4, h5⟩ := h
  rcases h1.2 with ⟨_, e⟩ | ⟨g, cap', cur, e, hg, hblk, hnc, hcm, hsz, ht⟩
  · omega
  · injection e with e1 e2 e3
    subst e1; subst e3
    refine ⟨g, cap, cur, rfl, hg, hc, h2, ⟨_, hblk⟩, ?_, fun i hi => ?_, by_byt hr⟩
    · rw [hsz]; omega
    · have h7 := (by_at hr (k := i) (by omega)).1
      rw [Nat.zero_add] at h7
      rw [← h7]
      exact (BoxAt.cell (w := w) (b := g) (cs := cur) ⟨_, hblk⟩ i).symm
theorem madeCells_r (k : Nat) (v : Value) : madeCells #[v] k = Array.replicate k v := by
  apply Array.ext
  · simp [madeCells]
  · intro i h1 h2
    simp [madeCells, Nat.mod_one]
end
theorem byInfo : (Tryz.prog.info? 5).map (fun i => (i.zero, i.size, i.bytes)) = some (some (.int .u8 0), 1, 1) := by kernel_rfl
theorem makeBy (k : Nat) (hk : k ≤ 17592186043904) (w : World) : (Instr.makeSlice 68 (.int .i64 (k : Int)) (.int .i64 (k : Int))).run Tryz.prog w = .ok (.slice (some ⟨w.heap.size, 0, none⟩) k k) (w.alloc (.cells (Array.replicate k (.int .u8 0)) 5)) := by
  obtain ⟨i, hi, hz, hs, hb⟩ := info_parts byInfo
  have h := run_make (P := Tryz.prog) w 68 5 i (.int .u8 0) (by kernel_rfl) hi hz .i64 .i64 k k (by omega) (by omega) (by rw [hb]; omega) (by omega)
  simp only [Int.toNat_natCast, hs, Nat.mul_one] at h
  rw [h, show (Value.int .u8 0).cells = #[.int .u8 0] from rfl, madeCells_r]
theorem RowIn.made (w : World) (k : Nat) (t : TypeId) : RowIn (w.alloc (.cells (Array.replicate k (.int .u8 0)) t)) w.heap.size (Array.replicate k (.int .u8 0)) (List.replicate k 0) where
  box := BoxAt.new _ _ _
  len := by simp
  cells i hi := by
    rw [List.length_replicate] at hi
    rw [Array.getElem?_replicate, if_pos hi]
    unfold gt
    rw [List.getD_eq_getElem?_getD, List.getElem?_replicate, if_pos hi]; rfl
  byt x hx := by rw [(List.mem_replicate.1 hx).2]; omega
end
section

theorem ret_bool2 {a b : Bool} (h : a = b) : Ending.returned (.bool a) = .returned (.bool b) := by rw [h]
end
section

@[local go_sem] theorem eql_map_some (m : Nat) (w : World) : (binOp .eql 187 (.map (some m)) (.map none)).run Tryz.prog w = .ok (.bool false) w := by kernel_rfl
@[local go_sem] theorem eql_map_none (w : World) : (binOp .eql 187 (.map none) (.map none)).run Tryz.prog w = .ok (.bool true) w := by kernel_rfl

/-- A drive's own five cells. -/
def drvCells (A : Option Addr) (n c : Nat) (A2 : Option Addr) (n2 c2 : Nat) (A3 : Option Addr) (n3 c3 : Nat) (m : Nat) (d : Bool) : Array Value := #[.slice A n c, .slice A2 n2 c2, .slice A3 n3 c3, .map (some m), .bool d]

section
variable {A A2 A3 : Option Addr} {n c n2 c2 n3 c3 m : Nat} {d : Bool} {p : Nat} {w : World}
theorem drv_cells (h : BoxAt w p (drvCells A n c A2 n2 c2 A3 n3 c3 m d)) : w.cell? ⟨p, 0, none⟩ = some (.slice A n c) ∧ w.cell? ⟨p, 1, none⟩ = some (.slice A2 n2 c2) ∧ w.cell? ⟨p, 2, none⟩ = some (.slice A3 n3 c3) ∧ w.cell? ⟨p, 3, none⟩ = some (.map (some m)) ∧ w.cell? ⟨p, 4, none⟩ = some (.bool d) :=
  ⟨h.cell 0, h.cell 1, h.cell 2, h.cell 3, h.cell 4⟩

set_option maxRecDepth 100000 in
theorem dnone_any (h : Hid (BoxAt w p (drvCells A n c A2 n2 c2 A3 n3 c3 m d))) : Calls Tryz.prog 123 #[.pointer (some ⟨p, 0, none⟩)] w fun e w' => e = .returned (.bool false) ∧ Below w.heap.size w w' := by
  obtain ⟨k0, k1, k2, k3, k4⟩ := drv_cells h.out
  go_enter Tryz.func123, Tryz.ntmps123
  go_wp2_with fail
  go_ret
  exact ⟨rfl, Below.refl _ _⟩

set_option maxRecDepth 100000 in
theorem has_any (z : Int) (h : Hid (BoxAt w p (drvCells A n c A2 n2 c2 A3 n3 c3 m d))) : Calls Tryz.prog 160 #[.pointer (some ⟨p, 0, none⟩), .int .i64 z] w fun e w' => e = .returned (.bool (decide (0 ≤ z ∧ z < n))) ∧ Below w.heap.size w w' := by
  obtain ⟨k0, k1, k2, k3, k4⟩ := drv_cells h.out
  by_cases h0 : 0 ≤ z
  · go_enter Tryz.func160, Tryz.ntmps160
    go_wp2_with fail
    go_ret
    exact ⟨ret_bool2 (by simp [h0] <;> omega), Below.refl _ _⟩
  · go_enter Tryz.func160, Tryz.ntmps160
    go_wp2_with fail
    go_ret
    exact ⟨ret_bool2 (by simp [h0] <;> omega), Below.refl _ _⟩

/-- Why nothing can be done. -/
def readyE (d : Bool) (n : Nat) (z : Int) : Int := if d then 90 else if 0 ≤ z ∧ z < n then 0 else 2
set_option maxRecDepth 100000 in
theorem dready_any (z : Int) (h : Hid (BoxAt w p (drvCells A n c A2 n2 c2 A3 n3 c3 m d))) : Calls Tryz.prog 131 #[.pointer (some ⟨p, 0, none⟩), .int .i64 z] w fun e w' => e = .returned (.int .i64 (readyE d n z)) ∧ Below w.heap.size w w' := by
  go_enter Tryz.func131, Tryz.ntmps131
  go_wp2_with fail
  refine (dnone_any h).mono ?_
  rintro e w1 ⟨rfl, h1⟩
  have H1 := Lib.hid (h.out.below h1)
  obtain ⟨k0, k1, k2, k3, k4⟩ := drv_cells H1.out
  cases d
  · go_wp2_with fail
    refine (has_any z H1).mono ?_
    rintro e w2 ⟨rfl, h2⟩
    have t2 := h1.trans (h2.mono h1.size)
    by_cases hz : 0 ≤ z ∧ z < n
    · have e1 : readyE false n z = 0 := by simp [readyE, hz]
      have e2 : decide (0 ≤ z ∧ z < n) = true := by simpa using hz
      rw [e2]
      have E1 := Lib.hid e1
      clear e1 e2 hz
      go_wp2_with fail
      go_ret
      exact ⟨by show Ending.returned (.int .i64 0) = Ending.returned (.int .i64 (readyE false n z)); rw [E1.out], t2⟩
    · have e1 : readyE false n z = 2 := by simp [readyE, hz]
      have e2 : decide (0 ≤ z ∧ z < n) = false := by simpa using hz
      rw [e2]
      have E1 := Lib.hid e1
      clear e1 e2 hz
      go_wp2_with fail
      go_ret
      exact ⟨by show Ending.returned (.int .i64 2) = Ending.returned (.int .i64 (readyE false n z)); rw [E1.out], t2⟩
  · go_wp2_with fail
    go_ret
    exact ⟨rfl, h1⟩
end
end
section

section
variable {A A2 A3 : Option Addr} {n c n2 c2 n3 c3 m : Nat} {d : Bool} {p : Nat} {w : World}
set_option maxRecDepth 100000 in
theorem sectors_any (h : Hid (BoxAt w p (drvCells A n c A2 n2 c2 A3 n3 c3 m d))) : Calls Tryz.prog 167 #[.pointer (some ⟨p, 0, none⟩)] w fun e w' => e = .returned (.int .i64 n) ∧ Below w.heap.size w w' := by
  go_enter Tryz.func167, Tryz.ntmps167
  go_wp2_with fail
  refine (dnone_any h).mono ?_
  rintro e w1 ⟨rfl, h1⟩
  obtain ⟨k0, k1, k2, k3, k4⟩ := drv_cells (h.out.below h1)
  go_wp2_with fail
  go_ret
  exact ⟨rfl, h1⟩
end
end
end Go.Proofs.YtihnlhfngmbglaaGreat
