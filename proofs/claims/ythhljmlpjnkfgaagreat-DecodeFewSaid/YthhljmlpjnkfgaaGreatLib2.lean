/-
  More of the library: pushing one element onto a slice of the call's own.
-/
import Derived.Test.YthhljmlpjnkfgaaGreatLib
namespace Go.Cib
open Go.RowKit

section
variable {P : Program} {ops : Array Oper} {rest : List Oper} {o : Oper} {a : Act} {Q : Exit → Act → World → Prop} {W : World}
/-- append(s, x): x lies in the row that was just laid for it. -/
theorem wpList_push1 {X : Type} {R : (Nat → Prop) → World → List Value → X → Prop} (hR : Stable R) (hone : ∀ S w cs x, R S w cs x → ∀ u ∈ cs, u.oneCell' = true) {T E : TypeId} {z : Value} {size bytes : Nat} (st : SlTy P T E z size bytes) {s x : Operand}
    (hgd : o.guard = none) (ho : o.op = .call { callee := .builtin .append, args := #[s, x], argTypes := #[T, T] })
    {base n c : Nat} {S : Nat → Prop} {v : Value} {xs : List X} {cs : Array Value} {y : X} (hs : a.eval s = v) (hx : a.eval x = .slice (some ⟨W.heap.size, 0, none⟩) 1 c)
    (hown : OwnL R E size base S W v n xs) (hcs : cs.size = size) (hy : R (Rest S v) W cs.toList y)
    (hlen : n + 1 ≤ maxLen) (hbytes : (n + 1) * bytes ≤ 140737488355328) (hbase : base ≤ W.heap.size)
    (h : ∀ A' c' (u : Grw v.ownBlock W), n + 1 ≤ c' → OwnL R E size base S u.to (.slice A' (n + 1) c') (n + 1) (xs ++ [y]) → W.heap.size < u.to.heap.size → Below base W u.to → (Value.ownBlock (.slice A' (n + 1) c') = v.ownBlock ∨ Value.ownBlock (.slice A' (n + 1) c') = some (W.heap.size + 1)) → wpList P ops Q rest (a.put o.dst (.slice A' (n + 1) c')) u.to) :
    wpList P ops Q (o :: rest) a (W.alloc (.cells cs E)) := by
  have hal : Below W.heap.size W (W.alloc (.cells cs E)) := (Below.refl _ _).alloc (Nat.le_refl _) _
  refine wpList_push hR st hgd ho hs (hown.keep hR hal) (b := W.heap.size) (off := 0) (cs := cs.toList) (y := y) hx (by simpa using hcs) ?_ (hone _ _ _ _ hy) (hR _ _ _ _ _ _ hy fun b hb hlt => ⟨hb, hal.block b hlt⟩) hlen hbytes (by simp only [World.size_alloc]; omega) ?_
  · intro j u hj
    have hnew : (W.alloc (.cells cs E)).heap[W.heap.size]? = some (.cells cs E (0, 0)) := heap_alloc_new W _
    rw [cell_of_row _ W.heap.size (0 + j) cs E (0, 0) hnew]
    simpa using hj
  · intro A' c' w' hc hown' hg hat
    have hg2 : W.grownBy w' v.ownBlock := ⟨hg.os, hg.tape, hg.output, by have := hg.size; simp only [World.size_alloc] at this; omega, fun k hk hne => (hg.block k (by simp only [World.size_alloc]; omega) hne).trans (Below.heap_alloc _ _ _ hk)⟩
    refine h A' c' ⟨w', hg2⟩ hc hown' ?_ ?_ ?_
    · have := hg.size; simp only [World.size_alloc] at this; exact this
    · exact (Below.refl _ _).grown hg2 hbase (fun k hk => (hown.lt k hk).1)
    · simpa only [World.size_alloc] using hat
end

theorem Below.later_of {B : Nat} {w w' : World} (h : Below B w w') : ∃ y : Later B w, w' = y.to := ⟨⟨w', h⟩, rfl⟩

theorem OwnL.len {X : Type} {R : (Nat → Prop) → World → List Value → X → Prop} {E : TypeId} {s base : Nat} {S : Nat → Prop} {w : World} {v : Value} {n : Nat} {xs : List X} (h : OwnL R E s base S w v n xs) : xs.length = n := by
  obtain ⟨_, _, h2, _⟩ := h
  exact h2

/-- A row that was just laid for one element, as a slice of the call's own. -/
theorem OwnL.lit {X : Type} {R : (Nat → Prop) → World → List Value → X → Prop} (hR : Stable R) {E : TypeId} {s base : Nat} {S : Nat → Prop} {W : World} {cs : Array Value} {y : X} (hcs : cs.size = s) (hb : base ≤ W.heap.size) (hy : R S W cs.toList y) :
    OwnL R E s base S (W.alloc (.cells cs E)) (.slice (some ⟨W.heap.size, 0, none⟩) 1 1) 1 [y] := by
  refine ⟨[cs.toList], ?_, rfl, rfl, by simpa using hcs, ?_⟩
  · have := World.ownsRow_lit (base := base) (e := E) (size := s) W cs 1 hb (by unfold maxLen; omega) (by simpa using hcs)
    simpa using this
  · intro i c x hc hx
    match i, hc, hx with
    | 0, hc, hx =>
      simp only [List.getElem?_cons_zero, Option.some.injEq] at hc hx
      subst hc; subst hx
      refine hR _ _ _ _ _ _ hy fun b hS hlt => ⟨⟨hS, ?_⟩, Below.heap_alloc _ _ _ hlt⟩
      intro e
      simp [Value.ownBlock] at e
      omega

/-- Two slices of the call's own, side by side. -/
def Own2 {X : Type} (R : (Nat → Prop) → World → List Value → X → Prop) (E : TypeId) (s base : Nat) (S : Nat → Prop) (w : World) (v1 v2 : Value) (n1 n2 : Nat) (l1 l2 : List X) : Prop :=
  OwnL R E s base (fun b => S b ∧ some b ≠ v2.ownBlock) w v1 n1 l1 ∧ OwnL R E s base (fun b => S b ∧ some b ≠ v1.ownBlock) w v2 n2 l2 ∧ (v1.ownBlock = none ∨ v1.ownBlock ≠ v2.ownBlock)

section
variable {X : Type} {R : (Nat → Prop) → World → List Value → X → Prop} {E : TypeId} {s base : Nat} {S : Nat → Prop} {w w' : World} {v1 v2 v1' : Value} {n1 n2 n1' : Nat} {l1 l2 l1' : List X}
theorem Own2.nil_ : Own2 R E s base S w (.slice none 0 0) (.slice none 0 0) 0 0 [] [] := ⟨OwnL.nil_, OwnL.nil_, .inl rfl⟩
theorem Own2.swap (h : Own2 R E s base S w v1 v2 n1 n2 l1 l2) : Own2 R E s base S w v2 v1 n2 n1 l2 l1 :=
  ⟨h.2.1, h.1, by rcases h.2.2 with e | e
                  · cases hv : v2.ownBlock with
                    | none => exact .inl rfl
                    | some k => rw [e]; exact .inr (by simp)
                  · exact .inr (Ne.symm e)⟩
theorem Own2.keep (hR : Stable R) (h : Own2 R E s base S w v1 v2 n1 n2 l1 l2) (hb : Below w.heap.size w w') : Own2 R E s base S w' v1 v2 n1 n2 l1 l2 :=
  ⟨h.1.keep hR hb, h.2.1.keep hR hb, h.2.2⟩
theorem Own2.pushed (hR : Stable R) (h : Own2 R E s base S w v1 v2 n1 n2 l1 l2) (hg : w.grownBy w' v1.ownBlock) (hat : v1'.ownBlock = v1.ownBlock ∨ ∃ k, w.heap.size ≤ k ∧ v1'.ownBlock = some k)
    (h1 : OwnL R E s base (fun b => S b ∧ some b ≠ v2.ownBlock) w' v1' n1' l1') : Own2 R E s base S w' v1' v2 n1' n2 l1' l2 := by
  have hlt := h.2.1.lt
  refine ⟨h1, h.2.1.other hR hg ?_ (fun b hb => hb.2) (fun b hb hbl => ⟨hb.1, ?_⟩), ?_⟩
  · exact h.swap.2.2
  · rcases hat with e | ⟨k, hk, e⟩
    · rw [e]; exact hb.2
    · rw [e]; intro h; injection h with h; omega
  · rcases hat with e | ⟨k, hk, e⟩
    · rw [e]; exact h.2.2
    · right; rw [e]; intro h
      have := hlt _ h.symm; omega
theorem Own2.rd {A1 A2 : Option Addr} {c1 c2 : Nat} {S' : Nat → Prop} (hR : Stable R) (h : Own2 R E s base S w (.slice A1 n1 c1) (.slice A2 n2 c2) n1 n2 l1 l2) (hB : ∀ b, base ≤ b → S' b) (hS : ∀ b, S b → S' b) : RdL R s S' w A1 n1 l1 ∧ n1 ≤ c1 := by
  obtain ⟨A, c, e, hc, hr⟩ := h.1.rd (S' := S') hB (fun cs x hx => hR _ _ _ _ _ _ hx fun b hb _ => ⟨hS b hb.1.1, rfl⟩)
  injection e with e1 e2 e3
  subst e1; subst e3
  exact ⟨hr, hc⟩
end

/-- A variable that was put aside: block b holds just these cells. -/
def BoxAt (w : World) (b : Nat) (cs : Array Value) : Prop := ∃ t, w.heap[b]? = some (.cells cs t (0, 0))
section
variable {w w' : World} {b : Nat} {cs : Array Value}
theorem BoxAt.cell (h : BoxAt w b cs) (o : Nat) : w.cell? ⟨b, o, none⟩ = cs[o]? := by
  obtain ⟨t, h⟩ := h
  exact cell_of_row w b o cs t (0, 0) h
theorem BoxAt.frozen (h : BoxAt w b cs) (o : Nat) : w.frozen? ⟨b, o, none⟩ = false := by
  obtain ⟨t, h⟩ := h
  simp [World.frozen?, h]
theorem BoxAt.lt (h : BoxAt w b cs) : b < w.heap.size := by
  obtain ⟨t, h⟩ := h
  exact (Array.getElem?_eq_some_iff.1 h).1
theorem BoxAt.keep (h : BoxAt w b cs) (hb : w'.heap[b]? = w.heap[b]?) : BoxAt w' b cs := by
  obtain ⟨t, h⟩ := h
  exact ⟨t, hb.trans h⟩
theorem BoxAt.below (h : BoxAt w b cs) (hb : Below w.heap.size w w') : BoxAt w' b cs := h.keep (hb.block b h.lt)
theorem BoxAt.alloc (h : BoxAt w b cs) (o : Obj) : BoxAt (w.alloc o) b cs := h.keep (Below.heap_alloc _ _ _ h.lt)
theorem BoxAt.grw {row : Option Nat} (h : BoxAt w b cs) (hg : w.grownBy w' row) (hne : some b ≠ row) : BoxAt w' b cs := h.keep (hg.block b h.lt hne)
theorem BoxAt.new (w : World) (cs : Array Value) (t : TypeId) : BoxAt (w.alloc (.cells cs t)) w.heap.size cs := ⟨t, heap_alloc_new w _⟩
end

/-- A row that was just laid for one element, as a reading. -/
theorem RdL.one {X : Type} {R : (Nat → Prop) → World → List Value → X → Prop} (hR : Stable R) {E : TypeId} {s : Nat} {S : Nat → Prop} {W : World} {cs : Array Value} {y : X} (hcs : cs.size = s) (hy : R S W cs.toList y) :
    RdL R s (fun _ => True) (W.alloc (.cells cs E)) (some ⟨W.heap.size, 0, none⟩) 1 [y] := by
  obtain ⟨A, c, e, _, hr⟩ := (OwnL.lit hR (E := E) (s := s) (base := 0) hcs (Nat.zero_le _) hy).rd (S' := fun _ => True) (fun _ _ => trivial) (fun cs x hx => hR _ _ _ _ _ _ hx fun _ _ _ => ⟨trivial, rfl⟩)
  injection e with e1 e2 e3
  subst e1
  exact hr

end Go.Cib
