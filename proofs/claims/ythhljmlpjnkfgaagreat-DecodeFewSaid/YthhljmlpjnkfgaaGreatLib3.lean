/-
  More of the library: objects that are changed in place; blocks that a call may change.
-/
import Derived.Test.YthhljmlpjnkfgaaGreatLib2
set_option linter.unusedSimpArgs false
set_option linter.unusedVariables false
namespace Go.Cib
open Go.RowKit

/-- What was there outside of F is there. -/
structure Keep (F : Nat → Prop) (a w : World) : Prop where
  os : w.os = a.os
  tape : w.tape = a.tape
  output : w.output = a.output
  size : a.heap.size ≤ w.heap.size
  block : ∀ k, k < a.heap.size → ¬ F k → w.heap[k]? = a.heap[k]?

section
variable {F G : Nat → Prop} {a w w' : World}
theorem Keep.refl (F : Nat → Prop) (w : World) : Keep F w w := ⟨rfl, rfl, rfl, Nat.le_refl _, fun _ _ _ => rfl⟩
theorem Keep.of_below (h : Below a.heap.size a w) : Keep F a w := ⟨h.os, h.tape, h.output, h.size, fun k hk _ => h.block k hk⟩
theorem Keep.mono (h : Keep F a w) (hF : ∀ k, F k → k < a.heap.size → G k) : Keep G a w := ⟨h.os, h.tape, h.output, h.size, fun k hk hg => h.block k hk fun hf => hg (hF k hf hk)⟩
theorem Keep.trans (h : Keep F a w) (h2 : Keep G w w') (hG : ∀ k, G k → k < a.heap.size → F k) : Keep F a w' :=
  ⟨h2.os.trans h.os, h2.tape.trans h.tape, h2.output.trans h.output, Nat.le_trans h.size h2.size, fun k hk hf => (h2.block k (Nat.lt_of_lt_of_le hk h.size) fun hg => hf (hG k hg hk)).trans (h.block k hk hf)⟩
theorem Keep.below {B : Nat} (h : Keep F a w) (hB : B ≤ a.heap.size) (hF : ∀ k, F k → B ≤ k) : Below B a w := ⟨h.os, h.tape, h.output, h.size, fun k hk => h.block k (Nat.lt_of_lt_of_le hk hB) fun hf => absurd (hF k hf) (by omega)⟩
theorem Keep.of_later {B : Nat} (h : Below B a w) : Keep (fun k => B ≤ k) a w := ⟨h.os, h.tape, h.output, h.size, fun k _ hf => h.block k (by omega)⟩
theorem Keep.of_grown {row : Option Nat} (h : a.grownBy w row) : Keep (fun k => some k = row) a w := ⟨h.os, h.tape, h.output, h.size, fun k hk hf => h.block k hk hf⟩
theorem Keep.alloc (h : Keep F a w) (o : Obj) : Keep F a (w.alloc o) := h.trans (G := fun _ => False) ⟨rfl, rfl, rfl, by simp, fun k hk _ => Below.heap_alloc _ _ _ hk⟩ (fun _ h => h.elim)
theorem Keep.setCell (h : Keep F a w) {p : Addr} (hp : p.block < a.heap.size → F p.block) (v : Value) : Keep F a (w.setCell p v) :=
  h.trans (G := fun k => k = p.block) ⟨rfl, rfl, rfl, by simp, fun k _ hk => Below.heap_setCell _ _ _ _ hk⟩ (fun k e hk => e ▸ hp (e ▸ hk))
end

theorem RdL.keep {X : Type} {R : (Nat → Prop) → World → List Value → X → Prop} (hR : Stable R) {s : Nat} {S F : Nat → Prop} {w w' : World} {A : Option Addr} {n : Nat} {xs : List X}
    (h : RdL R s S w A n xs) (hk : Keep F w w') (hd : ∀ b, S b → ¬ F b) : RdL R s S w' A n xs := h.stable hR fun b hS hlt => ⟨hS, hk.block b hlt (hd b hS)⟩
theorem BoxAt.keeps {F : Nat → Prop} {w w' : World} {b : Nat} {cs : Array Value} (h : BoxAt w b cs) (hk : Keep F w w') (hb : ¬ F b) : BoxAt w' b cs := h.keep (hk.block b h.lt hb)
theorem BoxAt.set {w : World} {b : Nat} {cs : Array Value} (h : BoxAt w b cs) (o : Nat) (v : Value) : BoxAt (w.setCell ⟨b, o, none⟩ v) b (cs.setIfInBounds o v) := by
  obtain ⟨t, h⟩ := h
  exact ⟨t, by simp [World.setCell, Array.getElem?_modify, h]⟩
theorem BoxAt.set_other {w : World} {b : Nat} {cs : Array Value} (h : BoxAt w b cs) {p : Addr} (hp : b ≠ p.block) (v : Value) : BoxAt (w.setCell p v) b cs := h.keep (Below.heap_setCell _ _ _ _ hp)

/-- A byte. -/
def U8R (_ : Nat → Prop) (_ : World) (cs : List Value) (x : Int) : Prop := cs = [.int .u8 x]
theorem U8R.stable : Stable U8R := fun _ _ _ _ _ _ h _ => h
theorem U8R.one : ∀ S w cs x, U8R S w cs x → ∀ u ∈ cs, u.oneCell' = true := by
  rintro S w cs x rfl u hu
  simp at hu
  subst hu; rfl
/-- A bool. -/
def BoolR (_ : Nat → Prop) (_ : World) (cs : List Value) (x : Bool) : Prop := cs = [.bool x]
theorem BoolR.stable : Stable BoolR := fun _ _ _ _ _ _ h _ => h
theorem BoolR.one : ∀ S w cs x, BoolR S w cs x → ∀ u ∈ cs, u.oneCell' = true := by
  rintro S w cs x rfl u hu
  simp at hu
  subst hu; rfl

/-- A box of bytes, as a reading. -/
theorem BoxAt.bytes {w : World} {b : Nat} {xs : List Int} (h : BoxAt w b (xs.map (Value.int .u8)).toArray) {S : Nat → Prop} (hS : S b) : RdL U8R 1 S w (some ⟨b, 0, none⟩) xs.length xs :=
  ⟨rfl, fun _ => ⟨b, 0, rfl, hS, h.lt, fun i x hx => ⟨[.int .u8 x], rfl, rfl, fun j v hj => by
    match j, hj with
    | 0, hj =>
      simp only [List.getElem?_cons_zero, Option.some.injEq] at hj
      subst hj
      rw [h.cell]
      simp [hx]⟩⟩⟩
end Go.Cib
