/-
  A library for the proofs of this seat: worlds that are later than another, readings of slices as lists, slices of the call's own.
-/
import Derived.WalkKit
import Derived.WalkSpells
import Derived.WalkLawsBesides
import Derived.Deep.QuietTactic
import Derived.BigQuiet
import Derived.Lib.Hide
import Derived.Maps.AppendAt
import Derived.Deep.AppendLies
import Derived.Deep.Draws
import Derived.RegionTactic
import Derived.OwnWalk
namespace Go.Cib
open Go.RowKit

/-! ### Worlds that are later -/

structure Later (B : Nat) (W : World) where
  to : World
  ok : Below B W to

instance {B : Nat} {W : World} : Nonempty (Later B W) := ⟨⟨W, Below.refl _ _⟩⟩

section
variable {B : Nat} {W : World}
theorem Later.cell (y : Later B W) {b o : Nat} (h : b < B) : y.to.cell? ⟨b, o, none⟩ = W.cell? ⟨b, o, none⟩ := y.ok.cell (p := ⟨b, o, none⟩) h
theorem Later.frozen (y : Later B W) {b o : Nat} (h : b < B) : y.to.frozen? ⟨b, o, none⟩ = W.frozen? ⟨b, o, none⟩ := y.ok.frozen (p := ⟨b, o, none⟩) h
theorem Later.block (y : Later B W) {b : Nat} (h : b < B) : y.to.heap[b]? = W.heap[b]? := y.ok.block b h
theorem _root_.Go.RowKit.Below.later {a : World} {B' : Nat} (h : Below B' a W) (hB : B' ≤ B) (y : Later B W) : Below B' a y.to := h.trans (y.ok.mono hB)
theorem Later.ex {w : World} (h : Below B W w) : ∃ y : Later B W, w = y.to := ⟨⟨w, h⟩, rfl⟩
theorem Later.call {P : Program} {f : FuncId} {args : Array Value} {v : Value} (y : Later B W)
    (h : Calls P f args y.to fun e w' => e = .returned v ∧ Below y.to.heap.size y.to w') (hB : B ≤ W.heap.size) :
    Calls P f args y.to fun e w'' => e = .returned v ∧ ∃ z : Later B W, w'' = z.to :=
  h.mono fun _ w' ⟨he, hb⟩ => ⟨he, ⟨⟨w', y.ok.trans (hb.mono (Nat.le_trans hB y.ok.size))⟩, rfl⟩⟩
end

/-- A region that draws its order, whose operations read, and whose callees leave what was there: in the text's order. -/
theorem wp_region_later {P : Program} {id : Nat} {Q : Exit → Act → World → Prop} {a : Act} {w : World} {l : List Oper} (hm : P.follows .mixedOrders = true) (hB : Region.lexB .any l.toArray = true)
    (h : wpQuiet P l.toArray (fun w' => ∃ y : Later w.heap.size w, w' = y.to) (fun a' => ∀ w', (∃ y : Later w.heap.size w, w' = y.to) → Q .normal a' w') l a) : (Code.region id l.toArray true).wp P Q a w :=
  wp_region_quiet (C := fun w' => ∃ y : Later w.heap.size w, w' = y.to) hm hB ⟨⟨w.drew, (Below.refl _ _).drew⟩, rfl⟩ (by simpa using h)

structure Grw (row : Option Nat) (W : World) where
  to : World
  ok : W.grownBy to row
theorem Grw.cell {row : Option Nat} {W : World} (y : Grw row W) {b o : Nat} (h : b < W.heap.size) (hn : some b ≠ row) : y.to.cell? ⟨b, o, none⟩ = W.cell? ⟨b, o, none⟩ := World.cell?_of_block (y.ok.block b h hn)
theorem Grw.frozen {row : Option Nat} {W : World} (y : Grw row W) {b o : Nat} (h : b < W.heap.size) (hn : some b ≠ row) : y.to.frozen? ⟨b, o, none⟩ = W.frozen? ⟨b, o, none⟩ := World.frozen?_of_block (y.ok.block b h hn)
theorem Grw.ex {row : Option Nat} {W w : World} (h : W.grownBy w row) : ∃ y : Grw row W, w = y.to := ⟨⟨w, h⟩, rfl⟩
theorem Later.of_grown {W w : World} (h : W.grownBy w none) : ∃ y : Later W.heap.size W, w = y.to := ⟨⟨w, ⟨h.os, h.tape, h.output, h.size, fun k hk => h.block k hk (by simp)⟩⟩, rfl⟩

theorem cell_set (w : World) (b o b' o' : Nat) (v : Value) : (w.setCell ⟨b, o, none⟩ v).cell? ⟨b', o', none⟩ = if b = b' ∧ o = o' then (w.cell? ⟨b', o', none⟩).map (fun _ => v) else w.cell? ⟨b', o', none⟩ := by
  by_cases h : b = b' ∧ o = o'
  · obtain ⟨rfl, rfl⟩ := h
    rw [if_pos ⟨rfl, rfl⟩]
    cases hc : w.cell? ⟨b, o, none⟩ with
    | some u => rw [World.cell?_setCell_same _ _ _ hc]; rfl
    | none =>
      simp only [World.setCell, World.cell?, Array.getElem?_modify, ↓reduceIte] at hc ⊢
      cases hb : w.heap[b]? with
      | none => rfl
      | some x => cases x <;> simp_all
  · rw [if_neg h]
    exact World.cell?_setCell_other _ _ _ _ (fun e => h (by injection e with e1 e2; exact ⟨e1, e2⟩))

/-! ### Readings -/

/-- A slice whose elements (of s cells each) read as xs by R, all in blocks of S. -/
def RdL {X : Type} (R : (Nat → Prop) → World → List Value → X → Prop) (s : Nat) (S : Nat → Prop) (w : World) (A : Option Addr) (n : Nat) (xs : List X) : Prop :=
  xs.length = n ∧ (0 < n → ∃ b o, A = some ⟨b, o, none⟩ ∧ S b ∧ b < w.heap.size ∧
    ∀ i x, xs[i]? = some x → ∃ cs : List Value, cs.length = s ∧ R S w cs x ∧ ∀ j v, cs[j]? = some v → w.cell? ⟨b, o + i * s + j, none⟩ = some v)

/-- What is read so stays, where the blocks of S stay. -/
def Stable {X : Type} (R : (Nat → Prop) → World → List Value → X → Prop) : Prop :=
  ∀ (S S' : Nat → Prop) (w w' : World) (cs : List Value) (x : X), R S w cs x → (∀ b, S b → b < w.heap.size → S' b ∧ w'.heap[b]? = w.heap[b]?) → R S' w' cs x

theorem lt_of_block {w w' : World} {b : Nat} (hb : b < w.heap.size) (h : w'.heap[b]? = w.heap[b]?) : b < w'.heap.size := by
  rcases Nat.lt_or_ge b w'.heap.size with h1 | h1
  · exact h1
  · rw [Array.getElem?_eq_none h1, Array.getElem?_eq_getElem hb] at h; cases h

theorem RdL.stable {X : Type} {R : (Nat → Prop) → World → List Value → X → Prop} (hR : Stable R) {s : Nat} {S S' : Nat → Prop} {w w' : World} {A : Option Addr} {n : Nat} {xs : List X}
    (h : RdL R s S w A n xs) (hk : ∀ b, S b → b < w.heap.size → S' b ∧ w'.heap[b]? = w.heap[b]?) : RdL R s S' w' A n xs :=
  ⟨h.1, fun hn => by
    obtain ⟨b, o, hA, hS, hlt, hc⟩ := h.2 hn
    refine ⟨b, o, hA, (hk b hS hlt).1, lt_of_block hlt (hk b hS hlt).2, fun i x hx => ?_⟩
    obtain ⟨cs, h1, h2, h3⟩ := hc i x hx
    exact ⟨cs, h1, hR _ _ _ _ _ _ h2 hk, fun j v hj => (World.cell?_of_block (a := ⟨b, _, none⟩) (hk b hS hlt).2).trans (h3 j v hj)⟩⟩

theorem RdL.nil {X : Type} {R : (Nat → Prop) → World → List Value → X → Prop} {s : Nat} {S : Nat → Prop} {w : World} {A : Option Addr} : RdL R s S w A 0 [] := ⟨rfl, fun h => absurd h (by omega)⟩

theorem RdL.below {X : Type} {R : (Nat → Prop) → World → List Value → X → Prop} (hR : Stable R) {s : Nat} {S : Nat → Prop} {w w' : World} {A : Option Addr} {n : Nat} {xs : List X}
    (h : RdL R s S w A n xs) (hb : Below w.heap.size w w') : RdL R s S w' A n xs := h.stable hR fun b hS hlt => ⟨hS, hb.block b hlt⟩

theorem RdL.setCell {X : Type} {R : (Nat → Prop) → World → List Value → X → Prop} (hR : Stable R) {s : Nat} {S : Nat → Prop} {w : World} {A : Option Addr} {n : Nat} {xs : List X}
    (h : RdL R s S w A n xs) {p : Addr} (hp : ¬ S p.block) (u : Value) : RdL R s S (w.setCell p u) A n xs := h.stable hR fun _ hS _ => ⟨hS, Below.heap_setCell _ _ _ _ (fun e => hp (e ▸ hS))⟩

theorem RdL.alloc {X : Type} {R : (Nat → Prop) → World → List Value → X → Prop} (hR : Stable R) {s : Nat} {S : Nat → Prop} {w : World} {A : Option Addr} {n : Nat} {xs : List X}
    (h : RdL R s S w A n xs) (o : Obj) : RdL R s S (w.alloc o) A n xs := h.stable hR fun _ hS hlt => ⟨hS, Below.heap_alloc _ _ _ hlt⟩

theorem RdL.weaken {X : Type} {R : (Nat → Prop) → World → List Value → X → Prop} (hR : Stable R) {s : Nat} {S S' : Nat → Prop} {w : World} {A : Option Addr} {n : Nat} {xs : List X}
    (h : RdL R s S w A n xs) (hS : ∀ b, S b → S' b) : RdL R s S' w A n xs := h.stable hR fun b hb _ => ⟨hS b hb, rfl⟩

theorem RdL.addr {X : Type} {R : (Nat → Prop) → World → List Value → X → Prop} {s : Nat} {S : Nat → Prop} {w : World} {A : Option Addr} {n : Nat} {xs : List X}
    (h : RdL R s S w A n xs) {k : Nat} (hk : k < n) : ∃ b o, A = some ⟨b, o, none⟩ ∧ S b ∧ b < w.heap.size := by
  obtain ⟨b, o, h1, h2, h3, _⟩ := h.2 (by omega)
  exact ⟨b, o, h1, h2, h3⟩

theorem RdL.at {X : Type} {R : (Nat → Prop) → World → List Value → X → Prop} {s : Nat} {S : Nat → Prop} {w : World} {b o : Nat} {n : Nat} {xs : List X}
    (h : RdL R s S w (some ⟨b, o, none⟩) n xs) {k : Nat} (hk : k < n) : ∃ (hl : k < xs.length) (cs : List Value), cs.length = s ∧ R S w cs xs[k] ∧ ∀ j v, cs[j]? = some v → w.cell? ⟨b, o + k * s + j, none⟩ = some v := by
  obtain ⟨b', o', hA, _, _, hc⟩ := h.2 (by omega)
  obtain ⟨rfl, rfl⟩ : b = b' ∧ o = o' := by simpa using hA
  have hl : k < xs.length := by rw [h.1]; exact hk
  obtain ⟨cs, h1, h2, h3⟩ := hc k xs[k] (List.getElem?_eq_getElem hl)
  exact ⟨hl, cs, h1, h2, h3⟩

/-- An int. -/
def IntR (_ : Nat → Prop) (_ : World) (cs : List Value) (x : Int) : Prop := cs = [.int .i64 x]
theorem IntR.stable : Stable IntR := fun _ _ _ _ _ _ h _ => h
/-- A uint64. -/
def U64R (_ : Nat → Prop) (_ : World) (cs : List Value) (x : Int) : Prop := cs = [.int .u64 x]
theorem U64R.stable : Stable U64R := fun _ _ _ _ _ _ h _ => h
theorem IntR.one : ∀ S w cs x, IntR S w cs x → ∀ u ∈ cs, u.oneCell' = true := by
  rintro S w cs x rfl u hu
  simp at hu
  subst hu; rfl
theorem U64R.one : ∀ S w cs x, U64R S w cs x → ∀ u ∈ cs, u.oneCell' = true := by
  rintro S w cs x rfl u hu
  simp at hu
  subst hu; rfl

/-! ### Slices of the call's own -/

structure SlTy (P : Program) (T E : TypeId) (z : Value) (size bytes : Nat) : Prop where
  und : P.underlying T = some (.slice E)
  info : (P.info? E).map (fun i => (i.zero, i.size, i.bytes)) = some (some z, size, bytes)
  zsz : z.cells.size = size
  pos : 0 < size

/-- The blocks of S but that of v. -/
def Rest (S : Nat → Prop) (v : Value) (b : Nat) : Prop := S b ∧ some b ≠ v.ownBlock

def OwnL {X : Type} (R : (Nat → Prop) → World → List Value → X → Prop) (E : TypeId) (s base : Nat) (S : Nat → Prop) (w : World) (v : Value) (n : Nat) (xs : List X) : Prop :=
  ∃ css : List (List Value), w.ownsRow base E s v n css.flatten ∧ xs.length = n ∧ css.length = n ∧ (∀ cs ∈ css, cs.length = s) ∧
    ∀ (i : Nat) (cs : List Value) (x : X), css[i]? = some cs → xs[i]? = some x → R (Rest S v) w cs x


section
variable {X : Type} {R : (Nat → Prop) → World → List Value → X → Prop} {E : TypeId} {s base : Nat} {S : Nat → Prop} {w w' : World} {v v' : Value} {n : Nat} {xs : List X}

theorem OwnL.nil_ : OwnL R E s base S w (.slice none 0 0) 0 [] := ⟨[], ⟨by simp, .inl ⟨rfl, rfl⟩⟩, rfl, rfl, by simp, by simp⟩

/-- A new row, made with a length of 0. -/
theorem OwnL.made (cur : Array Value) (cap : Nat) (hb : base ≤ w.heap.size) (hm : cap ≤ maxLen) (hs : cur.size = cap * s) :
    OwnL R E s base S (w.alloc (.cells cur E)) (.slice (some ⟨w.heap.size, 0, none⟩) 0 cap) 0 [] :=
  ⟨[], World.ownsRow_made w cur cap hb hm hs, rfl, rfl, by simp, by simp⟩

/-- Behind whatever leaves all old blocks but perhaps v's own, and v as an owned row. -/
theorem OwnL.keep (hR : Stable R) (h : OwnL R E s base S w v n xs) (hb : Below w.heap.size w w') : OwnL R E s base S w' v n xs := by
  obtain ⟨css, h1, h2, h3, h4, h5⟩ := h
  refine ⟨css, h1.kept (row := none) ⟨hb.os, hb.tape, hb.output, hb.size, fun k hk _ => hb.block k hk⟩ (by cases hv : v.ownBlock <;> simp), h2, h3, h4, fun i cs x hc hx => ?_⟩
  exact hR _ _ _ _ _ _ (h5 i cs x hc hx) fun b hS hlt => ⟨hS, hb.block b hlt⟩

theorem OwnL.alloc (hR : Stable R) (h : OwnL R E s base S w v n xs) (o : Obj) : OwnL R E s base S (w.alloc o) v n xs := h.keep hR ((Below.refl _ _).alloc (Nat.le_refl _) o)

/-- While another slice of the call's own grows. -/
theorem OwnL.other {S' : Nat → Prop} {v2 : Value} (hR : Stable R) (h : OwnL R E s base S w v n xs) (hg : w.grownBy w' v2.ownBlock) (hne : v.ownBlock = none ∨ v.ownBlock ≠ v2.ownBlock)
    (hS : ∀ b, S b → some b ≠ v2.ownBlock) (hS' : ∀ b, S b → b < w.heap.size → S' b) : OwnL R E s base S' w' v n xs := by
  obtain ⟨css, h1, h2, h3, h4, h5⟩ := h
  refine ⟨css, h1.kept hg hne, h2, h3, h4, fun i cs x hc hx => ?_⟩
  exact hR _ _ _ _ _ _ (h5 i cs x hc hx) fun b hb hlt => ⟨⟨hS' b hb.1 hlt, hb.2⟩, hg.block b hlt (hS b hb.1)⟩

theorem flatten_get {α : Type} {s : Nat} : ∀ (css : List (List α)) (_ : ∀ cs ∈ css, cs.length = s) (i : Nat) (cs : List α) (j : Nat), css[i]? = some cs → j < s → css.flatten[i * s + j]? = cs[j]?
  | [], _, i, cs, j, h, _ => by simp at h
  | c :: css, hl, 0, cs, j, h, hj => by
    have hc : c.length = s := hl c (by simp)
    simp at h; subst h
    rw [List.flatten_cons, List.getElem?_append_left (by omega)]; simp
  | c :: css, hl, i + 1, cs, j, h, hj => by
    have hc : c.length = s := hl c (by simp)
    rw [List.flatten_cons, List.getElem?_append_right (by rw [hc, Nat.add_mul]; omega), hc]
    have : (i + 1) * s + j - s = i * s + j := by rw [Nat.add_mul]; omega
    rw [this]
    exact flatten_get css (fun cs h => hl cs (List.mem_cons_of_mem _ h)) i cs j (by simpa using h) hj

theorem OwnL.form (h : OwnL R E s base S w v n xs) : ∃ A c, v = .slice A n c ∧ n ≤ c := by
  obtain ⟨css, h1, _⟩ := h
  rcases h1.2 with ⟨rfl, rfl⟩ | ⟨g, cap, cur, rfl, _, _, hnc, _⟩
  · exact ⟨none, 0, rfl, Nat.le_refl _⟩
  · exact ⟨_, cap, rfl, hnc⟩

/-- As a reading. -/
theorem OwnL.rd {S' : Nat → Prop} (h : OwnL R E s base S w v n xs) (hb : ∀ k, base ≤ k → S' k) (hel : ∀ cs x, R (Rest S v) w cs x → R S' w cs x) : ∃ A c, v = .slice A n c ∧ n ≤ c ∧ RdL R s S' w A n xs := by
  obtain ⟨css, h1, h2, h3, h4, h5⟩ := h
  rcases h1.2 with ⟨rfl, rfl⟩ | ⟨g, cap, cur, rfl, hg, hblk, hnc, hcm, hsz, ht⟩
  · exact ⟨none, 0, rfl, Nat.le_refl _, by rw [List.length_eq_zero_iff.1 h2]; exact RdL.nil⟩
  · refine ⟨_, cap, rfl, hnc, h2, fun _ => ⟨g, 0, rfl, hb g hg, (Array.getElem?_eq_some_iff.1 hblk).1, fun i x hx => ?_⟩⟩
    have hi : i < css.length := by have := (List.getElem?_eq_some_iff.1 hx).1; omega
    refine ⟨css[i], h4 _ (List.getElem_mem _), hel _ _ (h5 i _ x (List.getElem?_eq_getElem hi) hx), fun j u hj => ?_⟩
    have hjs : j < s := by have h6 := (List.getElem?_eq_some_iff.1 hj).1; have h7 := h4 _ (List.getElem_mem hi); omega
    have hf := flatten_get css h4 i css[i] j (List.getElem?_eq_getElem hi) hjs
    have hc := h1.cells (g := g) rfl (i * s + j) u (by rw [hf]; exact hj)
    have ha : (⟨g, 0, none⟩ : Addr).add (i * s + j) = ⟨g, 0 + i * s + j, none⟩ := by unfold Addr.add; split <;> simp_all <;> omega
    rw [ha] at hc
    exact hc
end

section
variable {P : Program} {ops : Array Oper} {rest : List Oper} {o : Oper} {a : Act} {Q : Exit → Act → World → Prop} {w : World}

/-- append(s, x) of one element, that lies in a row: onto a slice of the call's own. -/
theorem wpList_push {X : Type} {R : (Nat → Prop) → World → List Value → X → Prop} (hR : Stable R) {T E : TypeId} {z : Value} {size bytes : Nat} (st : SlTy P T E z size bytes) {s x : Operand}
    (hgd : o.guard = none) (ho : o.op = .call { callee := .builtin .append, args := #[s, x], argTypes := #[T, T] })
    {base n : Nat} {S : Nat → Prop} {v : Value} {xs : List X} (hs : a.eval s = v) (hown : OwnL R E size base S w v n xs)
    {b off c : Nat} {cs : List Value} {y : X} (hx : a.eval x = .slice (some ⟨b, off, none⟩) 1 c) (hcs : cs.length = size) (hcell : ∀ j u, cs[j]? = some u → w.cell? ⟨b, off + j, none⟩ = some u)
    (h1 : ∀ u ∈ cs, u.oneCell' = true) (hy : R (Rest S v) w cs y)
    (hlen : n + 1 ≤ maxLen) (hbytes : (n + 1) * bytes ≤ 140737488355328) (hbase : base ≤ w.heap.size)
    (h' : ∀ A' c' w', n + 1 ≤ c' → OwnL R E size base S w' (.slice A' (n + 1) c') (n + 1) (xs ++ [y]) → w.grownBy w' v.ownBlock → (Value.ownBlock (.slice A' (n + 1) c') = v.ownBlock ∨ Value.ownBlock (.slice A' (n + 1) c') = some w.heap.size) → wpList P ops Q rest (a.put o.dst (.slice A' (n + 1) c')) w') :
    wpList P ops Q (o :: rest) a w := by
  have h : ∀ v' w', OwnL R E size base S w' v' (n + 1) (xs ++ [y]) → w.grownBy w' v.ownBlock → (v'.ownBlock = v.ownBlock ∨ v'.ownBlock = some w.heap.size) → wpList P ops Q rest (a.put o.dst v') w' := fun v' w' e1 e2 e3 => by
    obtain ⟨A, c, rfl, e4⟩ := e1.form
    exact h' A c w' e4 e1 e2 e3
  obtain ⟨i, hi, hz, hsz, hby⟩ := info_parts st.info
  obtain ⟨css, k1, k2, k3, k4, k5⟩ := hown
  have hn0 : 0 < size := st.pos
  refine wpList_append_own_at w hgd s x T ho base E i z size bytes st.und hi hz hsz hby st.zsz hn0 v n css.flatten hs k1 ⟨b, off, none⟩ 1 c cs hx (by omega) (fun j u hj => by rw [Addr.add_lit]; exact hcell j u hj) h1 hlen hbytes hbase ?_
  intro v' w' hown' hg _ hat
  refine h v' w' ⟨css ++ [cs], by simpa using hown', by simp [k2], by simp [k3], ?_, ?_⟩ hg hat
  · intro c' hc'
    rcases List.mem_append.1 hc' with hc' | hc'
    · exact k4 _ hc'
    · rw [List.mem_singleton.1 hc']; exact hcs
  · have hst : ∀ (b : Nat), Rest S v b → b < w.heap.size → Rest S v' b ∧ w'.heap[b]? = w.heap[b]? := fun b hS hlt => by
      refine ⟨⟨hS.1, ?_⟩, hg.block b hlt hS.2⟩
      rcases hat with e | e
      · rw [e]; exact hS.2
      · rw [e]; intro h; injection h with h; omega
    intro i c' y' hc' hy'
    by_cases hin : i < n
    · rw [List.getElem?_append_left (by omega)] at hc' hy'
      exact hR _ _ _ _ _ _ (k5 i c' y' hc' hy') hst
    · have hie : i = n := by
        have := (List.getElem?_eq_some_iff.1 hy').1
        simp [k2] at this; omega
      subst hie
      rw [List.getElem?_append_right (by omega)] at hc' hy'
      simp only [k3, k2, Nat.sub_self, List.getElem?_cons_zero, Option.some.injEq] at hc' hy'
      subst hc'; subst hy'
      exact hR _ _ _ _ _ _ hy hst

/-- append(s, xs...): onto a slice of the call's own. -/
theorem wpList_appL {X : Type} {R : (Nat → Prop) → World → List Value → X → Prop} (hR : Stable R) (hone : ∀ S w cs x, R S w cs x → ∀ u ∈ cs, u.oneCell' = true) {T E : TypeId} {z : Value} {size bytes : Nat} (st : SlTy P T E z size bytes) {s x : Operand}
    (hgd : o.guard = none) (ho : o.op = .call { callee := .builtin .append, args := #[s, x], argTypes := #[T, T] })
    {base n : Nat} {S S0 : Nat → Prop} {v : Value} {xs : List X} (hs : a.eval s = v) (hown : OwnL R E size base S w v n xs)
    {A : Option Addr} {m c : Nat} {ys : List X} (hx : a.eval x = .slice A m c) (hr : RdL R size S0 w A m ys)
    (hy : ∀ cs y, R S0 w cs y → R (Rest S v) w cs y)
    (hlen : n + m ≤ maxLen) (hbytes : (n + m) * bytes ≤ 140737488355328) (hbase : base ≤ w.heap.size)
    (h' : ∀ A' c' w', n + m ≤ c' → OwnL R E size base S w' (.slice A' (n + m) c') (n + m) (xs ++ ys) → w.grownBy w' v.ownBlock → (Value.ownBlock (.slice A' (n + m) c') = v.ownBlock ∨ Value.ownBlock (.slice A' (n + m) c') = some w.heap.size) → wpList P ops Q rest (a.put o.dst (.slice A' (n + m) c')) w') :
    wpList P ops Q (o :: rest) a w := by
  have h : ∀ v' w', OwnL R E size base S w' v' (n + m) (xs ++ ys) → w.grownBy w' v.ownBlock → (v'.ownBlock = v.ownBlock ∨ v'.ownBlock = some w.heap.size) → wpList P ops Q rest (a.put o.dst v') w' := fun v' w' e1 e2 e3 => by
    obtain ⟨A, c, rfl, e4⟩ := e1.form
    exact h' A c w' e4 e1 e2 e3
  obtain ⟨i, hi, hz, hsz, hby⟩ := info_parts st.info
  obtain ⟨css, k1, k2, k3, k4, k5⟩ := hown
  have hn0 : 0 < size := st.pos
  rcases Nat.eq_zero_or_pos m with hm | hm
  · subst hm
    have hys : ys = [] := List.length_eq_zero_iff.1 hr.1
    subst hys
    refine wpList_plain hgd fun K hK => ?_
    have hrun : (Builtin.append_ #[T, T] o.type #[v, .slice A 0 c]).run P w = .ok v w := by
      rcases k1.2 with ⟨rfl, rfl⟩ | ⟨g, cap, cur, rfl, _, _, hnc, _⟩
      · cases A <;> simp [Builtin.append_, run_underlying st.und, sizeOf, typeInfo, hi, Builtin.lenOf, Builtin.firstCells, loadCells, loadCellsFrom]
      · cases A <;> simp [Builtin.append_, run_underlying st.und, sizeOf, typeInfo, hi, Builtin.lenOf, Builtin.firstCells, hnc, storeCells, loadCells, loadCellsFrom]
    unfold Oper.wp execOp
    simp only [ho, resolve, invoke, builtin, Sem.run_bind, Sem.run_pure, Result.andThen_ok, List.map_toArray, List.map_cons, List.map_nil, hs, hx, hrun]
    exact hK _ _ (h v w ⟨css, by simpa using k1, by simpa using k2, by simpa using k3, k4, by simpa using k5⟩ (World.grownBy.refl w _) (.inl rfl))
  · obtain ⟨b, off, rfl, _, _, hc⟩ := hr.2 hm
    have hex : ∃ news : List (List Value), news.length = m ∧ ∀ i cs, news[i]? = some cs → ∃ y, ys[i]? = some y ∧ cs.length = size ∧ R S0 w cs y ∧ ∀ j u, cs[j]? = some u → w.cell? ⟨b, off + i * size + j, none⟩ = some u := by
      have hall : ∀ k, k ≤ m → ∃ news : List (List Value), news.length = k ∧ ∀ i cs, news[i]? = some cs → ∃ y, ys[i]? = some y ∧ cs.length = size ∧ R S0 w cs y ∧ ∀ j u, cs[j]? = some u → w.cell? ⟨b, off + i * size + j, none⟩ = some u := by
        intro k
        induction k with
        | zero => exact fun _ => ⟨[], rfl, by simp⟩
        | succ k ih =>
          intro hk
          obtain ⟨news, hl, hn⟩ := ih (by omega)
          have hky : k < ys.length := by rw [hr.1]; omega
          obtain ⟨cs, e1, e2, e3⟩ := hc k ys[k] (List.getElem?_eq_getElem hky)
          refine ⟨news ++ [cs], by simp [hl], fun i cs' hi' => ?_⟩
          by_cases hik : i < k
          · rw [List.getElem?_append_left (by omega)] at hi'
            exact hn i cs' hi'
          · have : i = k := by
              have := (List.getElem?_eq_some_iff.1 hi').1
              simp [hl] at this; omega
            subst this
            rw [List.getElem?_append_right (by omega)] at hi'
            simp only [hl, Nat.sub_self, List.getElem?_cons_zero, Option.some.injEq] at hi'
            subst hi'
            exact ⟨_, List.getElem?_eq_getElem hky, e1, e2, e3⟩
      exact hall m (Nat.le_refl _)
    obtain ⟨news, hl, hn⟩ := hex
    have hlen1 : ∀ cs ∈ news, cs.length = size := fun cs hcs => by
      obtain ⟨i, hi', rfl⟩ := List.mem_iff_getElem.1 hcs
      obtain ⟨_, _, h2, _⟩ := hn i _ (List.getElem?_eq_getElem hi')
      exact h2
    have hfl : ∀ (l : List (List Value)), (∀ cs ∈ l, cs.length = size) → l.flatten.length = l.length * size := by
      intro l
      induction l with
      | nil => simp
      | cons c l ih =>
        intro hh
        rw [List.flatten_cons, List.length_append, ih (fun cs h => hh cs (List.mem_cons_of_mem _ h)), hh c (by simp), List.length_cons, Nat.add_mul]; omega
    refine wpList_append_own_at w hgd s x T ho base E i z size bytes st.und hi hz hsz hby st.zsz hn0 v n css.flatten hs k1 ⟨b, off, none⟩ m c news.flatten hx (by rw [hfl news hlen1, hl]) ?_ ?_ hlen hbytes hbase ?_
    · intro j u hj
      rw [Addr.add_lit]
      have hjl : j < news.length * size := by rw [← hfl news hlen1]; exact (List.getElem?_eq_some_iff.1 hj).1
      have hq : j / size < news.length := Nat.div_lt_of_lt_mul (by rw [Nat.mul_comm]; exact hjl)
      have hjm : j = (j / size) * size + j % size := by rw [Nat.mul_comm]; exact (Nat.div_add_mod j size).symm
      obtain ⟨y, _, _, _, h4⟩ := hn (j / size) _ (List.getElem?_eq_getElem hq)
      have hf := flatten_get news hlen1 (j / size) _ (j % size) (List.getElem?_eq_getElem hq) (Nat.mod_lt _ hn0)
      rw [← hjm] at hf
      rw [hf] at hj
      have h5 := h4 _ u hj
      rw [show off + j / size * size + j % size = off + j by omega] at h5
      exact h5
    · intro u hu
      obtain ⟨cs, hcs, huc⟩ := List.mem_flatten.1 hu
      obtain ⟨i, hi', rfl⟩ := List.mem_iff_getElem.1 hcs
      obtain ⟨y, _, _, h3, _⟩ := hn i _ (List.getElem?_eq_getElem hi')
      exact hone _ _ _ _ h3 u huc
    · intro v' w' hown' hg _ hat
      have hst : ∀ (b : Nat), Rest S v b → b < w.heap.size → Rest S v' b ∧ w'.heap[b]? = w.heap[b]? := fun b hS hlt => by
        refine ⟨⟨hS.1, ?_⟩, hg.block b hlt hS.2⟩
        rcases hat with e | e
        · rw [e]; exact hS.2
        · rw [e]; intro h; injection h with h; omega
      refine h v' w' ⟨css ++ news, by simpa using hown', by simp [k2, hr.1], by simp [k3, hl], ?_, ?_⟩ hg hat
      · intro c' hc'
        rcases List.mem_append.1 hc' with hc' | hc'
        · exact k4 _ hc'
        · exact hlen1 _ hc'
      · intro i c' y' hc' hy'
        by_cases hin : i < n
        · rw [List.getElem?_append_left (by omega)] at hc' hy'
          exact hR _ _ _ _ _ _ (k5 i c' y' hc' hy') hst
        · rw [List.getElem?_append_right (by omega)] at hc' hy'
          rw [k3] at hc'; rw [k2] at hy'
          obtain ⟨y, e1, _, e3, _⟩ := hn _ _ hc'
          rw [e1] at hy'; injection hy' with hy'; subst hy'
          exact hR _ _ _ _ _ _ (hy _ _ e3) hst
end

theorem OwnL.lt {X : Type} {R : (Nat → Prop) → World → List Value → X → Prop} {E : TypeId} {s base : Nat} {S : Nat → Prop} {w : World} {v : Value} {n : Nat} {xs : List X} (h : OwnL R E s base S w v n xs) :
    ∀ k, v.ownBlock = some k → base ≤ k ∧ k < w.heap.size := by
  obtain ⟨css, h1, _⟩ := h
  exact h1.lt
theorem OwnL.rest {X : Type} {R : (Nat → Prop) → World → List Value → X → Prop} {E : TypeId} {s base : Nat} {S : Nat → Prop} {w : World} {v : Value} {n : Nat} {xs : List X} (h : OwnL R E s base S w v n xs) {b : Nat} (hS : S b) (hb : w.heap.size ≤ b) : Rest S v b :=
  ⟨hS, fun e => by have := (h.lt b e.symm).2; omega⟩

section
variable {P : Program} {ops : Array Oper} {rest : List Oper} {o : Oper} {a : Act} {Q : Exit → Act → World → Prop} {w : World}
/-- make([]T, 0, n). -/
theorem wpList_make0 {X : Type} (R : (Nat → Prop) → World → List Value → X → Prop) (S : Nat → Prop) {T E : TypeId} {z : Value} {size bytes : Nat} (st : SlTy P T E z size bytes) {l c : Operand}
    (hgd : o.guard = none) (ho : o.op = .makeSlice T l c) {base : Nat} {kl kc : IntKind} {C : Int} (hl : a.eval l = .int kl 0) (hc : a.eval c = .int kc C)
    (n : Nat) (hC : C = (n : Int)) (hbytes : bytes * n ≤ 281474976710656) (hn : n ≤ maxLen) (hbase : base ≤ w.heap.size)
    (h : ∀ (y : Later w.heap.size w), w.heap.size < y.to.heap.size → OwnL R E size base S y.to (.slice (some ⟨w.heap.size, 0, none⟩) 0 n) 0 [] → wpList P ops Q rest (a.put o.dst (.slice (some ⟨w.heap.size, 0, none⟩) 0 n)) y.to) :
    wpList P ops Q (o :: rest) a w := by
  obtain ⟨i, hi, hz, hsz, hby⟩ := info_parts st.info
  subst hby
  refine wpList_make_own w hgd l c T ho base E i z size st.und hi hz hsz kl kc C n hl hc hC hbytes hn hbase ?_
  intro w' hown hg
  have hlt := (hown.lt w.heap.size rfl).2
  obtain ⟨y, rfl⟩ := Later.of_grown hg
  exact h y hlt ⟨[], hown, rfl, rfl, by simp, by simp⟩

/-- append(nil, xs...): a copy. -/
theorem wpList_clone {X : Type} {R : (Nat → Prop) → World → List Value → X → Prop} (hR : Stable R) (hone : ∀ S w cs x, R S w cs x → ∀ u ∈ cs, u.oneCell' = true) {T E : TypeId} {z : Value} {size bytes : Nat} (st : SlTy P T E z size bytes) {x : Operand}
    (hgd : o.guard = none) (ho : o.op = .call { callee := .builtin .append, args := #[.const (.slice none 0 0), x], argTypes := #[T, T] })
    {S0 S' : Nat → Prop} {A : Option Addr} {m c : Nat} {ys : List X} (hx : a.eval x = .slice A m c) (hr : RdL R size S0 w A m ys) (hb : ∀ k, w.heap.size ≤ k → S' k)
    (hel : ∀ w' cs x, R S0 w' cs x → R S' w' cs x) (hlen : m ≤ maxLen) (hbytes : m * bytes ≤ 140737488355328)
    (h : ∀ A' c' (y : Later w.heap.size w), m ≤ c' → RdL R size S' y.to A' m ys → wpList P ops Q rest (a.put o.dst (.slice A' m c')) y.to) :
    wpList P ops Q (o :: rest) a w := by
  refine wpList_appL hR hone st hgd ho (base := w.heap.size) (S := S0) (n := 0) (v := .slice none 0 0) (xs := []) rfl OwnL.nil_ hx hr (fun cs y hy => hR _ _ _ _ _ _ hy fun b hb _ => ⟨⟨hb, by simp [Value.ownBlock]⟩, rfl⟩) (by omega) (by rw [Nat.zero_add]; exact hbytes) (Nat.le_refl _) ?_
  intro A' c' w' hc hown hg _
  obtain ⟨y, rfl⟩ := Later.of_grown hg
  obtain ⟨A2, c2, e, _, hrd⟩ := hown.rd (S' := S') hb fun cs x hx => hel _ _ _ (hR _ _ _ _ _ _ hx fun b hb _ => ⟨hb.1, rfl⟩)
  simp only [Nat.zero_add, List.nil_append, Value.slice.injEq] at e hrd hc
  obtain ⟨rfl, _, rfl⟩ := e
  have := h A' c' y hc hrd
  simpa only [Nat.zero_add] using this
end

end Go.Cib
