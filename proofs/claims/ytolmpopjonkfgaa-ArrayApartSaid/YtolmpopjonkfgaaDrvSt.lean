/-
  A drive's state as lists, and how it lies in memory.
-/
import Derived.Test.YtolmpopjonkfgaaDrive3
import Derived.Test.YtolmpopjonkfgaaLibMap
import Derived.Deep.MidRow
import Derived.Deep.AppendLies
set_option linter.unusedSimpArgs false
set_option linter.unusedVariables false
namespace Go.Proofs.Ytolmpopjonkfgaa
open Go.RowKit Go.Cib
attribute [local go_sem] cell_set Later.cell Later.frozen Grw.cell Grw.frozen

/-! ### Lists of rows -/
theorem flatten_set {α : Type} {s : Nat} : ∀ (css : List (List α)) (_ : ∀ cs ∈ css, cs.length = s) (i : Nat) (cs : List α), i < css.length → cs.length = s → (css.set i cs).flatten = css.flatten.take (i * s) ++ cs ++ css.flatten.drop (i * s + s)
  | [], _, i, cs, h, _ => by simp at h
  | c :: css, hl, 0, cs, _, hc => by
    have h1 : c.length = s := hl c (by simp)
    simp [← h1]
  | c :: css, hl, i + 1, cs, hi, hc => by
    have h1 : c.length = s := hl c (by simp)
    have ih := flatten_set css (fun x hx => hl x (List.mem_cons_of_mem _ hx)) i cs (by simpa using hi) hc
    have e1 : (i + 1) * s = c.length + i * s := by rw [Nat.add_mul]; omega
    have e2 : c.length + i * s + s = c.length + (i * s + s) := by omega
    rw [List.set_cons_succ, List.flatten_cons, ih, List.flatten_cons, e1, e2, List.take_length_add_append, List.drop_length_add_append]
    simp
theorem flatten_len {α : Type} {s : Nat} : ∀ (css : List (List α)) (_ : ∀ cs ∈ css, cs.length = s), css.flatten.length = css.length * s
  | [], _ => by simp
  | c :: css, hl => by
    rw [List.flatten_cons, List.length_append, flatten_len css (fun x hx => hl x (List.mem_cons_of_mem _ hx)), hl c (by simp), List.length_cons, Nat.add_mul]; omega
/-- Cells from o on become vs. -/
def setMany {α : Type} : List α → Nat → List α → List α
  | xs, _, [] => xs
  | xs, o, v :: vs => setMany (xs.set o v) (o + 1) vs
theorem setMany_eq {α : Type} : ∀ (vs xs : List α) (o : Nat), o + vs.length ≤ xs.length → setMany xs o vs = xs.take o ++ vs ++ xs.drop (o + vs.length)
  | [], xs, o, h => by simp [setMany]
  | v :: vs, xs, o, h => by
    simp only [List.length_cons] at h
    rw [setMany, setMany_eq vs (xs.set o v) (o + 1) (by simp; omega)]
    have e1 : (xs.set o v).take (o + 1) = xs.take o ++ [v] := by
      rw [List.take_add_one, List.getElem?_set_self (by omega), List.take_set_of_le (Nat.le_refl _)]; rfl
    rw [e1, List.drop_set_of_lt (by omega)]
    simp [show o + 1 + vs.length = o + (vs.length + 1) by omega]

/-- Rows of a block of the call's own: one row is laid anew. -/
theorem ownsRow_setCells {base : Nat} {e : TypeId} {size g cap n : Nat} : ∀ (vs : List Value) (o : Nat) (xs : List Value) (w : World), w.ownsRow base e size (.slice (some ⟨g, 0, none⟩) n cap) n xs →
    (w.setCells g o vs).ownsRow base e size (.slice (some ⟨g, 0, none⟩) n cap) n (setMany xs o vs) ∧ w.grownBy (w.setCells g o vs) (some g)
  | [], o, xs, w, h => ⟨h, ⟨rfl, rfl, rfl, Nat.le_refl _, fun _ _ _ => rfl⟩⟩
  | v :: vs, o, xs, w, h => by
    obtain ⟨h1, h2⟩ := h.stored o v
    obtain ⟨h3, h4⟩ := ownsRow_setCells vs (o + 1) _ _ h1
    exact ⟨h3, ⟨h4.os.trans h2.os, h4.tape.trans h2.tape, h4.output.trans h2.output, Nat.le_trans h2.size h4.size, fun k hk hn => (h4.block k (by simpa using hk) hn).trans (h2.block k hk hn)⟩⟩
theorem ownsRow_row {base : Nat} {e : TypeId} {size g cap n : Nat} {css : List (List Value)} {w : World} (h : w.ownsRow base e size (.slice (some ⟨g, 0, none⟩) n cap) n css.flatten) (hl : ∀ cs ∈ css, cs.length = size) {i : Nat} (hi : i < n) (hn : css.length = n) {cs : List Value} (hc : cs.length = size) :
    (w.setCells g (i * size) cs).ownsRow base e size (.slice (some ⟨g, 0, none⟩) n cap) n (css.set i cs).flatten := by
  have h1 := (ownsRow_setCells cs (i * size) _ w h).1
  have hlen := flatten_len css hl
  have : i * size + size ≤ css.flatten.length := by
    rw [hlen, hn]
    have : (i + 1) * size ≤ n * size := Nat.mul_le_mul_right _ hi
    rw [Nat.add_mul] at this; omega
  rw [setMany_eq _ _ _ (by omega), hc] at h1
  rw [flatten_set css hl i cs (by omega) hc]
  exact h1
theorem ownsRow_range {base : Nat} {e : TypeId} {size g cap n : Nat} {css : List (List Value)} {w : World} (h : w.ownsRow base e size (.slice (some ⟨g, 0, none⟩) n cap) n css.flatten) (hl : ∀ cs ∈ css, cs.length = size) {i : Nat} {cs : List Value} (hi : css[i]? = some cs) (hn : css.length = n) : w.rangeAt g (i * size) cs := by
  have hil := (List.getElem?_eq_some_iff.1 hi).1
  have hcl : cs.length = size := hl cs (List.mem_of_getElem? hi)
  intro j v hj
  have hjl := (List.getElem?_eq_some_iff.1 hj).1
  have : i * size + j < n * size := by
    have : (i + 1) * size ≤ n * size := Nat.mul_le_mul_right _ (by omega)
    rw [Nat.add_mul] at this; omega
  rw [h.cellAt _ this, flatten_get css hl i cs j hi (by omega), hj]
theorem ownsRow_there {base : Nat} {e : TypeId} {size g cap n : Nat} {xs : List Value} {w : World} (h : w.ownsRow base e size (.slice (some ⟨g, 0, none⟩) n cap) n xs) {o k : Nat} (hi : o + k ≤ n * size) : w.there g o k := by
  intro j hj
  refine ⟨?_, h.frozenAt _⟩
  rw [h.cellAt _ (by omega)]
  have := h.1
  rw [List.getElem?_eq_getElem (by omega)]; rfl

/-! ### The state -/
structure DSt where
  stored : List (List Int)
  rotten : List Bool
  cache : List (Int × List Int)
  dead : Bool

def secCells (x : List Int) : List Value := x.map (Value.int .u8)
def waitCells (p : Int × List Int) : List Value := .int .i64 p.1 :: secCells p.2
/-- Where the last write of a place waits. -/
def lastIx : List (Int × List Int) → Int → Option Nat
  | [], _ => none
  | p :: c, k => match lastIx c k with
    | some i => some (i + 1)
    | none => if p.1 = k then some 0 else none
theorem lastIx_snoc (c : List (Int × List Int)) (p : Int × List Int) (k : Int) : lastIx (c ++ [p]) k = if p.1 = k then some c.length else lastIx c k := by
  induction c with
  | nil => by_cases h : p.1 = k <;> simp [lastIx, h]
  | cons q c ih =>
    rw [List.cons_append, lastIx, ih]
    by_cases h : p.1 = k
    · simp [h]
    · simp [h, lastIx]
theorem lastIx_some : ∀ {c : List (Int × List Int)} {k : Int} {i : Nat}, lastIx c k = some i → ∃ s, c[i]? = some (k, s)
  | [], k, i, h => by simp [lastIx] at h
  | p :: c, k, i, h => by
    rw [lastIx] at h
    cases h1 : lastIx c k with
    | some j =>
      rw [h1] at h
      simp only [Option.some.injEq] at h
      subst h
      obtain ⟨s, hs⟩ := lastIx_some h1
      exact ⟨s, by simpa using hs⟩
    | none =>
      rw [h1] at h
      by_cases h2 : p.1 = k
      · simp only [h2, ↓reduceIte, Option.some.injEq] at h
        subst h; subst h2
        exact ⟨p.2, rfl⟩
      · simp [h2] at h
/-- What a place is by its last write. -/
def DSt.seen (st : DSt) (k : Nat) : List Int := match lastIx st.cache k with
  | some i => ((st.cache[i]?).map (·.2)).getD []
  | none => (st.stored[k]?).getD []
/-- The writes that are kept, stored. -/
def putL (keep : Nat → Bool) : Nat → List (Int × List Int) → List (List Int) → List (List Int)
  | _, [], xs => xs
  | i, p :: c, xs => putL keep (i + 1) c (if keep i then xs.set p.1.toNat p.2 else xs)
def freshL (keep : Nat → Bool) : Nat → List (Int × List Int) → List Bool → List Bool
  | _, [], xs => xs
  | i, p :: c, xs => freshL keep (i + 1) c (if keep i then xs.set p.1.toNat false else xs)
theorem putL_snoc (keep : Nat → Bool) : ∀ (c : List (Int × List Int)) (i : Nat) (p : Int × List Int) (xs : List (List Int)), putL keep i (c ++ [p]) xs = if keep (i + c.length) then (putL keep i c xs).set p.1.toNat p.2 else putL keep i c xs
  | [], i, p, xs => by simp [putL]
  | q :: c, i, p, xs => by
    rw [List.cons_append, putL, putL_snoc keep c, putL, List.length_cons, show i + 1 + c.length = i + (c.length + 1) by omega]
theorem freshL_snoc (keep : Nat → Bool) : ∀ (c : List (Int × List Int)) (i : Nat) (p : Int × List Int) (xs : List Bool), freshL keep i (c ++ [p]) xs = if keep (i + c.length) then (freshL keep i c xs).set p.1.toNat false else freshL keep i c xs
  | [], i, p, xs => by simp [freshL]
  | q :: c, i, p, xs => by
    rw [List.cons_append, freshL, freshL_snoc keep c, freshL, List.length_cons, show i + 1 + c.length = i + (c.length + 1) by omega]
theorem putL_len (keep : Nat → Bool) : ∀ (c : List (Int × List Int)) (i : Nat) (xs : List (List Int)), (putL keep i c xs).length = xs.length
  | [], i, xs => rfl
  | q :: c, i, xs => by rw [putL, putL_len keep c]; split <;> simp
theorem freshL_len (keep : Nat → Bool) : ∀ (c : List (Int × List Int)) (i : Nat) (xs : List Bool), (freshL keep i c xs).length = xs.length
  | [], i, xs => rfl
  | q :: c, i, xs => by rw [freshL, freshL_len keep c]; split <;> simp
theorem putL_all (keep : Nat → Bool) {Q : List Int → Prop} : ∀ (c : List (Int × List Int)) (i : Nat) (xs : List (List Int)), (∀ p ∈ c, Q p.2) → (∀ x ∈ xs, Q x) → ∀ x ∈ putL keep i c xs, Q x
  | [], i, xs, _, h, x, hx => h x hx
  | q :: c, i, xs, hc, h, x, hx => by
    refine putL_all keep c (i + 1) _ (fun p hp => hc p (List.mem_cons_of_mem _ hp)) ?_ x hx
    intro y hy
    split at hy
    · rcases List.mem_or_eq_of_mem_set hy with h1 | h1
      · exact h y h1
      · rw [h1]; exact hc q (by simp)
    · exact h y hy
def DSt.settle (st : DSt) (keep : Nat → Bool) : DSt := ⟨putL keep 0 st.cache st.stored, freshL keep 0 st.cache st.rotten, [], st.dead⟩
def DSt.write (st : DSt) (k : Int) (s : List Int) : DSt := { st with cache := st.cache ++ [(k, s)] }
def DSt.new (n : Nat) : DSt := ⟨List.replicate n (List.replicate 64 0), List.replicate n false, [], false⟩

/-- A state that can be: n sectors. -/
structure DSt.ok (st : DSt) (n : Nat) : Prop where
  sl : st.stored.length = n
  rl : st.rotten.length = n
  s64 : ∀ x ∈ st.stored, x.length = 64
  c64 : ∀ p ∈ st.cache, p.2.length = 64
  cat : ∀ p ∈ st.cache, 0 ≤ p.1 ∧ p.1 < n

theorem DSt.ok.write {st : DSt} {n : Nat} (h : st.ok n) {k : Int} {s : List Int} (hs : s.length = 64) (hk : 0 ≤ k ∧ k < n) : (st.write k s).ok n :=
  ⟨h.sl, h.rl, h.s64, fun p hp => by
    rcases List.mem_append.1 hp with h1 | h1
    · exact h.c64 p h1
    · simp at h1; subst h1; exact hs, fun p hp => by
    rcases List.mem_append.1 hp with h1 | h1
    · exact h.cat p h1
    · simp at h1; subst h1; exact hk⟩
theorem DSt.ok.settle {st : DSt} {n : Nat} (h : st.ok n) (keep : Nat → Bool) : (st.settle keep).ok n :=
  ⟨by simp [DSt.settle, putL_len, h.sl], by simp [DSt.settle, freshL_len, h.rl], putL_all keep (Q := fun x => x.length = 64) _ _ _ h.c64 h.s64, by simp [DSt.settle], by simp [DSt.settle]⟩
theorem DSt.ok.new (n : Nat) : (DSt.new n).ok n := ⟨by simp [DSt.new], by simp [DSt.new], by simp [DSt.new], by simp [DSt.new], by simp [DSt.new]⟩
theorem DSt.ok.seen {st : DSt} {n : Nat} (h : st.ok n) {k : Nat} (hk : k < n) : (st.seen k).length = 64 := by
  unfold DSt.seen
  cases h1 : lastIx st.cache k with
  | some i =>
    obtain ⟨s, hs⟩ := lastIx_some h1
    simpa [hs] using h.c64 _ (List.mem_of_getElem? hs)
  | none =>
    have hl := h.sl
    rw [show st.stored[k]? = some (st.stored[k]'(by omega)) from List.getElem?_eq_getElem (by omega)]
    exact h.s64 _ (List.getElem_mem _)
theorem DSt.seen_write {st : DSt} {k : Int} {s : List Int} {j : Nat} : (st.write k s).seen j = if k = j then s else st.seen j := by
  unfold DSt.seen DSt.write
  simp only [lastIx_snoc]
  by_cases h : k = j
  · simp [h]
  · simp only [h, ↓reduceIte]
    cases h1 : lastIx st.cache j with
    | none => rfl
    | some i =>
      obtain ⟨s, hs⟩ := lastIx_some h1
      have := (List.getElem?_eq_some_iff.1 hs).1
      simp only [List.getElem?_append_left this]

/-! ### In memory -/
structure DrvB (w : World) (p n sb sc rb rc : Nat) (A : Option Addr) (cc mb : Nat) (st : DSt) : Prop where
  ok : st.ok n
  n1 : 1 ≤ n
  n600 : n ≤ 600
  box : BoxAt w p (drvCells (some ⟨sb, 0, none⟩) n sc (some ⟨rb, 0, none⟩) n rc A st.cache.length cc mb st.dead)
  so : w.ownsRow 0 94 64 (.slice (some ⟨sb, 0, none⟩) n sc) n (st.stored.map secCells).flatten
  ro : w.ownsRow 0 4 1 (.slice (some ⟨rb, 0, none⟩) n rc) n (st.rotten.map Value.bool)
  co : w.ownsRow 0 96 65 (.slice A st.cache.length cc) st.cache.length (st.cache.map waitCells).flatten
  ma : ∃ es, MapAt (Value.int .i64) w mb es ∧ ∀ k : Int, mlook es k = (lastIx st.cache k).map fun i : Nat => Value.int .i64 (i : Int)
  ps : p ≠ sb
  pr : p ≠ rb
  pm : p ≠ mb
  sr : sb ≠ rb
  sm : sb ≠ mb
  rm : rb ≠ mb
  pc : (Value.slice A st.cache.length cc).ownBlock ≠ some p
  sc : (Value.slice A st.cache.length cc).ownBlock ≠ some sb
  rc : (Value.slice A st.cache.length cc).ownBlock ≠ some rb
  mc : (Value.slice A st.cache.length cc).ownBlock ≠ some mb

/-- A drive of n sectors in state st, at p; its blocks are F. -/
def DrvAt (F : Nat → Prop) (w : World) (p n : Nat) (st : DSt) : Prop := ∃ sb sc rb rc A cc mb, DrvB w p n sb sc rb rc A cc mb st ∧ F p ∧ F sb ∧ F rb ∧ F mb ∧ (∀ k, (Value.slice A st.cache.length cc).ownBlock = some k → F k) ∧ ∀ k, F k → k < w.heap.size

theorem ownsRow_keep {w w' : World} {base : Nat} {e : TypeId} {size : Nat} {v : Value} {n : Nat} {xs : List Value} (h : w.ownsRow base e size v n xs) (hk : ∀ k, v.ownBlock = some k → w'.heap[k]? = w.heap[k]?) : w'.ownsRow base e size v n xs := by
  rcases h with ⟨h1, h2 | ⟨g, cap, cur, rfl, h3, h4, h5⟩⟩
  · exact ⟨h1, .inl h2⟩
  · exact ⟨h1, .inr ⟨g, cap, cur, rfl, h3, (hk g rfl).trans h4, h5⟩⟩

theorem DrvB.keep {w w' : World} {p n sb sc rb rc : Nat} {A : Option Addr} {cc mb : Nat} {st : DSt} (h : DrvB w p n sb sc rb rc A cc mb st)
    (h1 : w'.heap[p]? = w.heap[p]?) (h2 : w'.heap[sb]? = w.heap[sb]?) (h3 : w'.heap[rb]? = w.heap[rb]?) (h4 : w'.heap[mb]? = w.heap[mb]?) (h5 : ∀ k, (Value.slice A st.cache.length cc).ownBlock = some k → w'.heap[k]? = w.heap[k]?) : DrvB w' p n sb sc rb rc A cc mb st :=
  { h with box := h.box.keep h1, so := ownsRow_keep h.so (by rintro k ⟨⟩; exact h2), ro := ownsRow_keep h.ro (by rintro k ⟨⟩; exact h3), co := ownsRow_keep h.co h5, ma := by obtain ⟨es, h6, h7⟩ := h.ma; exact ⟨es, h6.keep h4, h7⟩ }
theorem DrvAt.keep {F G : Nat → Prop} {w w' : World} {p n : Nat} {st : DSt} (h : DrvAt F w p n st) (hk : Keep G w w') (hd : ∀ k, F k → ¬ G k) : DrvAt F w' p n st := by
  obtain ⟨sb, sc, rb, rc, A, cc, mb, hb, f1, f2, f3, f4, f5, lt⟩ := h
  have hh : ∀ k, F k → w'.heap[k]? = w.heap[k]? := fun k hf => hk.block k (lt k hf) (hd k hf)
  exact ⟨sb, sc, rb, rc, A, cc, mb, hb.keep (hh _ f1) (hh _ f2) (hh _ f3) (hh _ f4) (fun k hk => hh _ (f5 k hk)), f1, f2, f3, f4, f5, fun k hf => Nat.lt_of_lt_of_le (lt k hf) hk.size⟩
theorem DrvAt.below {F : Nat → Prop} {w w' : World} {p n : Nat} {st : DSt} (h : DrvAt F w p n st) (hk : Below w.heap.size w w') : DrvAt F w' p n st := h.keep (Keep.of_below (F := fun _ => False) hk) (fun _ _ h => h)
theorem DrvAt.ok {F : Nat → Prop} {w : World} {p n : Nat} {st : DSt} (h : DrvAt F w p n st) : st.ok n := by
  obtain ⟨sb, sc, rb, rc, A, cc, mb, hb, _⟩ := h; exact hb.ok
theorem DrvAt.lt {F : Nat → Prop} {w : World} {p n : Nat} {st : DSt} (h : DrvAt F w p n st) {k : Nat} (hk : F k) : k < w.heap.size := by
  obtain ⟨sb, sc, rb, rc, A, cc, mb, hb, _, _, _, _, _, lt⟩ := h; exact lt k hk
theorem DrvAt.box {F : Nat → Prop} {w : World} {p n : Nat} {st : DSt} (h : DrvAt F w p n st) : ∃ sb sc rb rc A cc mb, Hid (BoxAt w p (drvCells (some ⟨sb, 0, none⟩) n sc (some ⟨rb, 0, none⟩) n rc A st.cache.length cc mb st.dead)) := by
  obtain ⟨sb, sc, rb, rc, A, cc, mb, hb, _⟩ := h; exact ⟨sb, sc, rb, rc, A, cc, mb, Lib.hid hb.box⟩

/-- A call changed the drive. -/
def Upd (F : Nat → Prop) (w w' : World) (p n : Nat) (st' : DSt) : Prop := ∃ F', DrvAt F' w' p n st' ∧ (∀ k, F' k → k < w.heap.size → F k) ∧ Keep F w w'
end Go.Proofs.Ytolmpopjonkfgaa
