/-
  DriveKeeps, walked.
  Arguments as readings; the last step of a law's proof.
  Puts and bools among the arguments.
  A geometry among the arguments; bounds of whole numbers.
  Rot, Rotten.
  DriveRots, walked.
  What a drive does, whatever it is asked: Stored; Write, Rot, Flush, Rotten of any drive.
  Copy.
  The drive: Rot and Flush, whatever is asked; Rotten of a dead drive.
  Drives side by side: how they lie.
  Drives side by side: one drive.
  Drives side by side: what changes one; how many answers are so.
  Drives side by side: what one is asked; how many aren't dead; all flushed.
  Drives side by side: Flush.
  Drives side by side: Crash, PutRow.
  Drives side by side: Row.
  Drives side by side: New.
  The document's drive: its state as lists, in memory; New, has, Fail, Replace.
  Drives side by side: Copy.
  Drives side by side: the example of the page.
  sync.Once: done for the first time, by one goroutine, the lock free: the function is called in between; done already: nothing changes.
-/
import Derived.Test.YtihnlhfngmbglaaGreatLg2
import Derived.Test.YtihnlhfngmbglaaGreatLg1
import Derived.ProofKit
import Derived.OpenShut
import Derived.Deep.Slices
import Derived.Deep.Fields
import Derived.Carry
import Derived.ChangeSame
import Derived.Deep.LoopGhost
import Derived.Maps.RangeWalk
import Derived.Test.YtihnlhfngmbglaaGreatRows
import Derived.Defers
import Derived.Laws.Pointers
import Derived.Laws.LoneSync
import Derived.RegionTactic
import Derived.RegionCalls
import Derived.ChangeAlike
import Derived.Laws.NewBlocks
set_option linter.unusedSimpArgs false
set_option linter.unusedVariables false
namespace Go.Proofs.YtihnlhfngmbglaaGreat
open Go.RowKit Go.Cib
attribute [local go_sem] cell_set Later.cell Later.frozen Grw.cell Grw.frozen
section

theorem run_min_as (ts : Array TypeId) (t : TypeId) (x y : Int) (w : World) : (Builtin.min_ ts t #[.int .i64 x, .int .i64 y]).run Tryz.prog w = .ok (.int .i64 (min x y)) w := by
  rw [run_min_int2, show (if y < x then y else x) = min x y by omega]
theorem run_max_as (ts : Array TypeId) (t : TypeId) (x y : Int) (w : World) : (Builtin.max_ ts t #[.int .i64 x, .int .i64 y]).run Tryz.prog w = .ok (.int .i64 (max x y)) w := by
  rw [run_max_int2]
  congr 2
  omega
attribute [local go_sem ↓] run_min_as run_max_as

/-- A put: a place and a byte. -/
def PutR (_ : Nat → Prop) (_ : World) (cs : List Value) (x : Int × Int) : Prop := cs = [.int .i64 x.1, .int .u8 x.2]
theorem PutR.stable : Stable PutR := fun _ _ _ _ _ _ h _ => h

/-- In the midst of a law: what was noted is hl, what the drive's sectors are is sl. -/
structure Mid (w : World) (F : Nat → Prop) (wr : World) (p n hb : Nat) (st : DSt) (hl sl : List Int) : Prop where
  own : Own w F wr
  drv : DrvAt F wr p n st
  live : st.dead = false
  had : BoxAt wr hb ((hl.map (Value.int .u8)).toArray)
  len : hl.length = n
  len2 : sl.length = n
  out : ¬ F hb
  new : w.heap.size ≤ hb
  sees : ∀ k (h : k < n), st.seen k = rep (sl[k]'(by omega))

theorem Mid.later {w w1 w2 : World} {F : Nat → Prop} {p n hb : Nat} {st : DSt} {hl sl : List Int} (h : Mid w F w1 p n hb st hl sl) (hb2 : Below w1.heap.size w1 w2) : Mid w F w2 p n hb st hl sl :=
  { h with own := h.own.later hb2, drv := h.drv.below hb2, had := h.had.below hb2 }
theorem Mid.upd {w w1 w2 : World} {F F' : Nat → Prop} {p n hb : Nat} {st st' : DSt} {hl sl sl' : List Int} (h : Mid w F w1 p n hb st hl sl) (hD : DrvAt F' w2 p n st') (hF : ∀ k, F' k → k < w1.heap.size → F k) (hK : Keep F w1 w2) (hd : st'.dead = false)
    (h2 : sl'.length = n) (hs : ∀ k (h : k < n), st'.seen k = rep (sl'[k]'(by omega))) : Mid w F' w2 p n hb st' hl sl' :=
  ⟨h.own.upd hF hK, hD, hd, h.had.keeps hK h.out, h.len, h2, not_new hF h.had.lt h.out, h.new, hs⟩
theorem Mid.write {w w1 w2 : World} {F F' : Nat → Prop} {p n hb : Nat} {st : DSt} {hl sl : List Int} (h : Mid w F w1 p n hb st hl sl) {k : Nat} (hk : k < n) {z : Int} (hD : DrvAt F' w2 p n (st.write k (rep z))) (hF : ∀ k, F' k → k < w1.heap.size → F k) (hK : Keep F w1 w2) :
    Mid w F' w2 p n hb (st.write k (rep z)) hl (sl.set k z) := by
  refine h.upd hD hF hK h.live (by simp [h.len2]) (fun j hj => ?_)
  rw [DSt.seen_write]
  by_cases e : k = j
  · subst e; simp
  · have : ¬ (k : Int) = j := by omega
    simp [this, List.getElem_set_ne e, h.sees j hj]
theorem Mid.flush {w w1 w2 : World} {F F' : Nat → Prop} {p n hb : Nat} {st : DSt} {hl sl : List Int} (h : Mid w F w1 p n hb st hl sl) (hD : DrvAt F' w2 p n (st.settle fun _ => true)) (hF : ∀ k, F' k → k < w1.heap.size → F k) (hK : Keep F w1 w2) :
    Mid w F' w2 p n hb (st.settle fun _ => true) hl sl :=
  h.upd hD hF hK h.live h.len2 (fun j hj => (h.drv.ok.seen_flush hj).trans (h.sees j hj))
end
end Go.Proofs.YtihnlhfngmbglaaGreat
set_option linter.unusedSimpArgs false
set_option linter.unusedVariables false
namespace Go.Cib
open Go.RowKit Go.ChangeShapes Go.WideShapes Go.Deep

section
variable {P : Program} {X : Type}

/-- What reads as data of type t reads by R. -/
def Opens (P : Program) (t : TypeId) (R : (Nat → Prop) → World → List Value → X → Prop) (s : Nat) : Prop :=
  P.cellsOf t = s ∧ 0 < s ∧ ∀ (H : Type) (enc : TypeId × Value → H) (w : World) (base : Nat) (spare : Nat → Bool) (held : Bool) (fuel : Nat) (cs : List Value) (x : DataW H × List MemPlace),
    cs.length = s → DataW.trod enc P w base spare held fuel t cs = some x → ∃ y : X, R (fun _ => True) w cs y

theorem opens_slice {R : (Nat → Prop) → World → List Value → X → Prop} {t e : TypeId} {s : Nat} (ht : P.underlying t = some (.slice e)) (ho : Opens P e R s) {H : Type} {enc : TypeId × Value → H} {w : World} {base : Nat} {spare : Nat → Bool} {held : Bool} {fuel : Nat} {cs : List Value} {x : DataW H × List MemPlace}
    (h : DataW.trod enc P w base spare held fuel t cs = some x) : ∃ A n c xs, cs = [.slice A n c] ∧ n ≤ c ∧ c ≤ maxLen ∧ RdL R s (fun _ => True) w A n xs := by
  obtain ⟨hs, hpos, hR⟩ := ho
  rcases open_slice ht h with ⟨rfl, _⟩ | ⟨a, len, cap, m, n, D, Pl, rfl, hb, hl, hm, hmm, hx, hi⟩
  · exact ⟨none, 0, 0, [], rfl, Nat.le_refl _, by simp [maxLen], RdL.nil⟩
  · have hlm : len ≤ m := by rw [hmm]; split <;> omega
    rw [hs] at hi
    have hel : ∀ i, i < len → ∃ (cs' : List Value) (y : X), cs'.length = s ∧ R (fun _ => True) w cs' y ∧ ∀ j v, cs'[j]? = some v → w.cell? ((a.add (i * s)).add j) = some v := by
      intro i hil
      obtain ⟨cs', h1, h2⟩ := hi i (by omega)
      obtain ⟨_, h3, h4⟩ := World.cells?_some h1
      obtain ⟨y, hy⟩ := hR _ _ _ _ _ _ _ _ _ h3 h2
      exact ⟨cs', y, h3, hy, fun j v hj => by
        have hjl := (List.getElem?_eq_some_iff.1 hj).1
        rw [h4 j (by omega), hj]⟩
    rcases Nat.eq_zero_or_pos len with h0 | h0
    · subst h0
      exact ⟨some a, 0, cap, [], rfl, hl, hm, RdL.nil⟩
    · have hspot : a.spot = none := by
        obtain ⟨cs', y, h1, _, h2⟩ := hel 0 h0
        have h3 := h2 0 (cs'[0]'(by omega)) (List.getElem?_eq_getElem (by omega))
        simp only [Nat.zero_mul, Addr.add, if_true] at h3
        unfold World.cell? at h3
        split at h3
        · split at h3
          · cases h3
          · rename_i hs; simpa using hs
        · cases h3
      obtain ⟨b, o, sp⟩ := a
      simp only at hspot
      subst hspot
      have hxs : ∀ k, k ≤ len → ∃ xs : List X, xs.length = k ∧ ∀ i y, xs[i]? = some y → ∃ cs' : List Value, cs'.length = s ∧ R (fun _ => True) w cs' y ∧ ∀ j v, cs'[j]? = some v → w.cell? ⟨b, o + i * s + j, none⟩ = some v := by
        intro k
        induction k with
        | zero => exact fun _ => ⟨[], rfl, by simp⟩
        | succ k ih =>
          intro hk
          obtain ⟨xs, e1, e2⟩ := ih (by omega)
          obtain ⟨cs', y, h1, h2, h3⟩ := hel k (by omega)
          refine ⟨xs ++ [y], by simp [e1], fun i y' hy' => ?_⟩
          by_cases hik : i < k
          · rw [List.getElem?_append_left (by omega)] at hy'
            exact e2 i y' hy'
          · have hie : i = k := by
              have := (List.getElem?_eq_some_iff.1 hy').1
              simp [e1] at this; omega
            subst hie
            rw [List.getElem?_append_right (by omega)] at hy'
            simp only [e1, Nat.sub_self, List.getElem?_cons_zero, Option.some.injEq] at hy'
            subst hy'
            exact ⟨cs', h1, h2, fun j v hj => by have := h3 j v hj; rw [Addr.add_lit, Addr.add_lit] at this; exact this⟩
      obtain ⟨xs, e1, e2⟩ := hxs len (Nat.le_refl _)
      obtain ⟨cs', y, h1, _, h3⟩ := hel 0 h0
      have hblt : b < w.heap.size := by
        have := h3 0 (cs'[0]'(by omega)) (List.getElem?_eq_getElem (by omega))
        have := World.block_lt_of_cell? w _ this
        simpa [Addr.add_lit] using this
      exact ⟨some ⟨b, o, none⟩, len, cap, xs, rfl, hl, hm, e1, fun _ => ⟨b, o, rfl, trivial, hblt, e2⟩⟩

/-- A slice among the arguments. -/
theorem open_rd {R : (Nat → Prop) → World → List Value → X → Prop} {t e : TypeId} {s : Nat} (ht : P.underlying t = some (.slice e)) (ho : Opens P e R s) {H : Type} {enc : TypeId × Value → H} {w : World} {base b0 : Nat} {spare : Nat → Bool} {held : Bool} {r : Reach} {v : Value} {d : DataW H} {ps : List MemPlace}
    (hval : Value.okWide P w r b0 t v) (h : DataW.Trod enc P w base spare held t v d ps) : ∃ A n c xs, v = .slice A n c ∧ n ≤ c ∧ c ≤ maxLen ∧ RdL R s (fun _ => True) w A n xs := by
  obtain ⟨A, n, c, rfl⟩ := okWide_slice ht hval
  obtain ⟨fuel, hf⟩ := h
  obtain ⟨A', n', c', xs, e1, e2, e3, e4⟩ := opens_slice ht ho hf
  simp only [Value.cells, List.cons.injEq, and_true, Value.slice.injEq] at e1
  obtain ⟨rfl, rfl, rfl⟩ := e1
  exact ⟨A, n, c, xs, rfl, e2, e3, e4⟩
end

section
variable {H : Type} {enc : TypeId × Value → H} {P : Program}

theorem trodAll_stays (hl : laidOutB P = true) {W W' : World} (hb : Below W.heap.size W W') : ∀ (ts : List TypeId) (vs : List Value) (ds : List (DataW H)) (ps : List MemPlace), (∀ t ∈ ts, P.readableRec t = true ∧ t < P.types.size) → (∀ x ∈ ps, x.block < W.heap.size) →
    DataW.TrodAll enc P W 0 (fun _ => true) true ts vs ds ps → DataW.TrodAll enc P W' 0 (fun b => decide (b < W.heap.size)) true ts vs ds ps
  | [], vs, ds, ps, _, _, h => by
    obtain ⟨rfl, rfl, rfl⟩ := trodAll_nil h
    exact trodAll_mk0
  | t :: ts, vs, ds, ps, hr, hlt, h => by
    obtain ⟨v, vs', d, ds', p, q, rfl, rfl, rfl, hd, hrest⟩ := trodAll_cons h
    have h1 := Below.trod hl (hr t (by simp)).1 (hr t (by simp)).2 hd hb (fun x hx => hlt x (by simp [hx]))
    have h2 := trodAll_stays hl hb ts vs' ds' q (fun u hu => hr u (List.mem_cons_of_mem _ hu)) (fun x hx => hlt x (by simp [hx])) hrest
    exact trodAll_cons_mk h1 h2

/-- The end of a law's proof: it answered true, and what was there is as it was. -/
theorem law_post {f : Func} {s : ChangeSpec} {W W' : World} {args : Array Value} {ds gs : List (DataW H)} {before : List MemPlace} {tb : TypeId} (hl : laidOutB P = true) (hr : ∀ t ∈ f.params.toList, P.readableRec t = true ∧ t < P.types.size)
    (hres : f.resultTypes = #[tb]) (htb : P.underlying tb = some .bool) (hvars : s.vars = []) (hfn : (s.fn H (ds ++ gs)).results = [.lit (.bool true)] ∧ (s.fn H (ds ++ gs)).args = ds ∧ (s.fn H (ds ++ gs)).vars = [])
    (hW : DataW.Whole enc P f.params.toList s.vars false W args.toList ds gs before) (hb : Below W.heap.size W W') :
    s.post enc P f false true false false W args (.bool true) W' := by
  have hlt : ∀ p ∈ before, p.block < W.heap.size := fun p hp => hW.lt p hp
  have hW2 := hW
  obtain ⟨p, q, hA, hV, rfl, hz, hn⟩ := hW2
  rw [hvars] at hV
  obtain ⟨rfl, rfl⟩ := trodVars_none hV
  simp only [List.append_nil] at hlt hfn hz hW ⊢
  have hargs := trodAll_stays hl hb _ _ _ _ hr hlt hA
  have hr1 : ∀ (b : Nat) (sp : Nat → Bool) (hd : Bool), DataW.TrodAll enc P W' b sp hd f.resultTypes.toList ((Value.bool true).resultList f.resultTypes.size) (s.fn H ds).results [] := fun b sp hd => by
    rw [hres, hfn.1]
    exact trodAll_mk1 (shut_bool htb true)
  refine ⟨ds, [], p, [], p, [], hW, by rw [List.append_nil]; exact hr1 _ _ _, by rw [List.append_nil, hfn.2.1]; exact hargs, by rw [List.append_nil, hvars, hfn.2.2]; exact rfl, World.keptBut_mono (fun x hx => ⟨hx, .inr (.inl hx)⟩) (hb.frame (· ∈ p)), fun h => by cases h⟩
end
end Go.Cib

set_option linter.unusedSimpArgs false
set_option linter.unusedVariables false
namespace Go.Proofs.YtihnlhfngmbglaaGreat
open Go.RowKit Go.Cib
attribute [local go_sem] cell_set Later.cell Later.frozen Grw.cell Grw.frozen
section
open Go.ChangeShapes Go.WideShapes Go.ChangeAt Go.Deep

theorem laidOut_ : laidOutB Tryz.prog = true := by kernel_rfl
theorem ownKnob_ : ownKnob Tryz.prog.godebug = none := by kernel_rfl
end
section
open Go.ChangeShapes Go.WideShapes Go.ChangeAt Go.Deep
theorem opens_by : Opens Tryz.prog 5 ByR 1 :=
  ⟨by kernel_rfl, by omega, fun H enc w base spare held fuel cs x _ hx => by
    obtain ⟨n, rfl, _, hw⟩ := DataW.trod_int Tryz.underlying5 hx
    have h2 : 0 ≤ n ∧ n ≤ 255 := by
      simp [Lit.wf, IntKind.min, IntKind.max, IntKind.signed, IntKind.bits] at hw
      omega
    exact ⟨n.toNat, by omega, by rw [show ((n.toNat : Nat) : Int) = n by omega]⟩⟩
theorem u64_bounds {z : Int} (h : (Lit.int .u64 z).wf = true) : 0 ≤ z ∧ z < 18446744073709551616 := by
  simp [Lit.wf, IntKind.min, IntKind.max, IntKind.bits, IntKind.signed] at h
  omega
set_option maxRecDepth 100000 in
theorem open_geo {H : Type} {enc : TypeId × Value → H} {w : World} {base b0 : Nat} {spare : Nat → Bool} {held : Bool} {r : Reach} {v : Value} {d : DataW H} {ps : List MemPlace}
    (hval : Value.okWide Tryz.prog w r b0 23 v) (h : DataW.Trod enc Tryz.prog w base spare held 23 v d ps) : ∃ k m s : Int, v = .agg #[.int .i64 k, .int .i64 m, .int .i64 s] := by
  obtain ⟨cs, rfl, hsz⟩ := okWide_struct Tryz.underlying23 hval
  obtain ⟨fuel, hx⟩ := h
  have h5 : cs.size = 3 := hsz.trans (by kernel_rfl)
  have hl : (Value.agg cs).cells.toList.length = 3 := by simpa [Value.cells] using h5
  obtain ⟨xs, n, _, _, hlen, hxl, hf⟩ := DataW.trod_struct Tryz.underlying23 hx
  have e0 : (Value.agg cs).cells.toList = cs.toList := rfl
  rw [e0] at hf hl
  match hc : cs.toList, hl with
  | [c0, c1, c2], _ =>
    rw [hc] at hf
    have f0 := hf 0 _ rfl
    have f1 := hf 1 _ rfl
    have f2 := hf 2 _ rfl
    have k1 : Tryz.prog.cellsOf 3 = 1 := by kernel_rfl
    have hx3 : xs.length = 3 := hxl
    simp only [List.getElem_toArray, List.getElem_cons_zero, List.getElem_cons_succ, k1, List.drop_zero, List.drop_succ_cons, List.take_succ_cons, List.take_zero] at f0 f1 f2
    rw [List.getElem?_eq_getElem (by omega)] at f0 f1 f2
    obtain ⟨s, e1, _, _⟩ := DataW.trod_int Tryz.underlying3 f0
    obtain ⟨t, e2, _, _⟩ := DataW.trod_int Tryz.underlying3 f1
    obtain ⟨u, e3, _, _⟩ := DataW.trod_int Tryz.underlying3 f2
    simp only [List.cons.injEq, and_true] at e1 e2 e3
    subst e1; subst e2; subst e3
    refine ⟨s, t, u, ?_⟩
    rw [show cs = cs.toList.toArray by simp, hc]
end
section

/-- One byte's rot. -/
def rotV (v mask : Int) (i : Nat) : Int := bits BinOp.xor IntKind.u8 v (IntKind.u8.wrap (mask / 2 ^ (8 * (i : Int)).toNat))
def rotTo (x : List Int) (off : Nat) (mask : Int) : Nat → List Int
  | 0 => x
  | i + 1 => (rotTo x off mask i).set (off + i) (rotV (((rotTo x off mask i)[off + i]?).getD 0) mask i)
theorem rotTo_len (x : List Int) (off : Nat) (mask : Int) : ∀ i, (rotTo x off mask i).length = x.length
  | 0 => rfl
  | i + 1 => by rw [rotTo, List.length_set, rotTo_len x off mask i]
def DSt.rotAt (st : DSt) (a off : Nat) (mask : Int) (i : Nat) : DSt := { st with stored := st.stored.set a (rotTo ((st.stored[a]?).getD []) off mask i) }
def DSt.rot (st : DSt) (a off : Nat) (mask : Int) : DSt := { st.rotAt a off mask 4 with rotten := st.rotten.set a true }
theorem rotAt_zero (st : DSt) (a off : Nat) (mask : Int) : st.rotAt a off mask 0 = st := by
  simp only [DSt.rotAt, rotTo]
  by_cases h : a < st.stored.length
  · rw [List.getElem?_eq_getElem h]; simp
  · rw [List.set_eq_of_length_le (by omega)]
theorem flatten_setOne {α : Type} {s : Nat} : ∀ (css : List (List α)) (_ : ∀ cs ∈ css, cs.length = s) (i : Nat) (cs : List α) (j : Nat) (u : α), css[i]? = some cs → j < s → css.flatten.set (i * s + j) u = (css.set i (cs.set j u)).flatten
  | [], _, i, cs, j, u, h, _ => by simp at h
  | c :: css, hl, 0, cs, j, u, h, hj => by
    have h1 : c.length = s := hl c (by simp)
    simp only [List.getElem?_cons_zero, Option.some.injEq] at h
    subst h
    rw [List.flatten_cons, Nat.zero_mul, Nat.zero_add, List.set_append_left _ _ (by omega)]; rfl
  | c :: css, hl, i + 1, cs, j, u, h, hj => by
    have h1 : c.length = s := hl c (by simp)
    have ih := flatten_setOne css (fun x hx => hl x (List.mem_cons_of_mem _ hx)) i cs j u (by simpa using h) hj
    have e : (i + 1) * s + j - c.length = i * s + j := by rw [Nat.add_mul]; omega
    rw [List.flatten_cons, List.set_append_right _ _ (by rw [Nat.add_mul]; omega), e, ih]; rfl
/-- One byte of a sector is set. -/
theorem DrvB.byte {w w' : World} {p n sb sc rb rc : Nat} {A : Option Addr} {cc mb : Nat} {st : DSt} (h : DrvB w p n sb sc rb rc A cc mb st) {a j : Nat} {x : List Int} {v : Int} (ha : a < n) (hx : st.stored[a]? = some x) (hj : j < 64)
    (hw : w' = (w.setCell ⟨sb, a * 64 + j, none⟩ (.int .u8 v)).drew) : DrvB w' p n sb sc rb rc A cc mb { st with stored := st.stored.set a (x.set j v) } := by
  have hok := h.ok
  have hl : x.length = 64 := hok.s64 x (List.mem_of_getElem? hx)
  have hc64 : ∀ cs ∈ st.stored.map secCells, cs.length = 64 := fun cs hcs => by obtain ⟨y, hy, rfl⟩ := List.mem_map.1 hcs; simp [secCells, hok.s64 y hy]
  have o1 := (h.so.stored (a * 64 + j) (.int .u8 v)).1
  rw [flatten_setOne _ hc64 a (secCells x) j _ (by simp [hx]) hj] at o1
  have e1 : (secCells x).set j (.int .u8 v) = secCells (x.set j v) := by simp [secCells, List.map_set]
  rw [e1] at o1
  have hr : st.rotten.set a ((st.rotten[a]?).getD false) = st.rotten := by
    rw [List.getElem?_eq_getElem (by rw [hok.rl]; exact ha)]; simp
  have hr2 : (st.rotten.map Value.bool).set a (.bool ((st.rotten[a]?).getD false)) = st.rotten.map Value.bool := by rw [← List.map_set, hr]
  have := h.put (w' := w') (s := x.set j v) (r := (st.rotten[a]?).getD false) ha (by simp [hl]) (fun k h1 h2 => by rw [hw]; exact Below.heap_setCell _ _ _ _ h1) (by rw [hw]; exact o1) (by
    rw [hr2, hw]; exact ownsRow_keep h.ro (by rintro k ⟨⟩; exact Below.heap_setCell _ _ _ _ (fun e => h.sr e.symm)))
  rw [hr] at this
  exact this
theorem DrvB.mark {w : World} {p n sb sc rb rc : Nat} {A : Option Addr} {cc mb : Nat} {st : DSt} (h : DrvB w p n sb sc rb rc A cc mb st) {a : Nat} (ha : a < n) (r : Bool) : DrvB (w.setCell ⟨rb, a, none⟩ (.bool r)) p n sb sc rb rc A cc mb { st with rotten := st.rotten.set a r } := by
  have hok := h.ok
  have hal : a < st.stored.length := by rw [hok.sl]; exact ha
  have hs : st.stored.set a st.stored[a] = st.stored := by simp
  have hs2 : (st.stored.map secCells).set a (secCells st.stored[a]) = st.stored.map secCells := by rw [← List.map_set, hs]
  have := h.put (w' := w.setCell ⟨rb, a, none⟩ (.bool r)) (s := st.stored[a]) (r := r) ha (hok.s64 _ (List.getElem_mem _)) (fun k h1 h2 => Below.heap_setCell _ _ _ _ h2) (by
    rw [hs2]; exact ownsRow_keep h.so (by rintro k ⟨⟩; exact Below.heap_setCell _ _ _ _ h.sr)) ((h.ro.stored a (.bool r)).1)
  rw [hs] at this
  exact this

set_option maxRecDepth 100000 in
set_option maxHeartbeats 4000000 in
theorem rot_good {F : Nat → Prop} {w : World} {p n : Nat} {st : DSt} (h : Hid (DrvAt F w p n st)) (hd : st.dead = false) (a : Nat) (ha : a < n) (off : Nat) (hoff : off ≤ 60) (mask : Int) (hm : ¬ mask = 0) (hr : st.rotten[a]? = some false) :
    Calls Tryz.prog 78 #[.pointer (some ⟨p, 0, none⟩), .int .i64 a, .int .i64 off, .int .u32 mask] w fun e w' => e = .returned (.int .i64 0) ∧ Upd F w w' p n (st.rot a off mask) := by
  obtain ⟨sb, sc, rb, rc, A, cc, mb, H⟩ := h.out.box
  rw [hd] at H
  go_enter Tryz.func78, Tryz.ntmps78
  go_wp2_with fail
  refine (dready_any a H).mono ?_
  rintro e w1 ⟨rfl, h1⟩
  have e1 : readyE false n a = 0 := by simp [readyE, ha]
  rw [e1]
  clear e1 H
  have D := Lib.hid (h.out.below h1)
  have U := Lib.hid (Keep.of_below (F := F) h1)
  have s1 := h1.size
  clear h h1
  obtain ⟨sb, sc, rb, rc, A, cc, mb, hB, f1, f2, f3, f4, f5, lt⟩ := D.out
  obtain ⟨k0, k1, k2, k3, k4⟩ := drv_cells hB.box
  have r0 : w1.cell? ⟨rb, a, none⟩ = some (.bool false) := by rw [hB.ro.cellAt a (by omega)]; simp [hr]
  have hk0 : (0 : Int) ≤ (a : Int) := Int.natCast_nonneg _
  have hk1 : (a : Int) < (n : Int) := by omega
  have ho0 : (0 : Int) ≤ (off : Int) := Int.natCast_nonneg _
  have ho1 : ¬ (off : Int) < 0 := by omega
  have ho2 : ¬ (60 : Int) < (off : Int) := by omega
  have ho3 : (off : Int) ≤ 60 := by omega
  have hmb : (mask == 0) = false := by simpa using hm
  have HB := Lib.hid hB
  clear hB
  go_wp2_with fail
  clear k0 k1 k2 k3 k4 r0
  go_loopw [36] (fun vi wr => ∃ i : Nat, i ≤ 4 ∧ vi = .int .i64 i ∧ Hid (DrvB wr p n sb sc rb rc A cc mb (st.rotAt a off mask i)) ∧ Hid (Keep F w1 wr)) (fun vi _ => 4 - (intOf vi).toNat)
  case atStart => exact ⟨0, by omega, rfl, by rw [rotAt_zero]; exact HB, Lib.hid (Keep.refl _ _)⟩
  case round =>
    obtain ⟨i, hi, rfl, hD, hK⟩ := hrel
    by_cases hlt : i < 4
    · obtain ⟨k0, k1, k2, k3, k4⟩ := drv_cells hD.out.box
      have hal : a < st.stored.length := by rw [HB.out.ok.sl]; exact ha
      obtain ⟨y, hy⟩ : ∃ y, (st.rotAt a off mask i).stored[a]? = some y := ⟨_, List.getElem?_eq_getElem (by simpa [DSt.rotAt] using hal)⟩
      have hyr : y = rotTo ((st.stored[a]?).getD []) off mask i := by simpa [DSt.rotAt, hal] using hy.symm
      have hyl : y.length = 64 := hD.out.ok.s64 y (List.mem_of_getElem? hy)
      obtain ⟨v, hvy⟩ : ∃ v, y[off + i]? = some v := ⟨_, List.getElem?_eq_getElem (by omega)⟩
      have hv : wr.cell? ⟨sb, a * 64 + (off + i), none⟩ = some (.int .u8 v) := by
        have hc64 : ∀ cs ∈ (st.rotAt a off mask i).stored.map secCells, cs.length = 64 := fun cs hcs => by obtain ⟨u, hu, rfl⟩ := List.mem_map.1 hcs; simp [secCells, hD.out.ok.s64 u hu]
        exact ownsRow_range hD.out.so hc64 (i := a) (cs := secCells y) (by simp [hy]) (by simp [hD.out.ok.sl]) (off + i) _ (by simp [secCells, hvy])
      have HY := Lib.hid (And.intro hy (And.intro hyr hvy))
      clear hy hyr hvy hyl hal
      have hps : p ≠ sb := hD.out.ps
      have z1 : wr.frozen? ⟨sb, a * 64 + (off + i), none⟩ = false := hD.out.so.frozenAt _
      have hoi : IntKind.i64.wrap ((off : Int) + (i : Int)) = (off : Int) + (i : Int) := by rw [IntKind.wrap_i64]; omega
      have hoj : (0 : Int) ≤ (off : Int) + (i : Int) := by omega
      have hok : (off : Int) + (i : Int) < 64 := by omega
      have hot : ((off : Int) + (i : Int)).toNat = off + i := by omega
      have h8 : IntKind.i64.wrap (8 * (i : Int)) = ((8 * i : Nat) : Int) := by rw [IntKind.wrap_i64]; omega
      have h80 : (0 : Int) ≤ ((8 * i : Nat) : Int) := Int.natCast_nonneg _
      go_wp2_with fail
      refine wp_region_held_drew (S := (fun w' => w'.cell? ⟨p, 0, none⟩ = some (.slice (some ⟨sb, 0, none⟩) n sc))) (by kernel_rfl) (by first | exact k0 | (exact cell_setCell_ne (w := World.drew _) k0 hps)) (fun hHeld => ?_)
      refine wpAnyH_take (i := 0) (v := ?_) rfl (by kernel_rfl) (by kernel_rfl) (by kernel_rfl) (fun _ _ _ h => h) (Or.inl ⟨by rfl, ?_⟩) (by assumption) ?_
      rotate_left
      · (intro wq hSw; (try dsimp only at hSw); (try simp only [zz1, zz2, zz3]); go_simp); try with_reducible rfl
      try simp only [zz1, zz2, zz3, Act.put, zz4, zz5, zz6]
      refine wpAnyH_take (i := 1) (v := ?_) rfl (by kernel_rfl) (by kernel_rfl) (by kernel_rfl) (fun _ _ _ h => h) (Or.inl ⟨by rfl, ?_⟩) (by assumption) ?_
      rotate_left
      · (intro wq hSw; (try dsimp only at hSw); (try simp only [zz1, zz2, zz3]); go_simp); try with_reducible rfl
      try simp only [zz1, zz2, zz3, Act.put, zz4, zz5, zz6]
      refine wpAnyH_take (i := 2) (v := ?_) rfl (by kernel_rfl) (by kernel_rfl) (by kernel_rfl) (fun _ _ _ h => h) (Or.inl ⟨by rfl, ?_⟩) (by assumption) ?_
      rotate_left
      · (intro wq hSw; (try dsimp only at hSw); (try simp only [zz1, zz2, zz3]); go_simp); try with_reducible rfl
      try simp only [zz1, zz2, zz3, Act.put, zz4, zz5, zz6]
      refine wpAnyH_take (i := 3) (v := ?_) rfl (by kernel_rfl) (by kernel_rfl) (by kernel_rfl) (fun _ _ _ h => h) (Or.inl ⟨by rfl, ?_⟩) (by assumption) ?_
      rotate_left
      · (intro wq hSw; (try dsimp only at hSw); (try simp only [zz1, zz2, zz3]); go_simp); try with_reducible rfl
      try simp only [zz1, zz2, zz3, Act.put, zz4, zz5, zz6]
      refine wpAnyH_take (i := 4) (v := ?_) rfl (by kernel_rfl) (by kernel_rfl) (by kernel_rfl) (fun _ _ _ h => h) (Or.inl ⟨by rfl, ?_⟩) (by assumption) ?_
      rotate_left
      · (intro wq hSw; (try dsimp only at hSw); (try simp only [zz1, zz2, zz3]); go_simp); try with_reducible rfl
      try simp only [zz1, zz2, zz3, Act.put, zz4, zz5, zz6]
      refine wpAnyH_take (i := 5) (v := ?_) rfl (by kernel_rfl) (by kernel_rfl) (by kernel_rfl) (fun _ _ _ h => h) (Or.inl ⟨by rfl, ?_⟩) (by assumption) ?_
      rotate_left
      · (intro wq hSw; (try dsimp only at hSw); (try simp only [zz1, zz2, zz3]); go_simp); try with_reducible rfl
      try simp only [zz1, zz2, zz3, Act.put, zz4, zz5, zz6]
      refine wpAnyH_take (i := 6) (v := ?_) rfl (by kernel_rfl) (by kernel_rfl) (by kernel_rfl) (fun _ _ _ h => h) (Or.inl ⟨by rfl, ?_⟩) (by assumption) ?_
      rotate_left
      · (intro wq hSw; (try dsimp only at hSw); (try simp only [zz1, zz2, zz3]); go_simp); try with_reducible rfl
      try simp only [zz1, zz2, zz3, Act.put, zz4, zz5, zz6]
      refine wpAnyH_take (i := 7) (v := ?_) rfl (by kernel_rfl) (by kernel_rfl) (by kernel_rfl) (fun _ _ _ h => h) (Or.inl ⟨by rfl, ?_⟩) (by assumption) ?_
      rotate_left
      · (intro wq hSw; (try dsimp only at hSw); (try simp only [zz1, zz2, zz3]); go_simp); try with_reducible rfl
      try simp only [zz1, zz2, zz3, Act.put, zz4, zz5, zz6]
      refine wpAnyH_take (i := 8) (v := ?_) rfl (by kernel_rfl) (by kernel_rfl) (by kernel_rfl) (fun _ _ _ h => h) (Or.inl ⟨by rfl, ?_⟩) (by assumption) ?_
      rotate_left
      · (intro wq hSw; (try dsimp only at hSw); (try simp only [zz1, zz2, zz3]); go_simp); try with_reducible rfl
      try simp only [zz1, zz2, zz3, Act.put, zz4, zz5, zz6]
      refine wpAnyH_take (i := 11) (v := ?_) rfl (by kernel_rfl) (by kernel_rfl) (by kernel_rfl) (fun _ _ _ h => h) (Or.inl ⟨by rfl, ?_⟩) (by assumption) ?_
      rotate_left
      · (intro wq hSw; (try dsimp only at hSw); (try simp only [zz1, zz2, zz3]); go_simp); try with_reducible rfl
      try simp only [zz1, zz2, zz3, Act.put, zz4, zz5, zz6]
      refine wpAnyH_take (i := 12) (v := ?_) rfl (by kernel_rfl) (by kernel_rfl) (by kernel_rfl) (fun _ _ _ h => h) (Or.inl ⟨by rfl, ?_⟩) (by assumption) ?_
      rotate_left
      · (intro wq hSw; (try dsimp only at hSw); (try simp only [zz1, zz2, zz3]); go_simp); try with_reducible rfl
      try simp only [zz1, zz2, zz3, Act.put, zz4, zz5, zz6]
      refine wpAnyH_take (i := 13) (v := ?_) rfl (by kernel_rfl) (by kernel_rfl) (by kernel_rfl) (fun _ _ _ h => h) (Or.inl ⟨by rfl, ?_⟩) (by assumption) ?_
      rotate_left
      · (intro wq hSw; (try dsimp only at hSw); (try simp only [zz1, zz2, zz3]); go_simp); try with_reducible rfl
      try simp only [zz1, zz2, zz3, Act.put, zz4, zz5, zz6]
      refine wpAnyH_take (i := 14) (v := ?_) rfl (by kernel_rfl) (by kernel_rfl) (by kernel_rfl) (fun _ _ _ h => h) (Or.inl ⟨by rfl, ?_⟩) (by assumption) ?_
      rotate_left
      · (intro wq hSw; (try dsimp only at hSw); (try simp only [zz1, zz2, zz3]); go_simp); try with_reducible rfl
      try simp only [zz1, zz2, zz3, Act.put, zz4, zz5, zz6]
      refine wpAnyH_take (i := 15) (v := ?_) rfl (by kernel_rfl) (by kernel_rfl) (by kernel_rfl) (fun _ _ _ h => h) (Or.inl ⟨by rfl, ?_⟩) (by assumption) ?_
      rotate_left
      · (intro wq hSw; (try dsimp only at hSw); (try simp only [zz1, zz2, zz3]); go_simp); try with_reducible rfl
      try simp only [zz1, zz2, zz3, Act.put, zz4, zz5, zz6]
      refine wpAnyH_take (i := 17) (v := ?_) rfl (by kernel_rfl) (by kernel_rfl) (by kernel_rfl) (fun _ _ _ h => h) (Or.inl ⟨by rfl, ?_⟩) (by assumption) ?_
      rotate_left
      · (intro wq hSw; (try dsimp only at hSw); (try simp only [zz1, zz2, zz3]); go_simp); try with_reducible rfl
      try simp only [zz1, zz2, zz3, Act.put, zz4, zz5, zz6]
      refine rdH 9 rfl fun K hK => ?_
      try simp only [zz1, zz2, zz3]
      go_simp
      refine hK.out _ _ (by first | exact k0 | (exact cell_setCell_ne (w := World.drew _) k0 hps)) (fun hHeld => ?_)
      clear hK K
      try simp only [zz1, zz2, zz3, Act.put, zz4, zz5, zz6]
      refine rdH 10 rfl fun K hK => ?_
      try simp only [zz1, zz2, zz3]
      go_simp
      refine hK.out _ _ (by first | exact k0 | (exact cell_setCell_ne (w := World.drew _) k0 hps)) (fun hHeld => ?_)
      clear hK K
      try simp only [zz1, zz2, zz3, Act.put, zz4, zz5, zz6]
      refine wpAnyH_take (i := 16) (v := ?_) rfl (by kernel_rfl) (by kernel_rfl) (by kernel_rfl) (fun _ _ _ h => h) (Or.inl ⟨by rfl, ?_⟩) (by assumption) ?_
      rotate_left
      · (intro wq hSw; (try dsimp only at hSw); (try simp only [zz1, zz2, zz3]); go_simp); try with_reducible rfl
      try simp only [zz1, zz2, zz3, Act.put, zz4, zz5, zz6]
      refine wpAnyH_take (i := 18) (v := ?_) rfl (by kernel_rfl) (by kernel_rfl) (by kernel_rfl) (fun _ _ _ h => h) (Or.inl ⟨by rfl, ?_⟩) (by assumption) ?_
      rotate_left
      · (intro wq hSw; (try dsimp only at hSw); (try simp only [zz1, zz2, zz3]); go_simp); try with_reducible rfl
      try simp only [zz1, zz2, zz3, Act.put, zz4, zz5, zz6]
      refine rdH 19 rfl fun K hK => ?_
      try simp only [zz1, zz2, zz3]
      go_simp
      refine hK.out _ _ (by first | exact k0 | (exact cell_setCell_ne (w := World.drew _) k0 hps)) (fun hHeld => ?_)
      clear hK K
      try simp only [zz1, zz2, zz3, Act.put, zz4, zz5, zz6]
      refine wpAnyH_done (by kernel_rfl) ?_ _
      go_wp2_with fail
      obtain ⟨hy, hyr, hvy⟩ := HY.out
      refine ⟨⟨i + 1, by omega, by go_num, Lib.hid ?_, Lib.hid ?_⟩, by simp [intOf]; omega⟩
      · have := hD.out.byte (j := off + i) (v := rotV v mask i) ha hy (by omega) rfl
        have e : { st.rotAt a off mask i with stored := (st.rotAt a off mask i).stored.set a (y.set (off + i) (rotV v mask i)) } = st.rotAt a off mask (i + 1) := by
          simp only [DSt.rotAt, rotTo, List.set_set, hyr] at hvy ⊢
          rw [hvy]; rfl
        rw [e] at this
        exact this
      · refine hK.out.trans (G := F) (Keep.trans (F := F) (G := fun _ => False) (Keep.setCell (Keep.refl F wr) (fun _ => f2) _) ⟨rfl, rfl, rfl, Nat.le_refl _, fun _ _ _ => rfl⟩ (fun _ h => h.elim)) (fun k h _ => h)
    · obtain rfl : i = 4 := by omega
      obtain ⟨k0, k1, k2, k3, k4⟩ := drv_cells hD.out.box
      have r0 : wr.cell? ⟨rb, a, none⟩ = some (.bool false) := by rw [hD.out.ro.cellAt a (by omega)]; simp [DSt.rotAt, hr]
      have z0 : wr.frozen? ⟨rb, a, none⟩ = false := hD.out.ro.frozenAt a
      go_wp2_with fail
      go_ret
      have hKF : Keep F w1 (wr.setCell ⟨rb, a, none⟩ (.bool true)) := hK.out.setCell (fun _ => f3) _
      refine ⟨rfl, F, ⟨sb, sc, rb, rc, A, cc, mb, hD.out.mark ha true, f1, f2, f3, f4, f5, fun k hk => ?_⟩, fun k hk _ => hk, U.out.trans hKF (fun k h _ => h)⟩
      exact Nat.lt_of_lt_of_le (lt k hk) hKF.size

set_option maxRecDepth 100000 in
theorem rot_again {F : Nat → Prop} {w : World} {p n : Nat} {st : DSt} (h : Hid (DrvAt F w p n st)) (hd : st.dead = false) (a : Nat) (ha : a < n) (off : Nat) (hoff : off ≤ 60) (mask : Int) (hm : ¬ mask = 0) (hr : st.rotten[a]? = some true) :
    Calls Tryz.prog 78 #[.pointer (some ⟨p, 0, none⟩), .int .i64 a, .int .i64 off, .int .u32 mask] w fun e w' => e = .returned (.int .i64 91) ∧ Below w.heap.size w w' := by
  obtain ⟨sb, sc, rb, rc, A, cc, mb, H⟩ := h.out.box
  rw [hd] at H
  go_enter Tryz.func78, Tryz.ntmps78
  go_wp2_with fail
  refine (dready_any a H).mono ?_
  rintro e w1 ⟨rfl, h1⟩
  have e1 : readyE false n a = 0 := by simp [readyE, ha]
  rw [e1]
  clear e1 H
  have D := Lib.hid (h.out.below h1)
  obtain ⟨sb, sc, rb, rc, A, cc, mb, hB, f1, f2, f3, f4, f5, lt⟩ := D.out
  obtain ⟨k0, k1, k2, k3, k4⟩ := drv_cells hB.box
  have r0 : w1.cell? ⟨rb, a, none⟩ = some (.bool true) := by rw [hB.ro.cellAt a (by omega)]; simp [hr]
  have hk0 : (0 : Int) ≤ (a : Int) := Int.natCast_nonneg _
  have hk1 : (a : Int) < (n : Int) := by omega
  have ho3 : (off : Int) ≤ 60 := by omega
  have hmb : (mask == 0) = false := by simpa using hm
  clear hB h D
  go_wp2_with fail
  go_ret
  exact ⟨rfl, h1⟩

set_option maxRecDepth 100000 in
theorem write_bad {F : Nat → Prop} {w : World} {p n : Nat} {st : DSt} (h : Hid (DrvAt F w p n st)) (z : Int) (hz : readyE st.dead n z ≠ 0) (v : Value) :
    Calls Tryz.prog 215 #[.pointer (some ⟨p, 0, none⟩), .int .i64 z, v] w fun e w' => e = .returned (.int .i64 (readyE st.dead n z)) ∧ Below w.heap.size w w' := by
  obtain ⟨sb, sc, rb, rc, A, cc, mb, H⟩ := h.out.box
  go_enter Tryz.func215, Tryz.ntmps215
  go_wp2_with fail
  refine (dready_any z H).mono ?_
  rintro e w1 ⟨rfl, h1⟩
  obtain ⟨E, hE⟩ : ∃ E, readyE st.dead n z = E := ⟨_, rfl⟩
  rw [hE] at hz ⊢
  have hz2 : (E == 0) = false := by simpa using hz
  have hz3 : (E != 0) = true := by simpa using hz
  have HE := Lib.hid hE
  clear hE H
  go_wp2_with fail
  go_ret
  exact ⟨by rw [HE.out]; rfl, h1⟩
end
section

theorem freshL_false (keep : Nat → Bool) : ∀ (c : List (Int × List Int)) (i : Nat) (xs : List Bool), (∀ r ∈ xs, r = false) → ∀ r ∈ freshL keep i c xs, r = false
  | [], i, xs, h, r, hr => h r hr
  | q :: c, i, xs, h, r, hr => by
    refine freshL_false keep c (i + 1) _ ?_ r hr
    intro y hy
    split at hy
    · rcases List.mem_or_eq_of_mem_set hy with h1 | h1
      · exact h y h1
      · exact h1
    · exact h y hy
theorem rotV_eq (v mask : Int) (j : Nat) : rotV v mask j = bits BinOp.xor IntKind.u8 v (mask / 2 ^ (8 * j) % 256) := by
  unfold rotV
  rw [show (8 * (j : Int)).toNat = 8 * j by omega, IntKind.wrap_u8]
end
section
attribute [local go_sem ↓] shut_load shut_load65 shut_zero shut_zero65 shut_store shut_store65
attribute [local go_sem] run_shutZero run_shutZero65 run_shutStore run_shutStore65 run_shutLoad_set there_new there_new65

set_option maxRecDepth 100000 in
theorem write_len {F : Nat → Prop} {w : World} {p n : Nat} {st : DSt} (h : Hid (DrvAt F w p n st)) (z : Int) (hz : readyE st.dead n z = 0) (A : Option Addr) (m c : Nat) (hm : m ≠ 64) :
    Calls Tryz.prog 215 #[.pointer (some ⟨p, 0, none⟩), .int .i64 z, .slice A m c] w fun e w' => e = .returned (.int .i64 2) ∧ Below w.heap.size w w' := by
  obtain ⟨sb, sc, rb, rc, A, cc, mb, H⟩ := h.out.box
  go_enter Tryz.func215, Tryz.ntmps215
  go_wp2_with fail
  refine (dready_any z H).mono ?_
  rintro e w1 ⟨rfl, h1⟩
  rw [hz]
  have hz2 : ((m : Int) == 64) = false := by simp; omega
  have hz3 : ((m : Int) != 64) = true := by simp; omega
  have hz4 : ¬ (m : Int) = 64 := by omega
  clear H
  go_wp2_with fail
  go_ret
  exact ⟨rfl, h1⟩

/-- Write, whatever is asked. -/
theorem write_all {F : Nat → Prop} {w : World} {p n : Nat} {st : DSt} (h : Hid (DrvAt F w p n st)) (z : Int) {S : Nat → Prop} {A : Option Addr} {m c : Nat} {bs : List Int} (hb : Hid (RdL U8R 1 S w A m bs)) (hS : ∀ b, S b → ¬ F b) (hcl : st.cache.length < 1000000) :
    Calls Tryz.prog 215 #[.pointer (some ⟨p, 0, none⟩), .int .i64 z, .slice A m c] w fun e w' => e = .returned (.int .i64 (writeE st.dead n z m)) ∧ Upd F w w' p n (if readyE st.dead n z = 0 ∧ m = 64 then st.write z bs else st) := by
  by_cases hz : readyE st.dead n z = 0
  · by_cases hm : m = 64
    · subst hm
      have hd : st.dead = false := by
        cases hdd : st.dead with
        | false => rfl
        | true => rw [hdd] at hz; simp [readyE] at hz
      have hr : 0 ≤ z ∧ z < n := by
        rw [hd] at hz
        by_cases h0 : 0 ≤ z ∧ z < n
        · exact h0
        · simp [readyE, h0] at hz
      obtain ⟨b, o, rfl, hSb, _⟩ := hb.out.addr (k := 0) (by omega)
      obtain ⟨k, rfl⟩ : ∃ k : Nat, z = k := ⟨z.toNat, by omega⟩
      refine (write_good h hd k (by omega) hb (hS b hSb) hcl).mono ?_
      rintro e w' ⟨rfl, hu⟩
      rw [if_pos ⟨hz, rfl⟩]
      exact ⟨by simp [writeE, hz], hu⟩
    · refine (write_len h z hz A m c hm).mono ?_
      rintro e w' ⟨rfl, hu⟩
      rw [if_neg (fun h => hm h.2)]
      exact ⟨by simp [writeE, hz, hm], h.out.upd hu⟩
  · refine (write_bad h z hz _).mono ?_
    rintro e w' ⟨rfl, hu⟩
    rw [if_neg (fun h => hz h.1)]
    exact ⟨by simp [writeE, hz], h.out.upd hu⟩
end
section

theorem undrew {w w' : World} {r : Option Nat} (h : w.drew.grownBy w' r) : w.grownBy w' r := ⟨h.os, h.tape, h.output, h.size, h.block⟩
end
section

set_option maxRecDepth 100000 in
theorem rot_unready {F : Nat → Prop} {w : World} {p n : Nat} {st : DSt} (h : Hid (DrvAt F w p n st)) (z off mask : Int) (hz : readyE st.dead n z ≠ 0) :
    Calls Tryz.prog 78 #[.pointer (some ⟨p, 0, none⟩), .int .i64 z, .int .i64 off, .int .u32 mask] w fun e w' => e = .returned (.int .i64 (readyE st.dead n z)) ∧ Below w.heap.size w w' := by
  obtain ⟨sb, sc, rb, rc, A, cc, mb, H⟩ := h.out.box
  go_enter Tryz.func78, Tryz.ntmps78
  go_wp2_with fail
  refine (dready_any z H).mono ?_
  rintro e w1 ⟨rfl, h1⟩
  obtain ⟨E, hE⟩ : ∃ E, readyE st.dead n z = E := ⟨_, rfl⟩
  rw [hE] at hz ⊢
  have hz2 : (E == 0) = false := by simpa using hz
  have hz3 : (E != 0) = true := by simpa using hz
  have HE := Lib.hid hE
  clear hE H
  go_wp2_with fail
  go_ret
  exact ⟨by rw [HE.out]; rfl, h1⟩
set_option maxRecDepth 100000 in
theorem rot_off {F : Nat → Prop} {w : World} {p n : Nat} {st : DSt} (h : Hid (DrvAt F w p n st)) (z off mask : Int) (hz : readyE st.dead n z = 0) (ho : ¬ ((0 ≤ off ∧ off ≤ 60) ∧ ¬ mask = 0)) :
    Calls Tryz.prog 78 #[.pointer (some ⟨p, 0, none⟩), .int .i64 z, .int .i64 off, .int .u32 mask] w fun e w' => e = .returned (.int .i64 2) ∧ Below w.heap.size w w' := by
  obtain ⟨sb, sc, rb, rc, A, cc, mb, H⟩ := h.out.box
  by_cases h1 : off < 0
  · have d1 : decide (off < 0) = true := by simpa using h1
    clear ho
    go_enter Tryz.func78, Tryz.ntmps78
    go_wp2_with fail
    refine (dready_any z H).mono ?_
    rintro e w1 ⟨rfl, t1⟩
    rw [hz]
    clear H
    go_wp2_with fail
    go_ret
    exact ⟨rfl, t1⟩
  have d1 : decide (off < 0) = false := by simpa using h1
  by_cases h2 : 60 < off
  · have d2 : decide (60 < off) = true := by simpa using h2
    clear ho
    go_enter Tryz.func78, Tryz.ntmps78
    go_wp2_with fail
    refine (dready_any z H).mono ?_
    rintro e w1 ⟨rfl, t1⟩
    rw [hz]
    clear H
    go_wp2_with fail
    go_ret
    exact ⟨rfl, t1⟩
  have d2 : decide (60 < off) = false := by simpa using h2
  have h3 : (mask == 0) = true := by
    simp only [beq_iff_eq]
    exact Classical.byContradiction fun h => ho ⟨⟨by omega, by omega⟩, h⟩
  clear ho
  go_enter Tryz.func78, Tryz.ntmps78
  go_wp2_with fail
  refine (dready_any z H).mono ?_
  rintro e w1 ⟨rfl, t1⟩
  rw [hz]
  clear H
  go_wp2_with fail
  go_ret
  exact ⟨rfl, t1⟩
theorem ready_iff (st : DSt) (n : Nat) (z : Int) : readyE st.dead n z = 0 ↔ st.dead = false ∧ 0 ≤ z ∧ z < n := by
  cases hd : st.dead with
  | true => simp [readyE]
  | false => by_cases h : 0 ≤ z ∧ z < n <;> simp [readyE, h]

def rotDOk (st : DSt) (n : Nat) (z off mask : Int) : Prop := (st.dead = false ∧ 0 ≤ z ∧ z < n) ∧ ((0 ≤ off ∧ off ≤ 60) ∧ ¬ mask = 0) ∧ st.rotten[z.toNat]? = some false
instance (st : DSt) (n : Nat) (z off mask : Int) : Decidable (rotDOk st n z off mask) := by unfold rotDOk; infer_instance
end
section

/-- A pointer, whole. -/
def PtrR (_ : Nat → Prop) (_ : World) (cs : List Value) (x : Nat) : Prop := cs = [.pointer (some ⟨x, 0, none⟩)]
theorem PtrR.stable : Stable PtrR := fun _ _ _ _ _ _ h _ => h
theorem PtrR.one : ∀ S w cs x, PtrR S w cs x → ∀ u ∈ cs, u.oneCell' = true := by
  rintro S w cs x rfl u hu
  simp at hu
  subst hu; rfl
structure ArrB (U : Nat → Prop) (w : World) (a : Nat) (v : Value) (Fs : Nat → Nat → Prop) (ps : List Nat) (s : Nat) (sts : List DSt) : Prop where
  box : BoxAt w a #[v]
  own : OwnL PtrR 113 1 0 (fun _ => False) w v ps.length ps
  len : sts.length = ps.length
  drv : ∀ i p st, ps[i]? = some p → sts[i]? = some st → DrvAt (Fs i) w p s st
  apart : ∀ i j k, Fs i k → Fs j k → i = j
  va : v.ownBlock ≠ some a
  fx : ∀ i k, Fs i k → k ≠ a ∧ v.ownBlock ≠ some k
  ua : U a
  uv : ∀ k, v.ownBlock = some k → U k
  uf : ∀ i k, Fs i k → U k
  lt : ∀ k, U k → k < w.heap.size
def ArrAt (U : Nat → Prop) (w : World) (a s : Nat) (sts : List DSt) : Prop := ∃ v Fs ps, ArrB U w a v Fs ps s sts
def AUpd (U : Nat → Prop) (w w' : World) (a s : Nat) (sts : List DSt) : Prop := ∃ U', ArrAt U' w' a s sts ∧ (∀ k, U' k → k < w.heap.size → U k) ∧ Keep U w w'

theorem ArrB.keep {U G : Nat → Prop} {w w' : World} {a s : Nat} {v : Value} {Fs : Nat → Nat → Prop} {ps : List Nat} {sts : List DSt} (h : ArrB U w a v Fs ps s sts) (hk : Keep G w w') (hd : ∀ k, U k → ¬ G k) : ArrB U w' a v Fs ps s sts := by
  have hh : ∀ k, U k → w'.heap[k]? = w.heap[k]? := fun k hu => hk.block k (h.lt k hu) (hd k hu)
  refine ⟨h.box.keep (hh a h.ua), ?_, h.len, fun i p st h1 h2 => (h.drv i p st h1 h2).keep hk (fun k hf => hd k (h.uf i k hf)), h.apart, h.va, h.fx, h.ua, h.uv, h.uf, fun k hu => Nat.lt_of_lt_of_le (h.lt k hu) hk.size⟩
  obtain ⟨css, h1, h2, h3, h4, h5⟩ := h.own
  exact ⟨css, ownsRow_keep h1 (fun k hk2 => hh k (h.uv k hk2)), h2, h3, h4, fun i cs x hc hx => h5 i cs x hc hx⟩
theorem ArrB.below {U : Nat → Prop} {w w' : World} {a s : Nat} {v : Value} {Fs : Nat → Nat → Prop} {ps : List Nat} {sts : List DSt} (h : ArrB U w a v Fs ps s sts) (hk : Below w.heap.size w w') : ArrB U w' a v Fs ps s sts := h.keep (Keep.of_below (F := fun _ => False) hk) (fun _ _ h => h)
theorem ArrAt.keep {U G : Nat → Prop} {w w' : World} {a s : Nat} {sts : List DSt} (h : ArrAt U w a s sts) (hk : Keep G w w') (hd : ∀ k, U k → ¬ G k) : ArrAt U w' a s sts := by
  obtain ⟨v, Fs, ps, h⟩ := h; exact ⟨v, Fs, ps, h.keep hk hd⟩
theorem ArrAt.below {U : Nat → Prop} {w w' : World} {a s : Nat} {sts : List DSt} (h : ArrAt U w a s sts) (hk : Below w.heap.size w w') : ArrAt U w' a s sts := by
  obtain ⟨v, Fs, ps, h⟩ := h; exact ⟨v, Fs, ps, h.below hk⟩
theorem ArrAt.lt {U : Nat → Prop} {w : World} {a s : Nat} {sts : List DSt} (h : ArrAt U w a s sts) {k : Nat} (hk : U k) : k < w.heap.size := by
  obtain ⟨v, Fs, ps, h⟩ := h; exact h.lt k hk
theorem ArrAt.ok {U : Nat → Prop} {w : World} {a s : Nat} {sts : List DSt} (h : ArrAt U w a s sts) : ∀ st ∈ sts, st.ok s := by
  obtain ⟨v, Fs, ps, h⟩ := h
  intro st hst
  obtain ⟨i, hi, rfl⟩ := List.mem_iff_getElem.1 hst
  exact (h.drv i (ps[i]'(by rw [← h.len]; exact hi)) _ (List.getElem?_eq_getElem _) (List.getElem?_eq_getElem _)).ok
theorem ArrAt.upd {U : Nat → Prop} {w w' : World} {a s : Nat} {sts : List DSt} (h : ArrAt U w a s sts) (hk : Below w.heap.size w w') : AUpd U w w' a s sts := ⟨U, h.below hk, fun _ h _ => h, Keep.of_below hk⟩
theorem AUpd.trans {U U1 : Nat → Prop} {w w1 w2 : World} {a s : Nat} {sts : List DSt} (hU : ∀ k, U1 k → k < w.heap.size → U k) (hK : Keep U w w1) (h : AUpd U1 w1 w2 a s sts) : AUpd U w w2 a s sts := by
  obtain ⟨U2, hA, h2, hK2⟩ := h
  exact ⟨U2, hA, fun k h1 hlt => hU k (h2 k h1 (Nat.lt_of_lt_of_le hlt hK.size)) hlt, hK.trans hK2 (fun k h hlt => hU k h hlt)⟩
/-- One drive went on. -/
theorem ArrB.upd1 {U : Nat → Prop} {w w' : World} {a s : Nat} {v : Value} {Fs : Nat → Nat → Prop} {ps : List Nat} {sts : List DSt} (h : ArrB U w a v Fs ps s sts) {i p : Nat} {st' : DSt} (hp : ps[i]? = some p) (hu : Upd (Fs i) w w' p s st') :
    ∃ U' Fs', ArrB U' w' a v Fs' ps s (sts.set i st') ∧ (∀ k, U' k → k < w.heap.size → U k) ∧ Keep U w w' := by
  obtain ⟨F', hD, hF, hK⟩ := hu
  have hil : i < sts.length := by rw [h.len]; exact (List.getElem?_eq_some_iff.1 hp).1
  have hKU : Keep U w w' := hK.mono (fun k hf _ => h.uf i k hf)
  have hlt' : ∀ k, F' k → k < w'.heap.size := fun k hk => hD.lt hk
  refine ⟨fun k => U k ∨ F' k, fun j k => if j = i then F' k else Fs j k, ⟨?_, ?_, by simpa using h.len, ?_, ?_, h.va, ?_, .inl h.ua, fun k hk => .inl (h.uv k hk), ?_, ?_⟩, fun k hk hlt => hk.elim id (fun hf => h.uf i k (hF k hf hlt)), hKU⟩
  · exact h.box.keep (hK.block a (h.lt a h.ua) (fun hf => (h.fx i a hf).1 rfl))
  · obtain ⟨css, h1, h2, h3, h4, h5⟩ := h.own
    exact ⟨css, ownsRow_keep h1 (fun k hk2 => hK.block k (h.lt k (h.uv k hk2)) (fun hf => (h.fx i k hf).2 hk2)), h2, h3, h4, fun i cs x hc hx => h5 i cs x hc hx⟩
  · intro j q st h1 h2
    by_cases hj : j = i
    · subst hj
      rw [hp] at h1
      injection h1 with h1
      subst h1
      rw [List.getElem?_set_self hil] at h2
      injection h2 with h2
      subst h2
      simpa using hD
    · rw [List.getElem?_set_ne (fun e => hj e.symm)] at h2
      simp only [if_neg hj]
      exact (h.drv j q st h1 h2).keep hK (fun k hf hf2 => hj (h.apart j i k hf hf2))
  · intro j1 j2 k
    by_cases e1 : j1 = i <;> by_cases e2 : j2 = i <;> simp only [e1, e2, if_pos, if_neg, not_false_eq_true]
    · intros; trivial
    · intro hf hg
      exact (h.apart _ _ k (hF k hf (h.lt k (h.uf _ k hg))) hg)
    · intro hf hg
      exact e1 (h.apart _ _ k hf (hF k hg (h.lt k (h.uf _ k hf))))
    · exact h.apart j1 j2 k
  · intro j k hf
    by_cases e1 : j = i
    · simp only [e1, if_pos] at hf
      constructor
      · rintro rfl
        exact (h.fx i k (hF k hf (h.lt k h.ua))).1 rfl
      · intro hv
        exact (h.fx i k (hF k hf (h.lt k (h.uv k hv)))).2 hv
    · simp only [e1, if_neg, not_false_eq_true] at hf
      exact h.fx j k hf
  · intro j k hf
    by_cases e1 : j = i
    · simp only [e1, if_pos] at hf; exact .inr hf
    · simp only [e1, if_neg, not_false_eq_true] at hf; exact .inl (h.uf j k hf)
  · rintro k (hk | hk)
    · exact Nat.lt_of_lt_of_le (h.lt k hk) hK.size
    · exact hlt' k hk
theorem arr_cells {U : Nat → Prop} {w : World} {a s : Nat} {v : Value} {Fs : Nat → Nat → Prop} {ps : List Nat} {sts : List DSt} (h : ArrB U w a v Fs ps s sts) : ∃ A c, v = .slice A sts.length c ∧ w.cell? ⟨a, 0, none⟩ = some (.slice A sts.length c) ∧
    ∀ i, i < sts.length → ∃ g p st, A = some ⟨g, 0, none⟩ ∧ ps[i]? = some p ∧ sts[i]? = some st ∧ w.cell? ⟨g, i, none⟩ = some (.pointer (some ⟨p, 0, none⟩)) ∧ DrvAt (Fs i) w p s st := by
  obtain ⟨A, c, rfl, _⟩ := h.own.form
  refine ⟨A, c, by rw [h.len], by rw [h.len]; exact h.box.cell 0, fun i hi => ?_⟩
  rw [h.len] at hi
  obtain ⟨css, h1, h2, h3, h4, h5⟩ := h.own
  obtain ⟨g, cap, e0, _, _⟩ := h1.form (by omega)
  obtain ⟨rfl, rfl⟩ : A = some ⟨g, 0, none⟩ ∧ c = cap := by simpa using e0
  have hic : css[i]? = some (css[i]'(by omega)) := List.getElem?_eq_getElem (by omega)
  have hip : ps[i]? = some (ps[i]'(by omega)) := List.getElem?_eq_getElem (by omega)
  have his : sts[i]? = some (sts[i]'(by rw [h.len]; exact hi)) := List.getElem?_eq_getElem _
  have hcs := h5 i _ _ hic hip
  refine ⟨g, _, _, rfl, hip, his, ?_, h.drv i _ _ hip his⟩
  have := h1.cellAt i (by omega)
  rw [this]
  have := flatten_get css h4 i _ 0 hic (by omega)
  rw [Nat.mul_one, Nat.add_zero] at this
  rw [this]
  rw [show css[i] = [.pointer (some ⟨ps[i], 0, none⟩)] from hcs]; rfl
end
section

section
variable {U : Nat → Prop} {w : World} {a s : Nat} {v : Value} {Fs : Nat → Nat → Prop} {ps : List Nat} {sts : List DSt}
set_option maxRecDepth 100000 in
theorem anone (h : Hid (ArrB U w a v Fs ps s sts)) (hk : 0 < sts.length) :
    Calls Tryz.prog 75 #[.pointer (some ⟨a, 0, none⟩)] w fun e w' => e = .returned (.bool false) ∧ Below w.heap.size w w' := by
  obtain ⟨A, c, _, c0, _⟩ := arr_cells h.out
  have hk0 : ((sts.length : Int) == 0) = false := by rw [beq_eq_false_iff_ne]; omega
  go_enter Tryz.func75, Tryz.ntmps75
  go_wp2_with fail
  go_ret
  exact ⟨rfl, Below.refl _ _⟩
set_option maxRecDepth 100000 in
theorem an_any (h : Hid (ArrB U w a v Fs ps s sts)) (hk : 0 < sts.length) :
    Calls Tryz.prog 83 #[.pointer (some ⟨a, 0, none⟩)] w fun e w' => e = .returned (.int .i64 sts.length) ∧ Below w.heap.size w w' := by
  go_enter Tryz.func83, Tryz.ntmps83
  go_wp2_with fail
  refine (anone h hk).mono ?_
  rintro e w1 ⟨rfl, t1⟩
  obtain ⟨A, c, _, c0, _⟩ := arr_cells (h.out.below t1)
  go_wp2_with fail
  go_ret
  exact ⟨rfl, t1⟩
set_option maxRecDepth 100000 in
theorem aat_in (h : Hid (ArrB U w a v Fs ps s sts)) (d : Nat) (hd : d < sts.length) {p : Nat} (hp : ps[d]? = some p) :
    Calls Tryz.prog 119 #[.pointer (some ⟨a, 0, none⟩), .int .i64 d] w fun e w' => e = .returned (.pointer (some ⟨p, 0, none⟩)) ∧ Below w.heap.size w w' := by
  have h0 : (0 : Int) ≤ (d : Int) := Int.natCast_nonneg _
  have h1 : (d : Int) < (sts.length : Int) := by omega
  go_enter Tryz.func119, Tryz.ntmps119
  go_wp2_with fail
  refine (anone h (by omega)).mono ?_
  rintro e w1 ⟨rfl, t1⟩
  obtain ⟨A, c, _, c0, hc⟩ := arr_cells (h.out.below t1)
  obtain ⟨g, p', st, rfl, hp', hst, cg, _⟩ := hc d hd
  obtain rfl : p' = p := by rw [hp] at hp'; injection hp' with hp'; exact hp'.symm
  clear hc hst
  go_wp2_with fail
  go_ret
  exact ⟨rfl, t1⟩
set_option maxRecDepth 100000 in
theorem aat_out (h : Hid (ArrB U w a v Fs ps s sts)) (hk : 0 < sts.length) (d : Int) (hd : ¬ (0 ≤ d ∧ d < sts.length)) :
    Calls Tryz.prog 119 #[.pointer (some ⟨a, 0, none⟩), .int .i64 d] w fun e w' => e = .returned (.pointer none) ∧ Below w.heap.size w w' := by
  by_cases h0 : d < 0
  · have d0 : decide (d < 0) = true := by simpa using h0
    clear hd
    go_enter Tryz.func119, Tryz.ntmps119
    go_wp2_with fail
    refine (anone h hk).mono ?_
    rintro e w1 ⟨rfl, t1⟩
    go_wp2_with fail
    go_ret
    exact ⟨rfl, t1⟩
  · have d0 : decide (d < 0) = false := by simpa using h0
    have d1 : decide ((sts.length : Int) ≤ d) = true := by simp; omega
    clear hd
    go_enter Tryz.func119, Tryz.ntmps119
    go_wp2_with fail
    refine (anone h hk).mono ?_
    rintro e w1 ⟨rfl, t1⟩
    obtain ⟨A, c, _, c0, _⟩ := arr_cells (h.out.below t1)
    go_wp2_with fail
    go_ret
    exact ⟨rfl, t1⟩
set_option maxRecDepth 100000 in
theorem areach_in (h : Hid (ArrB U w a v Fs ps s sts)) (d : Nat) (hd : d < sts.length) {p : Nat} (hp : ps[d]? = some p) :
    Calls Tryz.prog 77 #[.pointer (some ⟨a, 0, none⟩), .int .i64 d] w fun e w' => e = .returned (.tuple #[.pointer (some ⟨p, 0, none⟩), .int .i64 0]) ∧ Below w.heap.size w w' := by
  go_enter Tryz.func77, Tryz.ntmps77
  go_wp2_with fail
  refine (anone h (by omega)).mono ?_
  rintro e w1 ⟨rfl, t1⟩
  have H1 := Lib.hid (h.out.below t1)
  go_wp2_with fail
  refine (aat_in H1 d hd hp).mono ?_
  rintro e w2 ⟨rfl, t2⟩
  go_wp2_with fail
  go_ret2
  exact ⟨rfl, t1.trans (t2.mono t1.size)⟩
set_option maxRecDepth 100000 in
theorem areach_out (h : Hid (ArrB U w a v Fs ps s sts)) (hk : 0 < sts.length) (d : Int) (hd : ¬ (0 ≤ d ∧ d < sts.length)) :
    Calls Tryz.prog 77 #[.pointer (some ⟨a, 0, none⟩), .int .i64 d] w fun e w' => e = .returned (.tuple #[.pointer none, .int .i64 2]) ∧ Below w.heap.size w w' := by
  go_enter Tryz.func77, Tryz.ntmps77
  go_wp2_with fail
  refine (anone h hk).mono ?_
  rintro e w1 ⟨rfl, t1⟩
  have H1 := Lib.hid (h.out.below t1)
  go_wp2_with fail
  refine (aat_out H1 hk d hd).mono ?_
  rintro e w2 ⟨rfl, t2⟩
  go_wp2_with fail
  go_ret2
  exact ⟨rfl, t1.trans (t2.mono t1.size)⟩

end
end
section

theorem BoxAt.bools {w : World} {b : Nat} {xs : List Bool} (h : BoxAt w b (xs.map Value.bool).toArray) {S : Nat → Prop} (hS : S b) : RdL BoolR 1 S w (some ⟨b, 0, none⟩) xs.length xs :=
  ⟨rfl, fun _ => ⟨b, 0, rfl, hS, h.lt, fun i x hx => ⟨[.bool x], rfl, rfl, fun j v hj => by
    match j, hj with
    | 0, hj =>
      simp only [List.getElem?_cons_zero, Option.some.injEq] at hj
      subst hj
      rw [h.cell]
      simp [hx]⟩⟩⟩
theorem bool_at {S : Nat → Prop} {w : World} {A : Option Addr} {m : Nat} {xs : List Bool} (h : RdL BoolR 1 S w A m xs) {i : Nat} (hi : i < m) : ∃ b o x, A = some ⟨b, o, none⟩ ∧ xs[i]? = some x ∧ w.cell? ⟨b, o + i, none⟩ = some (.bool x) := by
  obtain ⟨b, o, rfl, _, hlt⟩ := h.addr hi
  obtain ⟨hl, cs, h1, h2, h3⟩ := h.at hi
  have h4 : cs = [.bool xs[i]] := h2
  subst h4
  refine ⟨b, o, xs[i], rfl, by simp [hl], ?_⟩
  simpa using h3 0 _ rfl
def cnt (l : List Bool) : Nat := l.count true
theorem cnt_snoc (l : List Bool) (x : Bool) : cnt (l ++ [x]) = cnt l + (if x then 1 else 0) := by cases x <;> simp [cnt]
theorem cnt_le (l : List Bool) : cnt l ≤ l.length := List.count_le_length
set_option maxRecDepth 100000 in
theorem counted_any {S : Nat → Prop} {w : World} {A : Option Addr} {m c : Nat} {xs : List Bool} (R : Hid (RdL BoolR 1 S w A m xs)) (hm : m < 1000000) :
    Calls Tryz.prog 72 #[.slice A m c] w fun e w' => e = .returned (.int .i64 (cnt xs)) ∧ Below w.heap.size w w' := by
  go_enter Tryz.func72, Tryz.ntmps72
  go_wp2_with fail
  go_loopw [3, 8] (fun vn vi wr => ∃ i : Nat, i ≤ m ∧ vn = .int .i64 (cnt (xs.take i)) ∧ vi = .int .i64 i ∧ wr = w) (fun _ vi _ => m - (intOf vi).toNat)
  case atStart => exact ⟨0, Nat.zero_le _, rfl, rfl, rfl⟩
  case round =>
    obtain ⟨i, hi, rfl, rfl, rfl⟩ := hrel
    by_cases hlt : i < m
    · obtain ⟨b, o, x, rfl, hx, y0⟩ := bool_at R.out hlt
      have h1 : (i : Int) < (m : Int) := by omega
      have h2 : (0 : Int) ≤ (i : Int) := Int.natCast_nonneg _
      have h3 : (i : Int) < 1000000 := by omega
      have htk : xs.take (i + 1) = xs.take i ++ [x] := by
        have hil := (List.getElem?_eq_some_iff.1 hx).1
        rw [List.take_succ_eq_append_getElem hil, (List.getElem?_eq_some_iff.1 hx).2]
      have hc := cnt_snoc (xs.take i) x
      rw [← htk] at hc
      have hcl := cnt_le (xs.take i)
      have hcl2 : (xs.take i).length ≤ i := by simp; omega
      have hw : IntKind.i64.wrap ((cnt (xs.take i) : Int) + 1) = (cnt (xs.take i) : Int) + 1 := by rw [IntKind.wrap_i64]; omega
      have HC := Lib.hid hc
      clear hc htk hx hcl hcl2
      cases x with
      | true =>
        go_wp2_with fail
        refine ⟨⟨i + 1, by omega, ?_, by go_num, trivial⟩, by simp [intOf]; omega⟩
        rw [HC.out]; rfl
      | false =>
        go_wp2_with fail
        refine ⟨⟨i + 1, by omega, ?_, by go_num, trivial⟩, by simp [intOf]; omega⟩
        rw [HC.out]; rfl
    · obtain rfl : i = m := by omega
      have h1 : ¬ (i : Int) < (i : Int) := by omega
      have hx : xs.take i = xs := by rw [List.take_of_length_le]; rw [R.out.1]; exact Nat.le_refl _
      have HX := Lib.hid hx
      clear hx
      go_wp2_with fail
      go_ret
      rw [HX.out]
      exact ⟨rfl, Below.refl _ _⟩

section
variable {U : Nat → Prop} {w : World} {a s : Nat} {v : Value} {Fs : Nat → Nat → Prop} {ps : List Nat} {sts : List DSt}
theorem ArrB.p_at (h : ArrB U w a v Fs ps s sts) {d : Nat} {st : DSt} (hst : sts[d]? = some st) : ∃ p, ps[d]? = some p ∧ DrvAt (Fs d) w p s st ∧ d < sts.length := by
  have hd : d < sts.length := (List.getElem?_eq_some_iff.1 hst).1
  exact ⟨_, List.getElem?_eq_getElem (by rw [← h.len]; exact hd), h.drv d _ _ (List.getElem?_eq_getElem _) hst, hd⟩
/-- One drive goes on behind something that changed nothing. -/
theorem ArrB.upd2 (h : ArrB U w a v Fs ps s sts) {w1 w2 : World} {i p : Nat} {st' : DSt} (hb : Below w.heap.size w w1) (hp : ps[i]? = some p) (hu : Upd (Fs i) w1 w2 p s st') : AUpd U w w2 a s (sts.set i st') := by
  obtain ⟨U', Fs', hB, h1, h2⟩ := (h.below hb).upd1 hp hu
  exact ⟨U', ⟨v, Fs', ps, hB⟩, fun k hk hlt => h1 k hk (Nat.lt_of_lt_of_le hlt hb.size), (Keep.of_below (F := U) hb).trans h2 (fun k h _ => h)⟩
set_option maxRecDepth 100000 in
theorem achange_in (h : Hid (ArrB U w a v Fs ps s sts)) (d : Nat) {st st' : DSt} (hst : sts[d]? = some st) (f : FuncId)
    (hc : ∀ (F : Nat → Prop) (p : Nat) (w' : World), Hid (DrvAt F w' p s st) → Calls Tryz.prog f #[.pointer (some ⟨p, 0, none⟩)] w' fun e w'' => e = .returned (.tuple #[]) ∧ Upd F w' w'' p s st') (hcf : ∀ args w, (callFunc f args).run Tryz.prog w = .ok (.enter f args) w) :
    Calls Tryz.prog 59 #[.pointer (some ⟨a, 0, none⟩), .int .i64 d, .func (.func f) #[] #[]] w fun e w' => e = .returned (.int .i64 0) ∧ AUpd U w w' a s (sts.set d st') := by
  obtain ⟨p, hp, hD, hd⟩ := h.out.p_at hst
  have HD := Lib.hid hD
  have HC := Lib.hid hc
  clear hD hc
  go_enter Tryz.func59, Tryz.ntmps59
  go_wp2_with fail
  refine (areach_in h d hd hp).mono ?_
  rintro e w1 ⟨rfl, t1⟩
  have T1 := Lib.hid t1
  clear t1
  go_wp2_with fail
  refine (HC.out _ _ w1 (Lib.hid (HD.out.below T1.out))).mono ?_
  rintro e w2 ⟨rfl, u2⟩
  have U2 := Lib.hid u2
  clear u2 hcf
  go_wp2_with fail
  go_ret
  exact ⟨rfl, h.out.upd2 T1.out hp U2.out⟩
set_option maxRecDepth 100000 in
theorem achange_out (h : Hid (ArrB U w a v Fs ps s sts)) (hk : 0 < sts.length) (d : Int) (hd : ¬ (0 ≤ d ∧ d < sts.length)) (x : Value) :
    Calls Tryz.prog 59 #[.pointer (some ⟨a, 0, none⟩), .int .i64 d, x] w fun e w' => e = .returned (.int .i64 2) ∧ Below w.heap.size w w' := by
  go_enter Tryz.func59, Tryz.ntmps59
  go_wp2_with fail
  refine (areach_out h hk d hd).mono ?_
  rintro e w1 ⟨rfl, t1⟩
  go_wp2_with fail
  go_ret
  exact ⟨rfl, t1⟩
end
theorem call_fail (args : Array Value) (w : World) : (callFunc 60 args).run Tryz.prog w = .ok (.enter 60 args) w := by go_simp
theorem call_repl (args : Array Value) (w : World) : (callFunc 110 args).run Tryz.prog w = .ok (.enter 110 args) w := by go_simp
theorem call_flush (args : Array Value) (w : World) : (callFunc 74 args).run Tryz.prog w = .ok (.enter 74 args) w := by go_simp
/-- Fail, whatever is asked. -/
def failA (s : Nat) (sts : List DSt) (d : Int) : List DSt := if 0 ≤ d ∧ d < sts.length then sts.set d.toNat (DSt.gone s) else sts
def replA (s : Nat) (sts : List DSt) (d : Int) : List DSt := if 0 ≤ d ∧ d < sts.length then sts.set d.toNat (DSt.new s) else sts
set_option maxRecDepth 100000 in
theorem afail_any {U : Nat → Prop} {w : World} {a s : Nat} {sts : List DSt} (h : Hid (ArrAt U w a s sts)) (hk : 0 < sts.length) (d : Int) :
    Calls Tryz.prog 18 #[.pointer (some ⟨a, 0, none⟩), .int .i64 d] w fun e w' => e = .returned (.int .i64 (if 0 ≤ d ∧ d < sts.length then 0 else 2)) ∧ AUpd U w w' a s (failA s sts d) := by
  obtain ⟨v, Fs, ps, hB⟩ := h.out
  have HB := Lib.hid hB
  clear hB
  unfold failA
  by_cases hd : 0 ≤ d ∧ d < sts.length
  · rw [if_pos hd, if_pos hd]
    obtain ⟨k, rfl⟩ : ∃ k : Nat, d = k := ⟨d.toNat, by omega⟩
    obtain ⟨st, hst⟩ : ∃ st, sts[k]? = some st := ⟨_, List.getElem?_eq_getElem (by omega)⟩
    clear hd
    go_enter Tryz.func18, Tryz.ntmps18
    go_wp2_with fail
    refine (achange_in HB k hst _ (fun F p w' hD => fail_any hD) call_fail).mono ?_
    rintro e w1 ⟨rfl, u⟩
    have UU := Lib.hid u
    clear u
    go_wp2_with fail
    go_ret
    exact ⟨rfl, UU.out⟩
  · rw [if_neg hd, if_neg hd]
    go_enter Tryz.func18, Tryz.ntmps18
    go_wp2_with fail
    refine (achange_out HB hk d hd _).mono ?_
    rintro e w1 ⟨rfl, t1⟩
    go_wp2_with fail
    go_ret
    exact ⟨rfl, h.out.upd t1⟩
set_option maxRecDepth 100000 in
theorem arepl_any {U : Nat → Prop} {w : World} {a s : Nat} {sts : List DSt} (h : Hid (ArrAt U w a s sts)) (hk : 0 < sts.length) (d : Int) :
    Calls Tryz.prog 49 #[.pointer (some ⟨a, 0, none⟩), .int .i64 d] w fun e w' => e = .returned (.int .i64 (if 0 ≤ d ∧ d < sts.length then 0 else 2)) ∧ AUpd U w w' a s (replA s sts d) := by
  obtain ⟨v, Fs, ps, hB⟩ := h.out
  have HB := Lib.hid hB
  clear hB
  unfold replA
  by_cases hd : 0 ≤ d ∧ d < sts.length
  · rw [if_pos hd, if_pos hd]
    obtain ⟨k, rfl⟩ : ∃ k : Nat, d = k := ⟨d.toNat, by omega⟩
    obtain ⟨st, hst⟩ : ∃ st, sts[k]? = some st := ⟨_, List.getElem?_eq_getElem (by omega)⟩
    clear hd
    go_enter Tryz.func49, Tryz.ntmps49
    go_wp2_with fail
    refine (achange_in HB k hst _ (fun F p w' hD => replace_any hD) call_repl).mono ?_
    rintro e w1 ⟨rfl, u⟩
    have UU := Lib.hid u
    clear u
    go_wp2_with fail
    go_ret
    exact ⟨rfl, UU.out⟩
  · rw [if_neg hd, if_neg hd]
    go_enter Tryz.func49, Tryz.ntmps49
    go_wp2_with fail
    refine (achange_out HB hk d hd _).mono ?_
    rintro e w1 ⟨rfl, t1⟩
    go_wp2_with fail
    go_ret
    exact ⟨rfl, h.out.upd t1⟩
end
section

section
variable {U : Nat → Prop} {w : World} {a s : Nat} {v : Value} {Fs : Nat → Nat → Prop} {ps : List Nat} {sts : List DSt}
def wrDA (n : Nat) (st : DSt) (z : Int) (bs : List Int) : DSt := if readyE st.dead n z = 0 ∧ bs.length = 64 then st.write z bs else st
set_option maxRecDepth 100000 in
theorem awrite_in (h : Hid (ArrB U w a v Fs ps s sts)) (d : Nat) {st : DSt} (hst : sts[d]? = some st) (z : Int) {S : Nat → Prop} {A : Option Addr} {m c : Nat} {bs : List Int} (hb : Hid (RdL U8R 1 S w A m bs)) (hS : ∀ b, S b → ¬ U b) (hcl : st.cache.length < 1000000) :
    Calls Tryz.prog 181 #[.pointer (some ⟨a, 0, none⟩), .int .i64 d, .int .i64 z, .slice A m c] w fun e w' => e = .returned (.int .i64 (writeE st.dead s z m)) ∧ AUpd U w w' a s (sts.set d (wrDA s st z bs)) := by
  obtain ⟨p, hp, hD, hd⟩ := h.out.p_at hst
  have HD := Lib.hid hD
  have HS := Lib.hid hS
  clear hD hS
  go_enter Tryz.func181, Tryz.ntmps181
  go_wp2_with fail
  refine (areach_in h d hd hp).mono ?_
  rintro e w1 ⟨rfl, t1⟩
  have T1 := Lib.hid t1
  clear t1
  go_wp2_with fail
  refine (write_all (Lib.hid (HD.out.below T1.out)) z (Lib.hid (hb.out.below U8R.stable T1.out)) (fun b hs hf => HS.out b hs (h.out.uf d b hf)) hcl).mono ?_
  rintro e w2 ⟨rfl, u2⟩
  obtain rfl : bs.length = m := hb.out.1
  have U2 := Lib.hid (show Upd (Fs d) w1 w2 p s (wrDA s st z bs) from u2)
  clear u2
  go_wp2_with fail
  go_ret
  exact ⟨rfl, h.out.upd2 T1.out hp U2.out⟩
def rtDA (n : Nat) (st : DSt) (z off mask : Int) : DSt := if rotDOk st n z off mask then st.rot z.toNat off.toNat mask else st
/-! ### All of them, one by one -/
def stepTo (g : Nat → DSt → DSt) (i : Nat) (sts : List DSt) : List DSt := sts.mapIdx (fun j st => if j < i then g j st else st)
theorem stepTo_get (g : Nat → DSt → DSt) (i : Nat) (sts : List DSt) (j : Nat) : (stepTo g i sts)[j]? = (sts[j]?).map (fun st => if j < i then g j st else st) := by simp [stepTo]
theorem stepTo_len (g : Nat → DSt → DSt) (i : Nat) (sts : List DSt) : (stepTo g i sts).length = sts.length := by simp [stepTo]
theorem stepTo_zero (g : Nat → DSt → DSt) (sts : List DSt) : stepTo g 0 sts = sts := by
  apply List.ext_getElem?
  intro j
  rw [stepTo_get]
  cases sts[j]? <;> simp
theorem stepTo_at (g : Nat → DSt → DSt) (i : Nat) (sts : List DSt) {st : DSt} (h : sts[i]? = some st) : (stepTo g i sts)[i]? = some st := by rw [stepTo_get, h]; simp
theorem stepTo_succ (g : Nat → DSt → DSt) (i : Nat) (sts : List DSt) {st : DSt} (h : sts[i]? = some st) : (stepTo g i sts).set i (g i st) = stepTo g (i + 1) sts := by
  apply List.ext_getElem?
  intro j
  rw [stepTo_get]
  by_cases hj : i = j
  · subst hj
    rw [List.getElem?_set_self (by rw [stepTo_len]; exact (List.getElem?_eq_some_iff.1 h).1), h]; simp
  · rw [List.getElem?_set_ne hj, stepTo_get]
    cases sts[j]? with
    | none => rfl
    | some y =>
      simp only [Option.map_some, Option.some.injEq]
      by_cases h1 : j < i
      · rw [if_pos h1, if_pos (by omega)]
      · rw [if_neg h1, if_neg (by omega)]
theorem stepTo_all (g : Nat → DSt → DSt) (sts : List DSt) : stepTo g sts.length sts = sts.mapIdx g := by
  apply List.ext_getElem?
  intro j
  rw [stepTo_get, List.getElem?_mapIdx]
  cases h : sts[j]? with
  | none => rfl
  | some y =>
    have := (List.getElem?_eq_some_iff.1 h).1
    simp [this]

def aliveL (sts : List DSt) : List Bool := sts.map (fun st => !st.dead)
end
end
section

theorem makeBoolsL (k : Nat) (hk : k ≤ 600) (w : World) : (Instr.makeSlice 118 (.int .i64 (k : Int)) (.int .i64 (k : Int))).run Tryz.prog w = .ok (.slice (some ⟨w.heap.size, 0, none⟩) k k) (w.alloc (.cells ((List.replicate k false).map Value.bool).toArray 4)) := by
  rw [List.map_replicate, List.toArray_replicate]
  exact makeBools k hk w
theorem mapIdx_const (g : DSt → DSt) (sts : List DSt) : sts.mapIdx (fun _ => g) = sts.map g := by
  apply List.ext_getElem?
  intro j
  rw [List.getElem?_mapIdx, List.getElem?_map]
def okTo (r : DSt → Int) (i : Nat) (sts : List DSt) : List Bool := sts.mapIdx (fun j st => if j < i then r st == 0 else false)
theorem okTo_get (r : DSt → Int) (i : Nat) (sts : List DSt) (j : Nat) : (okTo r i sts)[j]? = (sts[j]?).map (fun st => if j < i then r st == 0 else false) := by simp [okTo]
theorem okTo_len (r : DSt → Int) (i : Nat) (sts : List DSt) : (okTo r i sts).length = sts.length := by simp [okTo]
theorem okTo_zero (r : DSt → Int) (sts : List DSt) : okTo r 0 sts = List.replicate sts.length false := by
  apply List.ext_getElem?
  intro j
  rw [okTo_get, List.getElem?_replicate]
  by_cases h : j < sts.length
  · rw [List.getElem?_eq_getElem h]; simp [h]
  · rw [List.getElem?_eq_none (by omega)]; simp [h]
theorem okTo_succ (r : DSt → Int) (i : Nat) (sts : List DSt) {st : DSt} (h : sts[i]? = some st) : (okTo r i sts).set i (r st == 0) = okTo r (i + 1) sts := by
  apply List.ext_getElem?
  intro j
  rw [okTo_get]
  by_cases hj : i = j
  · subst hj
    rw [List.getElem?_set_self (by rw [okTo_len]; exact (List.getElem?_eq_some_iff.1 h).1), h]; simp
  · rw [List.getElem?_set_ne hj, okTo_get]
    cases sts[j]? with
    | none => rfl
    | some y =>
      simp only [Option.map_some, Option.some.injEq]
      by_cases h1 : j < i
      · rw [if_pos h1, if_pos (by omega)]
      · rw [if_neg h1, if_neg (by omega)]
theorem okTo_all (r : DSt → Int) (sts : List DSt) : okTo r sts.length sts = sts.map (fun st => r st == 0) := by
  apply List.ext_getElem?
  intro j
  rw [okTo_get, List.getElem?_map]
  cases h : sts[j]? with
  | none => rfl
  | some y =>
    have := (List.getElem?_eq_some_iff.1 h).1
    simp [this]

section
variable {U : Nat → Prop} {w : World} {a s : Nat} {v : Value} {Fs : Nat → Nat → Prop} {ps : List Nat} {sts : List DSt}
def EachE (U : Nat → Prop) (w : World) (a : Nat) (v : Value) (ps : List Nat) (s : Nat) (sts : List DSt) (g : DSt → DSt) (r : DSt → Int) (e : Ending) (w' : World) : Prop := ∃ ob U' Fs', e = .returned (.slice (some ⟨ob, 0, none⟩) sts.length sts.length) ∧ BoxAt w' ob ((sts.map (fun st => r st == 0)).map Value.bool).toArray ∧ w.heap.size ≤ ob ∧ ¬ U' ob ∧ ArrB U' w' a v Fs' ps s (sts.map g) ∧ (∀ k, U' k → k < w.heap.size → U k) ∧ Keep U w w'
set_option maxRecDepth 100000 in
set_option maxHeartbeats 4000000 in
theorem aeach_any (h : Hid (ArrB U w a v Fs ps s sts)) (hk : 0 < sts.length) (hk2 : sts.length ≤ 600) (f : FuncId) (g : DSt → DSt) (r : DSt → Int)
    (hc : ∀ (i : Nat) (st : DSt), sts[i]? = some st → ∀ (F : Nat → Prop) (p : Nat) (w' : World), Hid (DrvAt F w' p s st) → Calls Tryz.prog f #[.pointer (some ⟨p, 0, none⟩)] w' fun e w'' => e = .returned (.int .i64 (r st)) ∧ Upd F w' w'' p s (g st)) (hcf : ∀ args w, (callFunc f args).run Tryz.prog w = .ok (.enter f args) w) :
    Calls Tryz.prog 73 #[.pointer (some ⟨a, 0, none⟩), .func (.func f) #[] #[]] w fun e w' => EachE U w a v ps s sts g r e w' := by
  have HC := Lib.hid hc
  clear hc
  go_enter Tryz.func73, Tryz.ntmps73
  go_wp2_with fail
  refine (an_any h hk).mono ?_
  rintro e w1 ⟨rfl, t1⟩
  have hmk := makeBoolsL sts.length hk2 w1
  have b1 := BoxAt.new w1 ((List.replicate sts.length false).map Value.bool).toArray 4
  have a1 : Below w1.heap.size w1 (w1.alloc (.cells ((List.replicate sts.length false).map Value.bool).toArray 4)) := (Below.refl _ _).alloc (Nat.le_refl _) _
  obtain ⟨w2, hw2⟩ : ∃ w2, w1.alloc (.cells ((List.replicate sts.length false).map Value.bool).toArray 4) = w2 := ⟨_, rfl⟩
  obtain ⟨ob, hob⟩ : ∃ ob, w1.heap.size = ob := ⟨_, rfl⟩
  rw [hw2] at hmk b1 a1
  have a12 := below_then a1 t1
  have HA := Lib.hid ((h.out.below t1).below a1)
  have HK := Lib.hid (Keep.of_below (F := U) a12)
  have hob1 : w.heap.size ≤ ob := by rw [← hob]; exact t1.size
  have hnU : ¬ U ob := fun hu => by have := h.out.lt ob hu; omega
  rw [hob] at hmk b1
  have HB : Hid (BoxAt w2 ob ((okTo r 0 sts).map Value.bool).toArray) := Lib.hid (by rw [okTo_zero]; exact b1)
  have HA0 : Hid (ArrB U w2 a v Fs ps s (stepTo (fun _ => g) 0 sts)) := Lib.hid (by rw [stepTo_zero]; exact HA.out)
  have hlob : ob < w2.heap.size := b1.lt
  clear b1 a1 a12 t1 hw2 HA hob
  go_wp2_with fail
  clear hmk
  go_loopw [12] (fun vi wr => ∃ (i : Nat) (U' : Nat → Prop) (Fs' : Nat → Nat → Prop), i ≤ sts.length ∧ vi = .int .i64 i ∧ Hid (BoxAt wr ob ((okTo r i sts).map Value.bool).toArray) ∧ ¬ U' ob ∧ Hid (ArrB U' wr a v Fs' ps s (stepTo (fun _ => g) i sts)) ∧ Hid (∀ k, U' k → k < w.heap.size → U k) ∧ Hid (Keep U w wr)) (fun vi _ => sts.length - (intOf vi).toNat)
  case atStart => exact ⟨0, U, Fs, Nat.zero_le _, rfl, HB, hnU, HA0, Lib.hid (fun _ h _ => h), HK⟩
  case round =>
    clear HB HA0 HK hnU hlob
    obtain ⟨wo, rfl⟩ : ∃ wo, wo = wr := ⟨_, rfl⟩
    obtain ⟨i, U', Fs', hi, rfl, B, hn, A, hU, K⟩ := hrel
    by_cases hlt : i < sts.length
    · obtain ⟨st, hst⟩ : ∃ st, sts[i]? = some st := ⟨_, List.getElem?_eq_getElem hlt⟩
      obtain ⟨AA, cc, hv, c0, hcl⟩ := arr_cells A.out
      rw [stepTo_len] at c0 hcl
      obtain ⟨gb, p, st', rfl, hp, hst', cg, hD⟩ := hcl i hlt
      obtain rfl : st' = st := by rw [stepTo_at _ _ _ hst] at hst'; injection hst' with e; exact e.symm
      have h1 : (i : Int) < (sts.length : Int) := by omega
      have h2 : (0 : Int) ≤ (i : Int) := Int.natCast_nonneg _
      have h3 : (i : Int) < 600 := by omega
      have HD := Lib.hid hD
      have HP := Lib.hid hp
      have HST := Lib.hid hst
      clear hcl hD hst' hp hst hv
      go_wp2_with fail
      refine (HC.out i st' HST.out _ p wo HD).mono ?_
      rintro e w3 ⟨rfl, u3⟩
      obtain ⟨U2, Fs2, A2, hU2, K2⟩ := A.out.upd1 HP.out u3
      rw [stepTo_succ _ _ _ HST.out] at A2
      have B2 := B.out.keeps K2 hn
      have z2 := B2.frozen i
      have q2 : ∃ q, w3.cell? ⟨ob, i, none⟩ = some q := by
        rw [B2.cell]
        exact ⟨_, Array.getElem?_eq_getElem (by simp [okTo_len]; exact hlt)⟩
      obtain ⟨q, q2⟩ := q2
      have hlo : ob < wo.heap.size := B.out.lt
      have hn2 : ¬ U2 ob := fun hu => hn (hU2 ob hu hlo)
      have B3 := Lib.hid (B2.set i (.bool (r st' == 0)))
      have A3 := Lib.hid (A2.keep ((Keep.refl (fun k => k = ob) w3).setCell (p := ⟨ob, i, none⟩) (fun _ => rfl) (.bool (r st' == 0))) (fun k hu e => hn2 (e ▸ hu)))
      have K3 := Lib.hid ((K.out.trans (G := U') K2 (fun k hu hlt => hU.out k hu hlt)).setCell (p := ⟨ob, i, none⟩) (fun hlt => by simp only at hlt; omega) (.bool (r st' == 0)))
      have hsz := K.out.size
      have hU3 := Lib.hid (fun k hu (hlt : k < w.heap.size) => hU.out k (hU2 k hu (by omega)) hlt)
      have hB : (((okTo r i sts).map Value.bool).toArray).setIfInBounds i (.bool (r st' == 0)) = ((okTo r (i + 1) sts).map Value.bool).toArray := by
        rw [← okTo_succ r i sts HST.out, List.map_set]; simp
      rw [hB] at B3
      clear c0 cg u3 A2 hU2 K2 B2 hB hsz
      go_wp2_with fail
      exact ⟨⟨i + 1, U2, Fs2, by omega, by go_num, B3, hn2, A3, hU3, K3⟩, by simp [intOf]; omega⟩
    · obtain rfl : i = sts.length := by omega
      have h1 : ¬ (sts.length : Int) < (sts.length : Int) := by omega
      go_wp2_with fail
      go_ret
      rw [okTo_all] at B
      rw [stepTo_all] at A
      refine ⟨ob, U', Fs', rfl, B.out, hob1, hn, ?_, hU.out, K.out⟩
      have := A.out
      rwa [mapIdx_const] at this
def flushG (st : DSt) : DSt := if st.dead = false then st.settle (fun _ => true) else st
theorem flush_exact {F : Nat → Prop} {w : World} {p n : Nat} {st : DSt} (h : Hid (DrvAt F w p n st)) (hcl : st.cache.length < 1000000) :
    Calls Tryz.prog 74 #[.pointer (some ⟨p, 0, none⟩)] w fun e w' => e = .returned (.int .i64 (if st.dead then 90 else 0)) ∧ Upd F w w' p n (flushG st) := by
  unfold flushG
  cases hd : st.dead with
  | false =>
    refine (flush_good h hd hcl).mono ?_
    rintro e w' ⟨rfl, hu⟩
    exact ⟨rfl, hu⟩
  | true =>
    refine (flush_dead h hd).mono ?_
    rintro e w' ⟨rfl, hu⟩
    exact ⟨rfl, h.out.upd hu⟩
set_option maxRecDepth 100000 in
theorem aflush_any {sts : List DSt} (h : Hid (ArrAt U w a s sts)) (hk : 0 < sts.length) (hk2 : sts.length ≤ 600) (hcl : Hid (∀ st ∈ sts, st.cache.length < 1000000)) :
    Calls Tryz.prog 30 #[.pointer (some ⟨a, 0, none⟩)] w fun e w' => e = .returned (.int .i64 (cnt (aliveL sts))) ∧ AUpd U w w' a s (sts.map flushG) := by
  obtain ⟨v, Fs, ps, hB⟩ := h.out
  have HB := Lib.hid hB
  clear hB
  go_enter Tryz.func30, Tryz.ntmps30
  go_wp2_with fail
  refine (aeach_any HB hk hk2 _ flushG (fun st => if st.dead then 90 else 0) (fun i st hst F p w' hD => flush_exact hD (hcl.out st (List.mem_of_getElem? hst))) call_flush).mono ?_
  rintro e w1 ⟨ob, U', Fs', rfl, hbx, hob, hn, hA, hU, hK⟩
  have hal : sts.map (fun st => (if st.dead then (90 : Int) else 0) == 0) = aliveL sts := by
    unfold aliveL
    refine List.map_congr_left (fun st _ => ?_)
    cases st.dead <;> rfl
  rw [hal] at hbx
  have hln : (aliveL sts).length = sts.length := by simp [aliveL]
  have R := BoxAt.bools hbx (S := fun b => b = ob) rfl
  rw [hln] at R
  have HR := Lib.hid R
  have HA := Lib.hid hA
  have HU := Lib.hid hU
  have HK := Lib.hid hK
  clear hal hbx hln R hA hU hK
  go_wp2_with fail
  refine (counted_any HR (by omega)).mono ?_
  rintro e w2 ⟨rfl, t2⟩
  go_wp2_with fail
  go_ret
  exact ⟨rfl, U', ⟨v, Fs', ps, HA.out.below t2⟩, HU.out, HK.out.trans (G := fun _ => False) (Keep.of_below t2) (fun _ h => h.elim)⟩
end
end
section
attribute [local go_sem ↓] run_min_as run_max_as

/-- Bytes, or bools, as they lie in a row. -/
def BytesR (S : Nat → Prop) (w : World) (cs : List Value) (x : List Int) : Prop := ∃ A m c, cs = [.slice A m c] ∧ RdL U8R 1 S w A m x
theorem BytesR.stable : Stable BytesR := by
  rintro S S' w w' cs e ⟨A, m, c, rfl, h⟩ hk
  exact ⟨A, m, c, rfl, h.stable U8R.stable hk⟩
theorem BytesR.one : ∀ S w cs x, BytesR S w cs x → ∀ u ∈ cs, u.oneCell' = true := by
  rintro S w cs x ⟨A, m, c, rfl, _⟩ u hu
  simp at hu
  subst hu; rfl
def BoolsR (S : Nat → Prop) (w : World) (cs : List Value) (x : List Bool) : Prop := ∃ A m c, cs = [.slice A m c] ∧ RdL BoolR 1 S w A m x
theorem BoolsR.stable : Stable BoolsR := by
  rintro S S' w w' cs e ⟨A, m, c, rfl, h⟩ hk
  exact ⟨A, m, c, rfl, h.stable BoolR.stable hk⟩
theorem BoolsR.one : ∀ S w cs x, BoolsR S w cs x → ∀ u ∈ cs, u.oneCell' = true := by
  rintro S w cs x ⟨A, m, c, rfl, _⟩ u hu
  simp at hu
  subst hu; rfl
def kAt (ks : List (List Bool)) (d : Nat) : List Bool := ks.getD d []
section
variable {U : Nat → Prop} {w : World} {a s : Nat} {v : Value} {Fs : Nat → Nat → Prop} {ps : List Nat} {sts : List DSt}
def crashG (ks : List (List Bool)) (d : Nat) (st : DSt) : DSt := st.settle (keepOf (kAt ks d))
end
end
section

/-- A row of bytes of the call's own, each cell still to be set. -/
def RowB (B : Nat) (w : World) (ob k : Nat) (xs : List (List Int)) : Prop := ∃ vs : List Value, BoxAt w ob vs.toArray ∧ vs.length = k ∧ xs.length = k ∧ ∀ (j : Nat) (v : Value) (x : List Int), vs[j]? = some v → xs[j]? = some x → ∃ A m c, v = .slice A m c ∧ RdL U8R 1 (fun b => B ≤ b ∧ b ≠ ob) w A m x
theorem RowB.new (B : Nat) (w : World) (k : Nat) (T : TypeId) : RowB B (w.alloc (.cells (List.replicate k (Value.slice none 0 0)).toArray T)) w.heap.size k (List.replicate k []) := by
  refine ⟨List.replicate k (.slice none 0 0), BoxAt.new _ _ _, by simp, by simp, fun j v x hv hx => ?_⟩
  have h1 := List.eq_of_mem_replicate (List.mem_of_getElem? hv)
  have h2 := List.eq_of_mem_replicate (List.mem_of_getElem? hx)
  subst h1; subst h2
  exact ⟨none, 0, 0, rfl, RdL.nil⟩
theorem RowB.below {B : Nat} {w w' : World} {ob k : Nat} {xs : List (List Int)} (h : RowB B w ob k xs) (hb : Below w.heap.size w w') : RowB B w' ob k xs := by
  obtain ⟨vs, h1, h2, h3, h4⟩ := h
  exact ⟨vs, h1.below hb, h2, h3, fun j v x hv hx => by
    obtain ⟨A, m, c, e, hr⟩ := h4 j v x hv hx
    exact ⟨A, m, c, e, hr.below U8R.stable hb⟩⟩
theorem RowB.set {B : Nat} {w : World} {ob k : Nat} {xs : List (List Int)} (h : RowB B w ob k xs) (j : Nat) {A : Option Addr} {m c : Nat} {x : List Int} (hr : RdL U8R 1 (fun b => B ≤ b ∧ b ≠ ob) w A m x) : RowB B (w.setCell ⟨ob, j, none⟩ (.slice A m c)) ob k (xs.set j x) := by
  obtain ⟨vs, h1, h2, h3, h4⟩ := h
  refine ⟨vs.set j (.slice A m c), ?_, by simp [h2], by simp [h3], fun i v y hv hy => ?_⟩
  · have := h1.set j (.slice A m c)
    simpa using this
  · by_cases hij : j = i
    · subst hij
      have hjl : j < vs.length := by simpa using (List.getElem?_eq_some_iff.1 hv).1
      rw [List.getElem?_set_self hjl] at hv
      rw [List.getElem?_set_self (by omega)] at hy
      injection hv with hv
      injection hy with hy
      subst hv; subst hy
      exact ⟨A, m, c, rfl, hr.setCell U8R.stable (p := ⟨ob, j, none⟩) (fun h => h.2 rfl) _⟩
    · rw [List.getElem?_set_ne hij] at hv hy
      obtain ⟨A', m', c', e, hr'⟩ := h4 i v y hv hy
      exact ⟨A', m', c', e, hr'.setCell U8R.stable (p := ⟨ob, j, none⟩) (fun h => h.2 rfl) _⟩
theorem RowB.rd {B : Nat} {w : World} {ob k : Nat} {xs : List (List Int)} (h : RowB B w ob k xs) (hB : B ≤ ob) : RdL BytesR 1 (B ≤ ·) w (some ⟨ob, 0, none⟩) k xs := by
  obtain ⟨vs, h1, h2, h3, h4⟩ := h
  refine ⟨h3, fun _ => ⟨ob, 0, rfl, hB, h1.lt, fun i x hx => ?_⟩⟩
  have hi : i < vs.length := by rw [h2, ← h3]; exact (List.getElem?_eq_some_iff.1 hx).1
  obtain ⟨A, m, c, e, hr⟩ := h4 i _ x (List.getElem?_eq_getElem hi) hx
  refine ⟨[vs[i]], rfl, ⟨A, m, c, by rw [e], hr.weaken U8R.stable (fun b hb => hb.1)⟩, fun j v hj => ?_⟩
  match j, hj with
  | 0, hj =>
    simp only [List.getElem?_cons_zero, Option.some.injEq] at hj
    subst hj
    rw [h1.cell]
    simp [hi]
section
variable {U : Nat → Prop} {w : World} {a s : Nat} {v : Value} {Fs : Nat → Nat → Prop} {ps : List Nat} {sts : List DSt}
end
end
section

theorem slPtr : SlTy Tryz.prog 130 113 (.pointer none) 1 8 := ⟨Tryz.underlying130, by kernel_rfl, rfl, by omega⟩
section
variable {U : Nat → Prop} {w : World} {a s : Nat} {v : Value} {Fs : Nat → Nat → Prop} {ps : List Nat} {sts : List DSt}
/-- One drive more. -/
theorem ArrB.push (h : ArrB U w a v Fs ps s sts) {u : World} {F : Nat → Prop} {p : Nat} {st : DSt} {vN : Value} (hD : DrvAt F w p s st) (hF : ∀ k, F k → ¬ U k) (hu : w.grownBy u v.ownBlock) (hs : w.heap.size < u.heap.size)
    (own : OwnL PtrR 113 1 0 (fun _ => False) u vN (ps.length + 1) (ps ++ [p])) (hat : vN.ownBlock = v.ownBlock ∨ vN.ownBlock = some (w.heap.size + 1)) :
    ∃ U' Fs', ArrB U' (u.setCell ⟨a, 0, none⟩ vN) a vN Fs' (ps ++ [p]) s (sts ++ [st]) ∧ (∀ k, U' k → k < w.heap.size → U k ∨ F k) ∧ Keep U w (u.setCell ⟨a, 0, none⟩ vN) := by
  have hset : ∀ k, k ≠ a → (u.setCell ⟨a, 0, none⟩ vN).heap[k]? = u.heap[k]? := fun k hk => Below.heap_setCell _ _ _ _ hk
  have hK : Keep (fun k => k = a ∨ v.ownBlock = some k) w (u.setCell ⟨a, 0, none⟩ vN) := ⟨hu.os, hu.tape, hu.output, by simpa using hu.size, fun k hk hg => (hset k (fun e => hg (.inl e))).trans (hu.block k hk (fun e => hg (.inr e.symm)))⟩
  have hla := h.lt a h.ua
  have hN : ∀ k, vN.ownBlock = some k → (v.ownBlock = some k) ∨ k = w.heap.size + 1 := fun k hk => by
    rcases hat with h | h
    · exact .inl (h ▸ hk)
    · rw [h] at hk; injection hk with hk; exact .inr hk.symm
  have hNa : vN.ownBlock ≠ some a := fun e => by
    rcases hN a e with h2 | h2
    · exact h.va h2
    · omega
  have hFlt : ∀ k, F k → k < w.heap.size := fun k hk => hD.lt hk
  refine ⟨fun k => U k ∨ F k ∨ (w.heap.size ≤ k ∧ k < u.heap.size), fun j k => if j = ps.length then F k else Fs j k, ⟨?_, ?_, by simp [h.len], ?_, ?_, hNa, ?_, .inl h.ua, ?_, ?_, ?_⟩, ?_, hK.mono (fun k hk _ => hk.elim (fun e => e ▸ h.ua) (h.uv k))⟩
  · exact (h.box.keep (hu.block a hla (fun e => h.va e.symm))).set 0 vN
  · obtain ⟨css, h1, h2, h3, h4, h5⟩ := own
    rw [show (ps ++ [p]).length = ps.length + 1 by simp]
    exact ⟨css, ownsRow_keep h1 (fun k hk => hset k (fun e => hNa (e ▸ hk))), h2, h3, h4, fun i cs x hc hx => h5 i cs x hc hx⟩
  · intro i q st' h1 h2
    by_cases hi : i = ps.length
    · subst hi
      rw [List.getElem?_append_right (Nat.le_refl _)] at h1
      rw [List.getElem?_append_right (by rw [h.len]; exact Nat.le_refl _), h.len] at h2
      simp only [Nat.sub_self, List.getElem?_cons_zero, Option.some.injEq] at h1 h2
      subst h1; subst h2
      simp only [if_true]
      exact hD.keep hK (fun k hk hg => hF k hk (hg.elim (fun e => e ▸ h.ua) (h.uv k)))
    · have hil : i < ps.length := by
        have := (List.getElem?_eq_some_iff.1 h1).1
        simp at this; omega
      rw [List.getElem?_append_left hil] at h1
      rw [List.getElem?_append_left (by rw [h.len]; exact hil)] at h2
      simp only [if_neg hi]
      exact (h.drv i q st' h1 h2).keep hK (fun k hk hg => hg.elim (h.fx i k hk).1 (h.fx i k hk).2)
  · intro i j k
    by_cases e1 : i = ps.length <;> by_cases e2 : j = ps.length <;> simp only [e1, e2, if_true, if_false]
    · intros; trivial
    · intro hf hg; exact absurd (h.uf j k hg) (hF k hf)
    · intro hf hg; exact absurd (h.uf i k hf) (hF k hg)
    · exact h.apart i j k
  · intro i k
    by_cases e1 : i = ps.length <;> simp only [e1, if_true, if_false]
    · intro hf
      refine ⟨fun e => hF k hf (e ▸ h.ua), fun e => ?_⟩
      have := hFlt k hf
      rcases hN k e with h2 | h2
      · exact hF k hf (h.uv k h2)
      · omega
    · intro hf
      refine ⟨(h.fx i k hf).1, fun e => ?_⟩
      have := h.lt k (h.uf i k hf)
      rcases hN k e with h2 | h2
      · exact (h.fx i k hf).2 h2
      · omega
  · intro k hk
    rcases hN k hk with h2 | h2
    · exact .inl (h.uv k h2)
    · have := (own.lt k hk).2
      exact .inr (.inr ⟨by omega, this⟩)
  · intro i k
    by_cases e1 : i = ps.length <;> simp only [e1, if_true, if_false]
    · intro hf; exact .inr (.inl hf)
    · intro hf; exact .inl (h.uf i k hf)
  · rintro k (hk | hk | hk)
    · have := h.lt k hk; simp; omega
    · have := hFlt k hk; simp; omega
    · simpa using hk.2
  · rintro k (hk | hk | hk) hlt
    · exact .inl hk
    · exact .inr hk
    · omega
/-- An array of no drives yet. -/
theorem ArrB.empty (w : World) (s : Nat) (T : TypeId) : ArrB (fun k => k = w.heap.size) (w.alloc (.cells #[.slice none 0 0] T)) w.heap.size (.slice none 0 0) (fun _ _ => False) [] s [] := by
  refine ⟨BoxAt.new _ _ _, OwnL.nil_, rfl, ?_, ?_, ?_, ?_, rfl, ?_, ?_, ?_⟩
  · intro i p st h1; simp at h1
  · intro i j k h; exact h.elim
  · simp [Value.ownBlock]
  · intro i k h; exact h.elim
  · intro k hk; simp [Value.ownBlock] at hk
  · intro i k h; exact h.elim
  · rintro k rfl; simp
end
set_option maxRecDepth 100000 in
set_option maxHeartbeats 4000000 in
theorem anew_any (k s : Nat) (h1 : 1 ≤ k) (h2 : k ≤ 255) (h3 : 1 ≤ s) (h4 : s ≤ 600) (w : World) :
    Calls Tryz.prog 79 #[.int .i64 k, .int .i64 s] w fun e w' => ∃ a U, e = .returned (.pointer (some ⟨a, 0, none⟩)) ∧ ArrAt U w' a s (List.replicate k (DSt.new s)) ∧ (∀ b, U b → w.heap.size ≤ b) ∧ Below w.heap.size w w' := by
  have d1 : (1 : Int) ≤ k := by omega
  have d2 : (k : Int) ≤ 255 := by omega
  have hE := ArrB.empty w s 132
  have bE : Below w.heap.size w (w.alloc (.cells #[.slice none 0 0] 132)) := (Below.refl _ _).alloc (Nat.le_refl _) _
  obtain ⟨w1, hw1⟩ : ∃ w1, w.alloc (.cells #[.slice none 0 0] 132) = w1 := ⟨_, rfl⟩
  obtain ⟨a, ha⟩ : ∃ a, w.heap.size = a := ⟨_, rfl⟩
  rw [hw1] at hE bE
  rw [ha] at hE
  have HE := Lib.hid hE
  have BE := Lib.hid bE
  have hla : w.heap.size ≤ a := by omega
  clear hE bE
  go_enter Tryz.func79, Tryz.ntmps79
  go_wp2_with fail
  clear hw1 ha
  go_loopw [16] (fun vi wr => ∃ (i : Nat) (U : Nat → Prop) (v : Value) (Fs : Nat → Nat → Prop) (ps : List Nat), i ≤ k ∧ vi = .int .i64 i ∧ Hid (ArrB U wr a v Fs ps s (List.replicate i (DSt.new s))) ∧ Hid (∀ b, U b → w.heap.size ≤ b) ∧ Hid (Below w.heap.size w wr)) (fun vi _ => k - (intOf vi).toNat)
  case atStart => exact ⟨0, _, _, _, _, Nat.zero_le _, rfl, HE, Lib.hid (by rintro b rfl; exact hla), BE⟩
  case round =>
    clear HE BE
    obtain ⟨wo, rfl⟩ : ∃ wo, wo = wr := ⟨_, rfl⟩
    obtain ⟨i, U, v, Fs, ps, hi, rfl, A, hU, K⟩ := hrel
    by_cases hlt : i < k
    · have h5 : (i : Int) < (k : Int) := by omega
      have h6 : (0 : Int) ≤ (i : Int) := Int.natCast_nonneg _
      have h7 : (i : Int) < 600 := by omega
      go_wp2_with fail
      refine (new_good s h3 h4 wo).mono ?_
      rintro e w2 ⟨p, F, rfl, D2, hF2, t2⟩
      have A2 := A.out.below t2
      have hlen := A2.len
      rw [List.length_replicate] at hlen
      obtain ⟨AA, cc, rfl, _⟩ := A2.own.form
      have c0 := A2.box.cell 0
      have z0 := A2.box.frozen 0
      have c0' : w2.cell? ⟨a, 0, none⟩ = some (.slice AA ps.length cc) := c0
      have hown := A2.own
      have hne : some a ≠ (Value.slice AA ps.length cc).ownBlock := fun e => A2.va e.symm
      have HA2 := Lib.hid A2
      have HD2 := Lib.hid D2
      have HF2 := Lib.hid hF2
      have T2 := Lib.hid t2
      clear A2 D2 hF2 t2 c0
      go_wp2_with (at_builtin; go_must (refine wpList_push1 PtrR.stable PtrR.one slPtr (by rfl) (by rfl) (base := 0) (S := fun _ => False) (cs := #[.pointer (some ⟨p, 0, none⟩)]) (y := p) (by rfl) (by rfl) hown (by rfl) (show PtrR _ _ _ p from rfl) (by unfold maxLen; omega) (by omega) (Nat.zero_le _) ?_); intro A11 c11 u11 hc11 own11 hlt11 hb11 hat11; have y0 := cell_far2 c0' u11.ok hne; have y1 := frozen_far2 c0' z0 u11.ok hne)
      obtain ⟨U', Fs', A3, hU3, hK3⟩ := HA2.out.push HD2.out (fun b hf hu => by have := HF2.out b hf; have := A.out.lt b hu; omega) u11.ok hlt11 own11 hat11
      have hsz := K.out.size
      have hs2 := T2.out.size
      refine ⟨⟨i + 1, U', _, Fs', ps ++ [p], by omega, by go_num, Lib.hid (by rw [List.replicate_succ']; exact A3), Lib.hid (fun b hb => ?_), Lib.hid (K.out.trans ((T2.out.mono hsz).trans (hK3.below (by omega) hU.out)))⟩, by simp [intOf]; omega⟩
      by_cases hblt : b < w2.heap.size
      · rcases hU3 b hb hblt with h | h
        · exact hU.out b h
        · have := HF2.out b h; omega
      · omega
    · obtain rfl : i = k := by omega
      have h5 : ¬ (i : Int) < (i : Int) := by omega
      go_wp2_with fail
      go_ret
      exact ⟨a, rfl, U, ⟨v, Fs, ps, A.out⟩, hU.out, K.out⟩
end
section

/-- A builtin's law at a list of operations, as a step of a region that draws its order. -/
theorem step_of_list {P : Program} {ops : Array Oper} {o : Oper} {a : Act} {w : World} {K : Act → World → Prop} {Q : Exit → Act → World → Prop} {X : Prop} (hgd : o.guard = none)
    (h : wpList P ops (fun e a w => e = .normal ∧ K a w) [o] a w) : if Region.wanted o (yielded ops a.tmps) = true then Oper.wp P o a w K Q else X := by
  have hw : Region.wanted o (yielded ops a.tmps) = true := by simp [Region.wanted, hgd]
  rw [if_pos hw]
  unfold wpList at h
  rw [if_pos hw] at h
  rcases h with h | ⟨_, a', w', h, _⟩
  · unfold Oper.wp at h ⊢
    generalize (execOp a.eval o).run P w = r at *
    cases r with
    | ok n w' =>
      cases n <;> simp only [Oper.upon, wpList] at h ⊢
      case value v => exact h.2
      case skip => exact h.2
      case defer d => exact h.2
      case enter f args =>
        refine Calls.mono h fun e w'' he => ?_
        cases e with
        | returned u => exact he.2
        | panicked c => cases he.1
        | outgrown => obtain ⟨_, _, he, _⟩ := he; cases he
      case row row args => exact Rows.mono h fun u w'' he => he.2
    | halt x w' =>
      cases x <;> simp only [Oper.upon] at h ⊢
      case panic v => cases h.1
  · cases h

structure Ev where
  at_ : Int
  b : List Int
  off : Int
  mask : Int
/-- An event. -/
def EvR (S : Nat → Prop) (w : World) (cs : List Value) (e : Ev) : Prop := ∃ A m c, cs = [.int .i64 e.at_, .slice A m c, .int .i64 e.off, .int .u32 e.mask] ∧ RdL U8R 1 S w A m e.b
theorem EvR.stable : Stable EvR := by
  rintro S S' w w' cs e ⟨A, m, c, rfl, h⟩ hk
  exact ⟨A, m, c, rfl, h.stable U8R.stable hk⟩
theorem EvR.one : ∀ S w cs x, EvR S w cs x → ∀ u ∈ cs, u.oneCell' = true := by
  rintro S w cs x ⟨A, m, c, rfl, _⟩ u hu
  simp at hu
  rcases hu with rfl | rfl | rfl | rfl <;> rfl
structure RSt where
  L : List Ev
  wait : List Ev
  gone : Bool

theorem ownL_blocks {X : Type} {R : (Nat → Prop) → World → List Value → X → Prop} {E : TypeId} {s base : Nat} {S : Nat → Prop} {w w' : World} {v : Value} {n : Nat} {xs : List X} (hR : Stable R) (h : OwnL R E s base S w v n xs)
    (hv : ∀ k, v.ownBlock = some k → w'.heap[k]? = w.heap[k]?) (hS : ∀ b, S b → w'.heap[b]? = w.heap[b]?) : OwnL R E s base S w' v n xs := by
  obtain ⟨css, h1, h2, h3, h4, h5⟩ := h
  exact ⟨css, ownsRow_keep h1 hv, h2, h3, h4, fun i cs x hc hx => hR _ _ _ _ _ _ (h5 i cs x hc hx) fun b hb _ => ⟨hb, hS b hb.1⟩⟩
def RSt.new : RSt := ⟨[], [], false⟩
end
section

section
variable {U : Nat → Prop} {w : World} {a s : Nat} {v : Value} {Fs : Nat → Nat → Prop} {ps : List Nat} {sts : List DSt}
end
end
section

section
variable {U : Nat → Prop} {w : World} {a s : Nat} {v : Value} {Fs : Nat → Nat → Prop} {ps : List Nat} {sts : List DSt}
set_option maxRecDepth 100000 in
theorem asectors_any (h : Hid (ArrB U w a v Fs ps s sts)) (hk : 0 < sts.length) :
    Calls Tryz.prog 138 #[.pointer (some ⟨a, 0, none⟩)] w fun e w' => e = .returned (.int .i64 s) ∧ Below w.heap.size w w' := by
  obtain ⟨st, hst⟩ : ∃ st, sts[0]? = some st := ⟨_, List.getElem?_eq_getElem hk⟩
  obtain ⟨p, hp, hD, hd⟩ := h.out.p_at hst
  have HD := Lib.hid hD
  have HC := aat_in h 0 hd hp
  clear hD
  go_enter Tryz.func138, Tryz.ntmps138
  go_wp2_with fail
  refine HC.mono ?_
  rintro e w1 ⟨rfl, t1⟩
  have T1 := Lib.hid t1
  clear t1
  go_wp2_with fail
  obtain ⟨sb, sc, rb, rc, A, cc, mb, H⟩ := (HD.out.below T1.out).box
  refine (sectors_any H).mono ?_
  rintro e w2 ⟨rfl, t2⟩
  go_wp2_with fail
  go_ret
  exact ⟨rfl, T1.out.trans (t2.mono T1.out.size)⟩
end
end
section

theorem once_disable (w : World) : (callFunc 268 #[]).run Tryz.prog w = .ok (.value (.tuple #[])) w := run_call_mark0 Tryz.func268 (by kernel_rfl) (by kernel_rfl) (by kernel_rfl) .disable (by kernel_rfl) w
theorem once_enable (w : World) : (callFunc 270 #[]).run Tryz.prog w = .ok (.value (.tuple #[])) w := run_call_mark0 Tryz.func270 (by kernel_rfl) (by kernel_rfl) (by kernel_rfl) .enable (by kernel_rfl) w
theorem once_acquire (a : Addr) (w : World) : (callFunc 271 #[.pointer (some a)]).run Tryz.prog w = .ok (.value (.tuple #[])) w := run_call_marked Tryz.func271 (by kernel_rfl) (by kernel_rfl) (by kernel_rfl) .acquire (by kernel_rfl) a w
theorem once_merge (a : Addr) (w : World) : (callFunc 273 #[.pointer (some a)]).run Tryz.prog w = .ok (.value (.tuple #[])) w := run_call_marked Tryz.func273 (by kernel_rfl) (by kernel_rfl) (by kernel_rfl) .releaseMerge (by kernel_rfl) a w

theorem once_load {a : Addr} {x : Int} {w : World} (h : w.cell? a = some (.int .u32 x)) : (callFunc 255 #[.pointer (some a)]).run Tryz.prog w = .ok (.value (.int .u32 x)) w :=
  run_call_load (P := Tryz.prog) Tryz.func255 (by kernel_rfl) (by kernel_rfl) (by kernel_rfl) .u32 (by kernel_rfl) h

set_option maxRecDepth 100000 in
set_option maxHeartbeats 1600000 in
/-- '(*sync/atomic.Bool).Store(true)', entered as a deferred call: the cell holds 1. -/
theorem store_deferred (a : Addr) (x : Value) (u : FrameMode) (w : World) (hc : w.cell? a = some x) (hz : w.frozen? a = false) :
    CallsD Tryz.prog 258 #[.pointer (some a), .bool true] u w fun e u' w' => u' = u ∧ (e = .returned (.tuple #[]) ∧ w' = w.drew.setCell a (.int .u32 1)) := by
  have hc' : w.drew.cell? a = some x := by go_simp
  have hz' : w.drew.frozen? a = false := by go_simp
  have hst := run_call_store (P := Tryz.prog) Tryz.func264 (by kernel_rfl) (by kernel_rfl) (by kernel_rfl) (by kernel_rfl) (k := .u32) (y := 1) hc' hz'
  go_enter_d Tryz.func258, Tryz.ntmps258
  go_wp2
  go_region_calls
  all_goals (go_end0; exact ⟨rfl, rfl⟩)

set_option maxRecDepth 100000 in
set_option maxHeartbeats 1600000 in
/-- '(*sync.Mutex).Unlock', entered as a deferred call, the lock held and nobody waiting (state 1): state 0. -/
theorem unlock_deferred (a : Addr) (u : FrameMode) (w : World) (hc : w.cell? a = some (.int .i32 1)) (hz : w.frozen? a = false) :
    CallsD Tryz.prog 257 #[.pointer (some a)] u w fun e u' w' => u' = u ∧ (e = .returned (.tuple #[]) ∧ w' = w.setCell a (.int .i32 0)) := by
  have hd := once_disable
  have he := once_enable
  have hr := once_merge
  have hadd := run_call_add (P := Tryz.prog) Tryz.func274 (by kernel_rfl) (by kernel_rfl) (by kernel_rfl) .i32 (by kernel_rfl) (y := -1) (s := 0) hc hz (by simp [go_sem]; rfl)
  have hcv := run_convert_to_unsafe (P := Tryz.prog) (src := 342) (dst := 346) Tryz.underlying342 Tryz.underlying346 (by kernel_rfl) hc
  go_enter_d Tryz.func257, Tryz.ntmps257
  go_wp2
  go_end0
  go_wp2
  go_end0
  exact ⟨rfl, rfl⟩

set_option maxRecDepth 100000 in
set_option maxHeartbeats 1600000 in
/-- '(*sync.Mutex).Lock', the lock free (state 0): state 1. -/
theorem lock_free (a : Addr) (w : World) (hc : w.cell? a = some (.int .i32 0)) (hz : w.frozen? a = false) :
    Calls Tryz.prog 256 #[.pointer (some a)] w fun e w' => e = .returned (.tuple #[]) ∧ w' = w.setCell a (.int .i32 1) := by
  have hd := once_disable
  have he := once_enable
  have ha := once_acquire
  have hcas := run_call_cas_hit (P := Tryz.prog) Tryz.func269 (by kernel_rfl) (by kernel_rfl) (by kernel_rfl) .i32 (by kernel_rfl) (y := 1) hc hz
  have hc' : (w.setCell a (.int .i32 1)).cell? a = some (.int .i32 1) := World.cell?_setCell_same w a _ hc
  have hcv := run_convert_to_unsafe (P := Tryz.prog) (src := 342) (dst := 346) Tryz.underlying342 Tryz.underlying346 (by kernel_rfl) hc'
  go_enter Tryz.func256, Tryz.ntmps256
  go_wp2
  first | go_end0 | (simp only [Exit.inBlock, Exit.then]; refine bodyPost_ret (results_none rfl _ _ _) rfl ?_) | refine bodyPost_ret (results_none rfl _ _ _) rfl ?_
  go_wp2
  go_end0
  exact ⟨rfl, rfl⟩

end
end Go.Proofs.YtihnlhfngmbglaaGreat
