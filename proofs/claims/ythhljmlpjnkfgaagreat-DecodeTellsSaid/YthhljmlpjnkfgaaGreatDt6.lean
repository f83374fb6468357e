/-
  Maps as lists of entries: what each operation does.
  Whether all are shards' numbers, and none stands twice.
  slices.Values at int: what its iterator gives.
  The library's contracts for a sorted list of numbers, laid for this program, in plain declarations (printed by the kit's lay-plain.mjs).
  slices.AppendSeq, Collect, Sorted at int, of a slice's values.
  slices.Sorted at int, of a slice's values.
  Plan: by which shards and factors a shard comes of others.
  Any k rows of the code tell the data: plain.
  The coder's parity.
  Data and parity.
-/
import Derived.Test.YthhljmlpjnkfgaaGreatDt1
import Derived.Maps.RangeWalk
import Derived.Maps.OwnOps
import Derived.Test.YthhljmlpjnkfgaaGreatDt4
import Derived.RangeFuncNested
import Derived.RangeFuncBound
import Derived.RangeFuncCalls
import Derived.RangeFuncLeaves
import Derived.Shelf.Abstract
import Derived.Shelf.RegionOpen
import Derived.WalkKit
import Derived.OwnWalkIn
import Derived.TacticsInMore
import Derived.LoopNIn
import Derived.LoopIn
import Derived.Sort.LoopGhostIn
import Derived.Maps.OwnIn
import Derived.Shelf.SlGeneric
import Derived.Shelf.SlIterI.Sorted
import Derived.Shelf.SortM.Plain
import Derived.Shelf.SortM.SortNone
import Derived.Ground.GgzProg
import Derived.Ground.SlgmProg
import Derived.Test.YthhljmlpjnkfgaaGreatRows
import Derived.Deep.DeepMust
import Derived.Test.YthhljmlpjnkfgaaGreatDt5
import Derived.Test.YthhljmlpjnkfgaaGreatDt3
set_option linter.unusedSectionVars false
set_option linter.unusedSimpArgs false
set_option linter.unusedVariables false
namespace Go.Cib
open Go.RowKit

structure KeyTy (P : Program) (K : TypeId) {κ : Type} [DecidableEq κ] (mk : κ → Value) : Prop where
  same : ∃ d, P.underlying K = some d ∧ ∀ a b, Instr.sameNow d (mk a) (mk b) = some (decide (a = b))
  check : ∀ (empty : Bool) (w : World) (a : κ), (Instr.checkKey empty 10000 K (mk a)).run P w = .ok () w
  bits : ∀ a, Instr.sameBits 10000 (mk a) (mk a) = true

theorem keyTy_int {P : Program} {K : TypeId} {q : IntKind} (h : P.underlying K = some (.int q)) : KeyTy P K (Value.int q) where
  same := ⟨_, h, fun a b => by simp only [Instr.sameNow, if_true, Option.some.injEq]; rw [Bool.eq_iff_iff]; simp⟩
  check := fun e w a => by
    have : ∀ n, (Instr.checkKey e (n + 1) K (.int q a)).run P w = .ok () w := fun n => by simp [Instr.checkKey, run_underlying h]
    exact this 9999
  bits := fun a => by simp [Instr.sameBits]

theorem bytes_beq (a b : ByteArray) : (a == b) = decide (a = b) := by
  cases a with | mk x => cases b with | mk y =>
  rw [Bool.eq_iff_iff, decide_eq_true_eq]
  show (x == y) = true ↔ _
  simp

theorem keyTy_string {P : Program} {K : TypeId} (h : P.underlying K = some .string) : KeyTy P K Value.string where
  same := ⟨_, h, fun a b => by simp only [Instr.sameNow, Option.some.injEq]; exact bytes_beq a b⟩
  check := fun e w a => by
    have : ∀ n, (Instr.checkKey e (n + 1) K (.string a)).run P w = .ok () w := fun n => by simp [Instr.checkKey, run_underlying h]
    exact this 9999
  bits := fun a => by simp [Instr.sameBits, bytes_beq]

section
variable {κ : Type} [DecidableEq κ]

def mlook : List (κ × Value) → κ → Option Value
  | [], _ => none
  | (a, v) :: r, k => if a = k then some v else mlook r k
def mput : List (κ × Value) → κ → Value → List (κ × Value)
  | [], k, v => [(k, v)]
  | (a, u) :: r, k, v => if a = k then (k, v) :: r else (a, u) :: mput r k v
def mdel : List (κ × Value) → κ → List (κ × Value)
  | [], _ => []
  | (a, u) :: r, k => if a = k then r else (a, u) :: mdel r k

theorem look_put (es : List (κ × Value)) (k j : κ) (v : Value) : mlook (mput es k v) j = if k = j then some v else mlook es j := by
  induction es with
  | nil => simp [mput, mlook]
  | cons p r ih =>
    obtain ⟨a, u⟩ := p
    by_cases h : a = k
    · subst h; by_cases hj : a = j <;> simp [mput, mlook, hj]
    · by_cases hj : a = j
      · subst hj; simp [mput, mlook, h, Ne.symm h]
      · simp [mput, mlook, h, hj, ih]

theorem look_mem {es : List (κ × Value)} {k : κ} {v : Value} (h : mlook es k = some v) : (k, v) ∈ es := by
  induction es with
  | nil => simp [mlook] at h
  | cons p r ih =>
    obtain ⟨a, u⟩ := p
    simp only [mlook] at h
    split at h
    · rename_i e; subst e; simp only [Option.some.injEq] at h; subst h; simp
    · exact List.mem_cons_of_mem _ (ih h)
theorem look_none {es : List (κ × Value)} {k : κ} : mlook es k = none ↔ ∀ p ∈ es, p.1 ≠ k := by
  induction es with
  | nil => simp [mlook]
  | cons p r ih =>
    obtain ⟨a, u⟩ := p
    by_cases h : a = k <;> simp [mlook, h, ih]
theorem look_of_mem {es : List (κ × Value)} (hn : (es.map (·.1)).Nodup) {k : κ} {v : Value} (h : (k, v) ∈ es) : mlook es k = some v := by
  induction es with
  | nil => simp at h
  | cons p r ih =>
    obtain ⟨a, u⟩ := p
    simp only [List.map_cons, List.nodup_cons] at hn
    simp only [mlook]
    rcases List.mem_cons.1 h with h | h
    · injection h with h1 h2; subst h1; subst h2; simp
    · rw [if_neg (fun e => hn.1 (by subst e; exact List.mem_map.2 ⟨_, h, rfl⟩))]
      exact ih hn.2 h
theorem put_keys (es : List (κ × Value)) (k : κ) (v : Value) : ∀ j, j ∈ (mput es k v).map (·.1) ↔ j = k ∨ j ∈ es.map (·.1) := by
  intro j
  induction es with
  | nil => simp [mput]
  | cons p r ih =>
    obtain ⟨a, u⟩ := p
    by_cases h : a = k
    · subst h; simp [mput]
    · simp only [mput, h, if_false, List.map_cons, List.mem_cons, ih]
      constructor
      · rintro (h | h | h)
        · exact .inr (.inl h)
        · exact .inl h
        · exact .inr (.inr h)
      · rintro (h | h | h)
        · exact .inr (.inl h)
        · exact .inl h
        · exact .inr (.inr h)
theorem put_nodup {es : List (κ × Value)} (hn : (es.map (·.1)).Nodup) (k : κ) (v : Value) : ((mput es k v).map (·.1)).Nodup := by
  induction es with
  | nil => simp [mput]
  | cons p r ih =>
    obtain ⟨a, u⟩ := p
    simp only [List.map_cons, List.nodup_cons] at hn
    by_cases h : a = k
    · subst h; simpa [mput] using hn
    · simp only [mput, h, if_false, List.map_cons, List.nodup_cons]
      refine ⟨fun hm => ?_, ih hn.2⟩
      rcases (put_keys r k v a).1 hm with h1 | h1
      · exact h h1
      · exact hn.1 h1
theorem del_sub (es : List (κ × Value)) (k : κ) : ∀ p ∈ mdel es k, p ∈ es := by
  induction es with
  | nil => simp [mdel]
  | cons p r ih =>
    obtain ⟨a, u⟩ := p
    intro q hq
    simp only [mdel] at hq
    split at hq
    · exact List.mem_cons_of_mem _ hq
    · rcases List.mem_cons.1 hq with h | h
      · rw [h]; simp
      · exact List.mem_cons_of_mem _ (ih q h)
theorem del_nodup {es : List (κ × Value)} (hn : (es.map (·.1)).Nodup) (k : κ) : ((mdel es k).map (·.1)).Nodup := by
  induction es with
  | nil => simp [mdel]
  | cons p r ih =>
    obtain ⟨a, u⟩ := p
    simp only [List.map_cons, List.nodup_cons] at hn
    simp only [mdel]
    split
    · exact hn.2
    · simp only [List.map_cons, List.nodup_cons]
      refine ⟨fun hm => hn.1 ?_, ih hn.2⟩
      obtain ⟨q, hq, e⟩ := List.mem_map.1 hm
      exact List.mem_map.2 ⟨q, del_sub r k q hq, e⟩
theorem look_del {es : List (κ × Value)} (hn : (es.map (·.1)).Nodup) (k j : κ) : mlook (mdel es k) j = if k = j then none else mlook es j := by
  induction es with
  | nil => simp [mdel, mlook]
  | cons p r ih =>
    obtain ⟨a, u⟩ := p
    simp only [List.map_cons, List.nodup_cons] at hn
    by_cases h : a = k
    · subst h
      by_cases hj : a = j
      · subst hj
        simp only [mdel, if_true, look_none]
        intro q hq e
        exact hn.1 (List.mem_map.2 ⟨q, hq, e⟩)
      · simp [mdel, mlook, hj]
    · by_cases hj : a = j
      · subst hj; simp [mdel, mlook, h, Ne.symm h]
      · simp [mdel, mlook, h, hj, ih hn.2]

/-- Block b is a map of these entries. -/
def MapAt (mk : κ → Value) (w : World) (b : Nat) (es : List (κ × Value)) : Prop :=
  (es.map (·.1)).Nodup ∧ ∃ (arr : Array MapEntry) (clock : Nat), w.heap[b]? = some (.map arr clock) ∧ arr.toList.map (fun e => (e.key, e.val)) = es.map (fun p => (mk p.1, p.2)) ∧
    (arr.toList.map (·.born)).Nodup ∧ ∀ e ∈ arr.toList, e.born < clock

variable {mk : κ → Value} {w : World} {b : Nat} {es : List (κ × Value)}

theorem MapAt.keep {w' : World} (h : MapAt mk w b es) (hb : w'.heap[b]? = w.heap[b]?) : MapAt mk w' b es := by
  obtain ⟨h0, arr, clock, h1, h2⟩ := h
  exact ⟨h0, arr, clock, hb.trans h1, h2⟩
theorem MapAt.lt (h : MapAt mk w b es) : b < w.heap.size := by
  obtain ⟨_, arr, clock, h1, _⟩ := h
  exact (Array.getElem?_eq_some_iff.1 h1).1
theorem MapAt.below {w' : World} (h : MapAt mk w b es) (hb : Below w.heap.size w w') : MapAt mk w' b es := h.keep (hb.block b h.lt)
theorem MapAt.alloc (h : MapAt mk w b es) (o : Obj) : MapAt mk (w.alloc o) b es := h.keep (Below.heap_alloc _ _ _ h.lt)
theorem MapAt.grw {w' : World} {row : Option Nat} (h : MapAt mk w b es) (hg : w.grownBy w' row) (hne : some b ≠ row) : MapAt mk w' b es := h.keep (hg.block b h.lt hne)
theorem MapAt.new (mk : κ → Value) (w : World) : MapAt mk (w.alloc (.map #[] 0)) w.heap.size [] := ⟨by simp, #[], 0, heap_alloc_new w _, by simp, by simp, by simp⟩

theorem findNow_spec {d : TypeDesc} (hs : ∀ a b, Instr.sameNow d (mk a) (mk b) = some (decide (a = b))) (k : κ) : ∀ (L : List MapEntry) (es : List (κ × Value)) (i : Nat), L.map (fun e => (e.key, e.val)) = es.map (fun p => (mk p.1, p.2)) →
    (mlook es k = none ∧ Instr.findNow d (mk k) L i = some none) ∨
    ∃ j e v, mlook es k = some v ∧ L[j]? = some e ∧ e.key = mk k ∧ e.val = v ∧ Instr.findNow d (mk k) L i = some (some (i + j, v)) ∧
      (∀ f : MapEntry → MapEntry, ∀ u, (f e).key = mk k → (f e).val = u → (L.modify j f).map (fun e => (e.key, e.val)) = (mput es k u).map (fun p => (mk p.1, p.2))) ∧
      (L.eraseIdx j).map (fun e => (e.key, e.val)) = (mdel es k).map (fun p => (mk p.1, p.2))
  | [], es, i, h => by
    have : es = [] := by cases es with | nil => rfl | cons p r => simp at h
    subst this
    exact .inl ⟨rfl, rfl⟩
  | e :: L, [], i, h => by simp at h
  | e :: L, (a, u) :: r, i, h => by
    simp only [List.map_cons, List.cons.injEq, Prod.mk.injEq] at h
    obtain ⟨⟨hk, hv⟩, hr⟩ := h
    by_cases hak : a = k
    · subst hak
      refine .inr ⟨0, e, u, by simp [mlook], rfl, hk, hv, by simp [Instr.findNow, hk, hs, hv], fun f u' hf1 hf2 => ?_, ?_⟩
      · simp [mput, hf1, hf2, hr]
      · simp [mdel, hr]
    · have hka : k ≠ a := fun e => hak e.symm
      have hn : Instr.findNow d (mk k) (e :: L) i = Instr.findNow d (mk k) L (i + 1) := by simp [Instr.findNow, hk, hs, hka]
      rcases findNow_spec hs k L r (i + 1) hr with ⟨h1, h2⟩ | ⟨j, e', v, h1, h2, h3, h4, h5, h6, h7⟩
      · exact .inl ⟨by simp [mlook, hak, h1], by rw [hn, h2]⟩
      · refine .inr ⟨j + 1, e', v, by simp [mlook, hak, h1], by simpa using h2, h3, h4, by rw [hn, h5]; congr 3; omega, fun f u' hf1 hf2 => ?_, ?_⟩
        · simp only [List.modify_succ_cons, List.map_cons, mput, hak, if_false, List.cons.injEq]
          exact ⟨by simp [hk, hv], h6 f u' hf1 hf2⟩
        · simp only [List.eraseIdx_cons_succ, List.map_cons, mdel, hak, if_false, List.cons.injEq]
          exact ⟨by simp [hk, hv], h7⟩

variable {P : Program} {K E T : TypeId}

theorem run_findKey (kt : KeyTy P K mk) (k : κ) {arr : Array MapEntry} (h : arr.toList.map (fun e => (e.key, e.val)) = es.map (fun p => (mk p.1, p.2))) (w : World) :
    (mlook es k = none ∧ (Instr.findKey K (mk k) arr.toList).run P w = .ok none w) ∨
    ∃ j e v, mlook es k = some v ∧ arr.toList[j]? = some e ∧ e.key = mk k ∧ e.val = v ∧ (Instr.findKey K (mk k) arr.toList).run P w = .ok (some (j, v)) w ∧
      (∀ f : MapEntry → MapEntry, ∀ u, (f e).key = mk k → (f e).val = u → (arr.toList.modify j f).map (fun e => (e.key, e.val)) = (mput es k u).map (fun p => (mk p.1, p.2))) ∧
      (arr.toList.eraseIdx j).map (fun e => (e.key, e.val)) = (mdel es k).map (fun p => (mk p.1, p.2)) := by
  obtain ⟨d, hd, hs⟩ := kt.same
  rcases findNow_spec hs k arr.toList es 0 h with ⟨h1, h2⟩ | ⟨j, e, v, h1, h2, h3, h4, h5, h6, h7⟩
  · exact .inl ⟨h1, by simp [Instr.findKey, run_underlying hd, h2]⟩
  · exact .inr ⟨j, e, v, h1, h2, h3, h4, by simp [Instr.findKey, run_underlying hd, h5], h6, h7⟩

theorem run_getMap {arr : Array MapEntry} {clock : Nat} (h : w.heap[b]? = some (.map arr clock)) : (getObj b).run P w = .ok (.map arr clock) w := by
  simp [getObj, Sem.run, h]

/-- m[k]. -/
theorem run_lookup (kt : KeyTy P K mk) (ht : P.underlying T = some (.map K E)) {z : Value} (hz : ∀ w, (zeroValue E).run P w = .ok z w) (hm : MapAt mk w b es) (k : κ) (ok : Bool) :
    (Instr.lookup T (.map (some b)) (mk k) ok).run P w = .ok (if ok then .tuple #[(mlook es k).getD z, .bool (mlook es k).isSome] else (mlook es k).getD z) w := by
  obtain ⟨h0, arr, clock, h1, h2, h3, h4⟩ := hm
  rcases run_findKey kt k h2 w with ⟨e1, e2⟩ | ⟨j, e, v, e1, _, _, _, e2, _⟩
  · cases ok <;> simp [Instr.lookup, run_underlying ht, run_getMap h1, kt.check, e1, e2, hz]
  · cases ok <;> simp [Instr.lookup, run_underlying ht, run_getMap h1, kt.check, e1, e2]

theorem run_lookup_nil (kt : KeyTy P K mk) (ht : P.underlying T = some (.map K E)) {z : Value} (hz : ∀ w, (zeroValue E).run P w = .ok z w) (k : κ) (ok : Bool) (w : World) :
    (Instr.lookup T (.map none) (mk k) ok).run P w = .ok (if ok then .tuple #[z, .bool false] else z) w := by
  obtain ⟨d, hd, hs⟩ := kt.same
  cases ok <;> simp [Instr.lookup, run_underlying ht, kt.check, Instr.findKey, run_underlying hd, Instr.findNow, hz]

theorem run_setObj {o o' : Obj} (h : w.heap[b]? = some o) (hne : ∀ c e f, o ≠ .cells c e f) : (setObj b o').run P w = .ok () { w with heap := w.heap.setIfInBounds b o' } := by
  cases o with
  | cells c e f => exact absurd rfl (hne c e f)
  | _ => simp [setObj, Sem.run, h]

theorem heap_setObj (w : World) (b : Nat) (o : Obj) (hb : b < w.heap.size) : ({ w with heap := w.heap.setIfInBounds b o } : World).heap[b]? = some o := by
  show (w.heap.setIfInBounds b o)[b]? = _
  simp [Array.getElem?_setIfInBounds, hb]
theorem grown_setObj (w : World) (b : Nat) (o : Obj) : w.grownBy ({ w with heap := w.heap.setIfInBounds b o } : World) (some b) := by
  refine ⟨rfl, rfl, rfl, by simp, fun k hk hne => ?_⟩
  show (w.heap.setIfInBounds b o)[k]? = _
  rw [Array.getElem?_setIfInBounds, if_neg (fun e => hne (by rw [e]))]

theorem keyThatStays_run (kt : KeyTy P K mk) (k : κ) (w : World) : (Instr.keyThatStays (mk k) (mk k)).run P w = .ok (mk k) w := by
  simp [Instr.keyThatStays, kt.bits]

/-- m[k] = v. -/
theorem run_mapUpdate (kt : KeyTy P K mk) (ht : P.underlying T = some (.map K E)) (hm : MapAt mk w b es) (k : κ) (v : Value) :
    ∃ w', (Instr.mapUpdate T (.map (some b)) (mk k) v).run P w = .ok () w' ∧ MapAt mk w' b (mput es k v) ∧ w.grownBy w' (some b) ∧ w'.heap.size = w.heap.size := by
  have hlt := hm.lt
  obtain ⟨h0, arr, clock, h1, h2, h3, h4⟩ := hm
  rcases run_findKey kt k h2 w with ⟨e1, e2⟩ | ⟨j, e, u, e1, ej, ek, ev, e2, emod, _⟩
  · refine ⟨{ w with heap := w.heap.setIfInBounds b (.map (arr.push { key := mk k, val := v, born := clock }) (clock + 1)) }, ?_, ⟨put_nodup h0 k v, _, _, heap_setObj w b _ hlt, ?_, ?_, ?_⟩, grown_setObj w b _, by simp⟩
    · simp [Instr.mapUpdate, run_underlying ht, run_getMap h1, kt.check, e2, run_setObj (P := P) h1 (by simp)]
    · have hp : mput es k v = es ++ [(k, v)] := by
        clear h0 h2 e2
        induction es with
        | nil => rfl
        | cons p r ih =>
          obtain ⟨a, u⟩ := p
          by_cases hak : a = k
          · simp [mlook, hak] at e1
          · simp only [mlook, hak, if_false] at e1
            simp [mput, hak, ih e1]
      rw [hp]; simp [h2]
    · simp only [Array.toList_push, List.map_append, List.map_cons, List.map_nil]
      rw [List.nodup_append]
      refine ⟨h3, by simp, fun a ha c hc => ?_⟩
      rw [List.mem_singleton.1 hc]
      obtain ⟨x, hx, rfl⟩ := List.mem_map.1 ha
      have := h4 x hx
      omega
    · intro x hx
      simp only [Array.toList_push, List.mem_append, List.mem_singleton] at hx
      rcases hx with hx | hx
      · have := h4 x hx; omega
      · rw [hx]; show clock < clock + 1; omega
  · have hkey : (((arr[j]?).map (·.key)).getD (mk k)) = mk k := by
      have : arr[j]? = some e := by simpa using ej
      simp [this, ek]
    refine ⟨{ w with heap := w.heap.setIfInBounds b (.map (arr.modify j fun e => { e with key := mk k, val := v }) clock) }, ?_, ⟨put_nodup h0 k v, _, _, heap_setObj w b _ hlt, ?_, ?_, ?_⟩, grown_setObj w b _, by simp⟩
    · simp [Instr.mapUpdate, run_underlying ht, run_getMap h1, kt.check, e2, hkey, keyThatStays_run kt, run_setObj (P := P) h1 (by simp)]
    · rw [Array.toList_modify]
      exact emod _ v rfl rfl
    · have : ((arr.modify j fun e => { e with key := mk k, val := v }).toList.map (·.born)) = arr.toList.map (·.born) := by
        rw [Array.toList_modify]
        apply List.ext_getElem?
        intro i
        simp only [List.getElem?_map, List.getElem?_modify]
        split <;> simp [Option.map_map] <;> rfl
      rw [this]; exact h3
    · intro x hx
      rw [Array.toList_modify] at hx
      obtain ⟨i, hi, rfl⟩ := List.mem_iff_getElem.1 hx
      rw [List.getElem_modify]
      have hm := h4 (arr.toList[i]'(by simpa using hi)) (List.getElem_mem _)
      split
      · exact hm
      · exact hm

/-- delete(m, k). -/
theorem run_delete (kt : KeyTy P K mk) (ht : P.underlying T = some (.map K E)) (hm : MapAt mk w b es) (k : κ) (K2 ty : TypeId) :
    ∃ w', (Builtin.delete_ #[T, K2] ty #[.map (some b), mk k]).run P w = .ok (.tuple #[]) w' ∧ MapAt mk w' b (mdel es k) ∧ w.grownBy w' (some b) ∧ w'.heap.size = w.heap.size := by
  have hlt := hm.lt
  obtain ⟨h0, arr, clock, h1, h2, h3, h4⟩ := hm
  rcases run_findKey kt k h2 w with ⟨e1, e2⟩ | ⟨j, e, u, e1, ej, ek, ev, e2, _, edel⟩
  · have hd : mdel es k = es := by
      clear h0 h2 e2
      induction es with
      | nil => rfl
      | cons p r ih =>
        obtain ⟨a, u⟩ := p
        by_cases hak : a = k
        · simp [mlook, hak] at e1
        · simp only [mlook, hak, if_false] at e1
          simp [mdel, hak, ih e1]
    refine ⟨{ w with heap := w.heap.setIfInBounds b (.map arr clock) }, ?_, ⟨del_nodup h0 k, _, _, heap_setObj w b _ hlt, by rw [hd]; exact h2, h3, h4⟩, grown_setObj w b _, by simp⟩
    simp [Builtin.delete_, run_underlying ht, run_getMap h1, kt.check, e2, run_setObj (P := P) h1 (by simp)]
  · have hj : j < arr.size := by have := (List.getElem?_eq_some_iff.1 ej).1; simpa using this
    have htl : (arr.eraseIdxIfInBounds j).toList = arr.toList.eraseIdx j := by simp [Array.eraseIdxIfInBounds, hj]
    refine ⟨{ w with heap := w.heap.setIfInBounds b (.map (arr.eraseIdxIfInBounds j) clock) }, ?_, ⟨del_nodup h0 k, _, _, heap_setObj w b _ hlt, ?_, ?_, ?_⟩, grown_setObj w b _, by simp⟩
    · simp [Builtin.delete_, run_underlying ht, run_getMap h1, kt.check, e2, run_setObj (P := P) h1 (by simp)]
    · rw [htl]; exact edel
    · rw [htl]
      exact h3.sublist ((List.eraseIdx_sublist _ _).map _)
    · intro x hx
      rw [htl] at hx
      exact h4 x (List.mem_of_mem_eraseIdx hx)

/-- len(m). -/
theorem run_lenMap (ht : P.underlying T = some (.map K E)) (hm : MapAt mk w b es) (ty : TypeId) : (Builtin.len_ #[T] ty #[.map (some b)]).run P w = .ok (.int .i64 es.length) w := by
  obtain ⟨h0, arr, clock, h1, h2, h3, h4⟩ := hm
  have : arr.size = es.length := by
    have := congrArg List.length h2
    simpa using this
  simp [Builtin.len_, run_underlying ht, run_getMap h1, this]; rfl
end

section
variable {κ : Type} [DecidableEq κ] {mk : κ → Value} {P : Program} {K E T : TypeId} {ops : Array Oper} {rest : List Oper} {o : Oper} {a : Act} {Q : Exit → Act → World → Prop} {w : World} {b : Nat} {es : List (κ × Value)}

theorem wpList_lookup (kt : KeyTy P K mk) (ht : P.underlying T = some (.map K E)) {z : Value} (hz : ∀ w, (zeroValue E).run P w = .ok z w) {m x : Operand} {ok : Bool}
    (hg : o.guard = none) (ho : o.op = Op.lookup T m x ok) {k : κ} (hm : a.eval m = .map (some b)) (hx : a.eval x = mk k) (hma : MapAt mk w b es)
    (h : wpList P ops Q rest (a.put o.dst (if ok then .tuple #[(mlook es k).getD z, .bool (mlook es k).isSome] else (mlook es k).getD z)) w) : wpList P ops Q (o :: rest) a w := by
  refine wpList_plain hg fun K' hK' => ?_
  unfold Oper.wp
  simp only [execOp, ho, hm, hx, Sem.run_bind, Sem.run_map, run_lookup kt ht hz hma, Result.andThen_ok]
  exact hK' _ _ h

theorem wpList_mapUpdate (kt : KeyTy P K mk) (ht : P.underlying T = some (.map K E)) {m x v : Operand}
    (hg : o.guard = none) (ho : o.op = Op.mapUpdate T m x v ∨ o.op = Op.insert T m x v) {k : κ} {val : Value} (hm : a.eval m = .map (some b)) (hx : a.eval x = mk k) (hv : a.eval v = val) (hma : MapAt mk w b es)
    (h : ∀ u : Grw (some b) w, MapAt mk u.to b (mput es k val) → u.to.heap.size = w.heap.size → wpList P ops Q rest (a.put o.dst undef) u.to) : wpList P ops Q (o :: rest) a w := by
  refine wpList_plain hg fun K' hK' => ?_
  obtain ⟨w', h1, h2, h3, h4⟩ := run_mapUpdate kt ht hma k val
  unfold Oper.wp
  rcases ho with ho | ho
  · simp only [execOp, ho, hm, hx, hv, Sem.run_bind, Sem.run_map, h1, Result.andThen_ok]
    exact hK' _ _ (h ⟨w', h3⟩ h2 h4)
  · simp only [execOp, ho, hm, hx, hv, Sem.run_bind, Sem.run_map, h1, Result.andThen_ok]
    exact hK' _ _ (h ⟨w', h3⟩ h2 h4)

theorem wpList_delete (kt : KeyTy P K mk) (ht : P.underlying T = some (.map K E)) {K2 : TypeId} {m x : Operand}
    (hg : o.guard = none) (ho : o.op = .call { callee := .builtin .delete, args := #[m, x], argTypes := #[T, K2] }) {k : κ} (hm : a.eval m = .map (some b)) (hx : a.eval x = mk k) (hma : MapAt mk w b es)
    (h : ∀ u : Grw (some b) w, MapAt mk u.to b (mdel es k) → u.to.heap.size = w.heap.size → wpList P ops Q rest (a.put o.dst (.tuple #[])) u.to) : wpList P ops Q (o :: rest) a w := by
  refine wpList_plain hg fun K' hK' => ?_
  obtain ⟨w', h1, h2, h3, h4⟩ := run_delete kt ht hma k K2 o.type
  unfold Oper.wp execOp
  simp only [ho, resolve, invoke, builtin, Sem.run_bind, Sem.run_pure, Result.andThen_ok, List.map_toArray, List.map_cons, List.map_nil, hm, hx, h1]
  exact hK' _ _ (h ⟨w', h3⟩ h2 h4)
end

/-! ### range over a map -/
section
variable {κ : Type} [DecidableEq κ] {mk : κ → Value} {P : Program} {K E T : TypeId}

/-- Block bi ranges over the map of block b; left: what is still to come. -/
def IterAt (mk : κ → Value) (w : World) (bi b : Nat) (left : List (κ × Value)) : Prop :=
  ∃ (arr : Array MapEntry) (clock : Nat) (seen : Array Nat), w.heap[b]? = some (.map arr clock) ∧ w.heap[bi]? = some (.mapIter (some b) clock seen clock) ∧
    (arr.toList.filter fun e => !seen.contains e.born).map (fun e => (e.key, e.val)) = left.map (fun p => (mk p.1, p.2)) ∧
    (arr.toList.map (·.born)).Nodup ∧ ∀ e ∈ arr.toList, e.born < clock

theorem IterAt.keep {w w' : World} {bi b : Nat} {left : List (κ × Value)} (h : IterAt mk w bi b left) (hb : w'.heap[b]? = w.heap[b]?) (hbi : w'.heap[bi]? = w.heap[bi]?) : IterAt mk w' bi b left := by
  obtain ⟨arr, clock, seen, h1, h2, h3⟩ := h
  exact ⟨arr, clock, seen, hb.trans h1, hbi.trans h2, h3⟩
theorem IterAt.lt {w : World} {bi b : Nat} {left : List (κ × Value)} (h : IterAt mk w bi b left) : bi < w.heap.size ∧ b < w.heap.size := by
  obtain ⟨arr, clock, seen, h1, h2, h3⟩ := h
  exact ⟨(Array.getElem?_eq_some_iff.1 h2).1, (Array.getElem?_eq_some_iff.1 h1).1⟩

theorem MapAt.iter {w : World} {b : Nat} {es : List (κ × Value)} (h : MapAt mk w b es) : ∃ clock arr, w.heap[b]? = some (.map arr clock) ∧ IterAt mk (w.alloc (.mapIter (some b) clock #[] clock)) w.heap.size b es := by
  have hlt := h.lt
  obtain ⟨h0, arr, clock, h1, h2, h3, h4⟩ := h
  refine ⟨clock, arr, h1, arr, clock, #[], (Below.heap_alloc _ _ _ hlt).trans h1, heap_alloc_new w _, ?_, h3, h4⟩
  rw [List.filter_eq_self.2 (by simp)]
  exact h2

theorem perm_born (e : MapEntry) : ∀ (F : List MapEntry), e ∈ F → (F.map (·.born)).Nodup → F.Perm (e :: F.filter fun x => !(x.born == e.born))
  | [], h, _ => by simp at h
  | x :: F, h, hn => by
    simp only [List.map_cons, List.nodup_cons] at hn
    rcases List.mem_cons.1 h with h | h
    · subst h
      rw [List.filter_cons_of_neg (by simp), List.filter_eq_self.2 (fun y hy => ?_)]
      simp only [Bool.not_eq_true', beq_eq_false_iff_ne]
      exact fun he => hn.1 (List.mem_map.2 ⟨y, hy, he⟩)
    · have hne : x.born ≠ e.born := fun he => hn.1 (List.mem_map.2 ⟨e, h, he.symm⟩)
      rw [List.filter_cons_of_pos (by simpa using hne)]
      exact ((perm_born e F h hn.2).cons x).trans (List.Perm.swap _ _ _)

theorem map_inv {L : List MapEntry} {left : List (κ × Value)} (h : L.map (fun e => (e.key, e.val)) = left.map (fun p => (mk p.1, p.2))) {e : MapEntry} (he : e ∈ L) : ∃ p ∈ left, (e.key, e.val) = (mk p.1, p.2) := by
  have : (e.key, e.val) ∈ left.map (fun p => (mk p.1, p.2)) := by rw [← h]; exact List.mem_map.2 ⟨e, he, rfl⟩
  obtain ⟨p, hp, e1⟩ := List.mem_map.1 this
  exact ⟨p, hp, e1.symm⟩

/-- A permutation of entries as one of pairs. -/
theorem perm_pairs : ∀ (L' : List MapEntry) (L : List MapEntry) (left : List (κ × Value)), L.Perm L' → L.map (fun e => (e.key, e.val)) = left.map (fun p => (mk p.1, p.2)) →
    ∃ left', left.Perm left' ∧ L'.map (fun e => (e.key, e.val)) = left'.map (fun p => (mk p.1, p.2)) := by
  intro L' L left hp
  induction hp generalizing left with
  | nil => exact fun h => ⟨left, List.Perm.refl _, h⟩
  | cons x _ ih =>
    intro h
    cases left with
    | nil => simp at h
    | cons p r =>
      simp only [List.map_cons, List.cons.injEq] at h
      obtain ⟨l', h1, h2⟩ := ih r h.2
      exact ⟨p :: l', h1.cons p, by simp only [List.map_cons, List.cons.injEq]; exact ⟨h.1, h2⟩⟩
  | swap x y l =>
    intro h
    match left, h with
    | p :: q :: r, h =>
      simp only [List.map_cons, List.cons.injEq] at h
      exact ⟨q :: p :: r, List.Perm.swap _ _ _, by simp only [List.map_cons, List.cons.injEq]; exact ⟨h.2.1, h.1, h.2.2⟩⟩
    | [p], h => simp at h
    | [], h => simp at h
  | trans _ _ ih1 ih2 =>
    intro h
    obtain ⟨l1, h1, h2⟩ := ih1 left h
    obtain ⟨l2, h3, h4⟩ := ih2 l1 h2
    exact ⟨l2, h1.trans h3, h4⟩

theorem run_pick (P : Program) (w : World) (n : Nat) (hn : 0 < n) : ∃ i w1, i < n ∧ (choose (.mapNext n)).run P w = .ok i w1 ∧ (w1 = w ∨ w1 = w.drew) := by
  by_cases hf : (Question.mapNext n).forced = true
  · exact ⟨0, w, hn, by rw [run_choose, if_pos hf], .inl rfl⟩
  · exact ⟨_, w.drew, Nat.mod_lt _ hn, by rw [run_choose, if_neg hf]; rfl, .inr rfl⟩

theorem run_next {w : World} {bi b : Nat} {left : List (κ × Value)} (h : IterAt mk w bi b left) (ty : TypeId) :
    (left = [] ∧ (Instr.next (.pointer (some ⟨bi, 0, none⟩)) false ty).run P w = .ok (.tuple #[.bool false]) w) ∨
    ∃ k v left' w', left.Perm ((k, v) :: left') ∧ (Instr.next (.pointer (some ⟨bi, 0, none⟩)) false ty).run P w = .ok (.tuple #[.bool true, mk k, v]) w' ∧ IterAt mk w' bi b left' ∧
      w.grownBy w' (some bi) ∧ w'.heap.size = w.heap.size ∧ (Instr.entry (.pointer (some ⟨bi, 0, none⟩))).run P w' = .ok (.tuple #[mk k, v]) w' := by
  have hlt := h.lt
  obtain ⟨arr, clock, seen, h1, h2, h3, h4, h5⟩ := h
  have hne : b ≠ bi := fun e => by rw [e, h2] at h1; cases h1
  have hgo : (getObj bi).run P w = .ok (.mapIter (some b) clock seen clock) w := by simp [getObj, Sem.run, h2]
  have hgb : ∀ w' : World, w'.heap[b]? = some (.map arr clock) → (getObj b).run P w' = .ok (.map arr clock) w' := fun w' h => by simp [getObj, Sem.run, h]
  have hg2 : ((¬seen = #[] ∧ ¬arr = #[]) ∧ ∀ (i : Nat) (x : i < arr.size), clock ≤ arr[i].born) = False := by
    rw [eq_iff_iff, iff_false]
    rintro ⟨⟨_, ha⟩, hc⟩
    have hs : 0 < arr.size := Nat.pos_of_ne_zero fun h => ha (Array.eq_empty_of_size_eq_zero h)
    have h6 := hc 0 hs
    have h7 := h5 (arr[0]'hs) (by simp)
    omega
  have hguard : (!seen.isEmpty && !arr.isEmpty && arr.all fun x => decide (x.born ≥ clock)) = false := by
    rw [Bool.eq_false_iff]; intro h; apply (eq_iff_iff.1 hg2).1
    simpa using h
  have hold : ((arr.filter fun e => !seen.contains e.born).filter fun x => decide (x.born < clock)) = (arr.filter fun e => !seen.contains e.born) := by
    rw [Array.filter_eq_self]
    intro x hx
    have := (Array.mem_filter.1 hx).1
    have := h5 x (by simpa using this)
    simpa using this
  have hnew : ((arr.filter fun e => !seen.contains e.born).filter fun x => decide (x.born ≥ clock)) = #[] := by
    rw [Array.filter_eq_empty_iff]
    intro x hx
    have := (Array.mem_filter.1 hx).1
    have := h5 x (by simpa using this)
    simp; omega
  generalize hF : (arr.filter fun e => !seen.contains e.born) = F at hold hnew
  have hFl : F.toList = arr.toList.filter fun e => !seen.contains e.born := by rw [← hF]; simp
  rw [← hFl] at h3
  by_cases hFe : F = #[]
  · subst hFe
    refine .inl ⟨by cases left with | nil => rfl | cons p r => simp at h3, ?_⟩
    have hch : (choose (.mapNext 1)).run P w = .ok 0 w := by rw [run_choose]; rfl
    simp only [Instr.next, Sem.run_bind, hgo, Result.andThen_ok, hgb w h1, hguard, Bool.false_eq_true, if_false, pure_bind, hF]
    have e0 : ∀ p : MapEntry → Bool, Array.filter p #[] = #[] := fun p => by simp
    simp only [e0, Array.isEmpty_empty, if_true, Array.append_empty, Array.map_empty]
    rw [show (#[(none : Option MapEntry)]).size = 1 from rfl, hch]
    simp
  · right
    have hFs : 0 < F.size := Nat.pos_of_ne_zero fun h => hFe (Array.eq_empty_of_size_eq_zero h)
    have hFi : F.isEmpty = false := by simp [Array.isEmpty]; exact hFe
    obtain ⟨i, w1, hi, hch, hw1⟩ := run_pick P w F.size hFs
    have hb1 : w1.heap = w.heap := by rcases hw1 with rfl | rfl <;> rfl
    have hem : F[i] ∈ F.toList := by simp
    obtain ⟨⟨k, v⟩, hp, he⟩ := map_inv h3 hem
    simp only [Prod.mk.injEq] at he
    have hFn : (F.toList.map (·.born)).Nodup := by rw [hFl]; exact h4.sublist (List.filter_sublist.map _)
    obtain ⟨left0, hl1, hl2⟩ := perm_pairs _ F.toList left (perm_born F[i] F.toList hem hFn) h3
    cases left0 with
    | nil => simp at hl2
    | cons q left' =>
      simp only [List.map_cons, List.cons.injEq] at hl2
      obtain ⟨hq, hl2⟩ := hl2
      obtain ⟨qk, qv⟩ := q
      simp only [Prod.mk.injEq] at hq
      have harr : F[i] ∈ arr.toList := by
        have : F[i] ∈ F.toList := hem
        rw [hFl] at this
        exact (List.mem_filter.1 this).1
      have hbi1 : w1.heap[bi]? = some (.mapIter (some b) clock seen clock) := by rw [hb1]; exact h2
      have hbi2 := heap_setObj w1 bi (.mapIter (some b) clock (seen.push F[i].born) clock) (by rw [hb1]; exact hlt.1)
      have hb2 : ({ w1 with heap := w1.heap.setIfInBounds bi (.mapIter (some b) clock (seen.push F[i].born) clock) } : World).heap[b]? = some (.map arr clock) := by
        show (w1.heap.setIfInBounds bi _)[b]? = _
        rw [Array.getElem?_setIfInBounds, if_neg (fun e => hne e.symm), hb1]; exact h1
      refine ⟨qk, qv, left', { w1 with heap := w1.heap.setIfInBounds bi (.mapIter (some b) clock (seen.push F[i].born) clock) }, hl1, ?_, ⟨arr, clock, seen.push F[i].born, hb2, hbi2, ?_, h4, h5⟩, ?_, by show (w1.heap.setIfInBounds _ _).size = _; rw [Array.size_setIfInBounds, hb1], ?_⟩
      · have hget : (F.map some)[i]? = some (some F[i]) := by simp [hi]
        simp only [Instr.next, Sem.run_bind, hgo, Result.andThen_ok, hgb w h1, hguard, Bool.false_eq_true, if_false, pure_bind, hF, hold, hnew, hFi]
        simp only [Array.empty_append, Array.append_empty, Array.size_map, if_false, Bool.false_eq_true]
        rw [hch]
        simp [hi, run_setObj (P := P) hbi1 (by simp), hq.1, hq.2]
      · rw [← hl2, hFl, List.filter_filter]
        congr 1
        apply List.filter_congr
        intro x hx
        rw [Array.contains_push, Bool.not_or, Bool.and_comm]
      · have hg := grown_setObj w1 bi (.mapIter (some b) clock (seen.push F[i].born) clock)
        rcases hw1 with rfl | rfl
        · exact hg
        · exact ⟨hg.os, hg.tape, hg.output, hg.size, hg.block⟩
      · have hfind : arr.find? (fun e => e.born == F[i].born) = some F[i] := by
          have hsome : ∃ y, arr.toList.find? (fun e => e.born == F[i].born) = some y := by
            cases hx : arr.toList.find? (fun e => e.born == F[i].born) with
            | some y => exact ⟨y, rfl⟩
            | none => have := List.find?_eq_none.1 hx _ harr; simp at this
          obtain ⟨y, hy⟩ := hsome
          have hyb := List.find?_some hy
          have hym := List.mem_of_find?_eq_some hy
          have : y = F[i] := by
            have hpw : arr.toList.Pairwise (fun a c => a.born ≠ c.born) := by rw [List.Nodup, List.pairwise_map] at h4; exact h4
            rcases List.mem_iff_getElem.1 hym with ⟨m, hm, em⟩
            rcases List.mem_iff_getElem.1 harr with ⟨m', hm', em'⟩
            rw [List.pairwise_iff_getElem] at hpw
            rcases Nat.lt_trichotomy m m' with h | h | h
            · have := hpw m m' hm hm' h; rw [em, em'] at this; exact absurd (by simpa using hyb) this
            · subst h; rw [← em, ← em']
            · have := hpw m' m hm' hm h; rw [em, em'] at this; exact absurd (by simpa using hyb) (Ne.symm this)
          rw [this] at hy
          rw [← hy]
          simp
        simp [Instr.entry, getObj, Sem.run, hbi2, hb2, hfind, hq.1, hq.2]

variable {ops : Array Oper} {rest : List Oper} {o : Oper} {a : Act} {Q : Exit → Act → World → Prop} {w : World} {b bi : Nat} {es left : List (κ × Value)}

theorem wpList_range (ht : P.underlying T = some (.map K E)) {m : Operand} (hg : o.guard = none) (ho : o.op = Op.range T m) (hm : a.eval m = .map (some b)) (hma : MapAt mk w b es)
    (h : ∀ y : Later w.heap.size w, IterAt mk y.to w.heap.size b es → w.heap.size < y.to.heap.size → wpList P ops Q rest (a.put o.dst (.pointer (some ⟨w.heap.size, 0, none⟩))) y.to) : wpList P ops Q (o :: rest) a w := by
  refine wpList_plain hg fun K' hK' => ?_
  obtain ⟨clock, arr, h1, h2⟩ := hma.iter
  have hrun : (Instr.range T (.map (some b))).run P w = .ok (.pointer (some ⟨w.heap.size, 0, none⟩)) (w.alloc (.mapIter (some b) clock #[] clock)) := by
    simp [Instr.range, run_underlying ht, run_getMap h1]
  unfold Oper.wp
  simp only [execOp, ho, hm, Sem.run_bind, Sem.run_map, hrun, Result.andThen_ok]
  exact hK' _ _ (h ⟨_, (Below.refl _ _).alloc (Nat.le_refl _) _⟩ h2 (by simp))

theorem wpList_next {it : Operand} (hg : o.guard = none) (ho : o.op = Op.next it false) (hit : a.eval it = .pointer (some ⟨bi, 0, none⟩)) (hi : IterAt mk w bi b left)
    (hDone : left = [] → wpList P ops Q rest (a.put o.dst (.tuple #[.bool false])) w)
    (hMore : ∀ k v left' (u : Grw (some bi) w), left.Perm ((k, v) :: left') → IterAt mk u.to bi b left' → u.to.heap.size = w.heap.size → (Instr.entry (.pointer (some ⟨bi, 0, none⟩))).run P u.to = .ok (.tuple #[mk k, v]) u.to →
      wpList P ops Q rest (a.put o.dst (.tuple #[.bool true, mk k, v])) u.to) : wpList P ops Q (o :: rest) a w := by
  refine wpList_plain hg fun K' hK' => ?_
  unfold Oper.wp
  rcases run_next (P := P) hi o.type with ⟨h1, h2⟩ | ⟨k, v, left', w', h1, h2, h3, h4, h5, h6⟩
  · simp only [execOp, ho, hit, Sem.run_bind, Sem.run_map, h2, Result.andThen_ok]
    exact hK' _ _ (hDone h1)
  · simp only [execOp, ho, hit, Sem.run_bind, Sem.run_map, h2, Result.andThen_ok]
    exact hK' _ _ (hMore k v left' ⟨w', h4⟩ h1 h3 h5 h6)
end
end Go.Cib

set_option linter.unusedSimpArgs false
set_option linter.unusedVariables false
namespace Go.Proofs.YthhljmlpjnkfgaaGreat
open Go.RowKit Go.Cib
attribute [local go_sem] cell_set Later.cell Later.frozen Grw.cell Grw.frozen

def numOk (n : Nat) (xs : List Int) : Prop := (∀ x ∈ xs, 0 ≤ x ∧ x < n) ∧ xs.Nodup
instance (n : Nat) (xs : List Int) : Decidable (numOk n xs) := inferInstanceAs (Decidable (_ ∧ _))
theorem zero_boolN : ∀ w, (zeroValue 4).run Tryz.prog w = .ok (.bool false) w := fun w => by kernel_rfl
theorem kt_int : KeyTy Tryz.prog 3 (Value.int .i64) := keyTy_int (by kernel_rfl)
theorem un_imap : Tryz.prog.underlying 104 = some (.map 3 4) := by kernel_rfl
theorem int_at {S : Nat → Prop} {w : World} {b o n : Nat} {xs : List Int} (h : RdL IntR 1 S w (some ⟨b, o, none⟩) n xs) {k : Nat} (hk : k < n) : ∃ x, xs[k]? = some x ∧ w.cell? ⟨b, o + k, none⟩ = some (.int .i64 x) := by
  obtain ⟨hl, cs, _, rfl, h2⟩ := h.at hk
  refine ⟨xs[k], List.getElem?_eq_getElem hl, ?_⟩
  have := h2 0 _ rfl
  rwa [Nat.mul_one, Nat.add_zero] at this
/-- Which numbers were met. -/
def SeenI (w : World) (b : Nat) (l : List Int) : Prop := ∃ es : List (Int × Value), MapAt (Value.int .i64) w b es ∧ ∀ x, (mlook es x).getD (.bool false) = .bool (decide (x ∈ l))
set_option maxRecDepth 100000 in
set_option maxHeartbeats 8000000 in
theorem numbers_any {w : World} {cb b k m n c : Nat} {A : Option Addr} {S : Nat → Prop} {xs : List Int} (H : CodAt w cb b k m) (R : RdL IntR 1 S w A n xs) (hn : n ≤ 1000000) :
    Calls Tryz.prog 30 #[.pointer (some ⟨cb, 0, none⟩), .slice A n c] w fun e w' => e = .returned (.bool (decide (numOk (k + m) xs))) ∧ Below w.heap.size w w' := by
  have HC := Lib.hid H
  have HR := Lib.hid R
  have hxl := R.1
  have q0 : (n : Int) ≤ 1000000 := by omega
  have hmm := @run_makeMap Tryz.prog
  have hb0 : Below w.heap.size w (w.alloc (.map #[] 0)) := (Below.refl _ _).alloc (Nat.le_refl _) _
  have hs0 : SeenI (w.alloc (.map #[] 0)) w.heap.size [] := ⟨[], MapAt.new _ w, fun x => by simp [mlook]⟩
  have HB0 := Lib.hid hb0
  have HS0 := Lib.hid hs0
  clear H R hb0 hs0
  go_enter Tryz.func30, Tryz.ntmps30
  go_wp2_with fail
  clear hmm
  go_loopw [11] (fun vi wr => ∃ i : Nat, i ≤ n ∧ vi = .int .i64 i ∧ Hid (SeenI wr w.heap.size (xs.take i)) ∧ Hid (Below w.heap.size w wr) ∧ Hid (numOk (k + m) (xs.take i))) (fun vi _ => n - (intOf vi).toNat)
  case atStart => exact ⟨0, Nat.zero_le _, rfl, HS0, HB0, Lib.hid ⟨fun x hx => by simp at hx, by simp⟩⟩
  case round =>
    clear HS0 HB0
    obtain ⟨i, hi, rfl, HS, HB, HK⟩ := hrel
    have p0 : (0 : Int) ≤ (i : Int) := Int.natCast_nonneg _
    by_cases hlt : i < n
    · have p1 : (i : Int) < (n : Int) := by omega
      obtain ⟨bb, o, rfl, _, hbb⟩ := HR.out.addr hlt
      obtain ⟨x, hx, v1⟩ := int_at HR.out hlt
      have v1' := (HB.out.cell (p := ⟨bb, o + i, none⟩) hbb).trans v1
      have htk : xs.take (i + 1) = xs.take i ++ [x] := by rw [List.take_add_one, hx]; rfl
      have hbad : ∀ h : ¬ numOk (k + m) (xs.take (i + 1)), decide (numOk (k + m) xs) = false := fun h => decide_eq_false fun h2 => h ⟨fun y hy => h2.1 y (List.mem_of_mem_take hy), (List.take_sublist _ _).nodup h2.2⟩
      have hN := cn_any (HC.out.below HB.out)
      have HBAD := Lib.hid hbad
      have HTK := Lib.hid htk
      clear v1 hbad htk hx
      by_cases h1 : x < 0
      · have hf := HBAD.out (fun h => by have := (h.1 x (by rw [HTK.out]; simp)).1; omega)
        have HF := Lib.hid hf
        clear hf hN
        go_wp2_with fail
        go_ret
        exact ⟨by rw [HF.out]; rfl, HB.out⟩
      · by_cases h2 : x ≥ ((k + m : Nat) : Int)
        · have hf := HBAD.out (fun h => by have := (h.1 x (by rw [HTK.out]; simp)).2; omega)
          have HF := Lib.hid hf
          have h2' : x ≥ (k : Int) + (m : Int) := by omega
          clear hf
          go_wp2_with (go_at_call 29; refine hN.mono ?_; rintro e w2 ⟨rfl, hb2⟩; have HB2 := Lib.hid (HB.out.trans (hb2.mono HB.out.size)); clear hN hb2)
          go_ret
          exact ⟨by rw [HF.out]; rfl, HB2.out⟩
        · have h2' : ¬ x ≥ (k : Int) + (m : Int) := by omega
          obtain ⟨es, hm, hlk⟩ := HS.out
          have hl := fun w' (hb : Below wr.heap.size wr w') => run_lookup kt_int un_imap zero_boolN (hm.below hb) x false
          simp only [hlk x, Bool.false_eq_true, if_false] at hl
          by_cases h3 : x ∈ xs.take i
          · have hf := HBAD.out (fun h => by
              have h4 := h.2
              rw [HTK.out, List.nodup_append] at h4
              exact h4.2.2 x h3 x (by simp) rfl)
            have HF := Lib.hid hf
            rw [decide_eq_true h3] at hl
            clear hf h3 hlk
            go_wp2_with (go_at_call 29; refine hN.mono ?_; rintro e w2 ⟨rfl, hb2⟩; have hl2 := hl w2 hb2; have HB2 := Lib.hid (HB.out.trans (hb2.mono HB.out.size)); clear hN hb2 hl)
            go_ret
            exact ⟨by rw [HF.out]; rfl, HB2.out⟩
          · rw [decide_eq_false h3] at hl
            have hok : numOk (k + m) (xs.take (i + 1)) := by
              rw [HTK.out]
              refine ⟨fun y hy => ?_, ?_⟩
              · rcases List.mem_append.1 hy with hy | hy
                · exact HK.out.1 y hy
                · rw [List.mem_singleton.1 hy]; omega
              · rw [List.nodup_append]
                exact ⟨HK.out.2, by simp, fun y hy z hz e => h3 (by rw [List.mem_singleton.1 hz] at e; rwa [← e])⟩
            have HOK := Lib.hid hok
            have HM := Lib.hid hm
            have HLK := Lib.hid hlk
            clear hok h3 hlk hm
            go_wp2_with (first
              | (go_at_call 29; refine hN.mono ?_; rintro e w2 ⟨rfl, hb2⟩; have hl2 := hl w2 hb2; have HB2 := Lib.hid (HB.out.trans (hb2.mono HB.out.size)); have HM2 := Lib.hid (HM.out.below hb2); clear hN hb2 hl)
              | (refine wpList_mapUpdate kt_int un_imap rfl (.inl rfl) (k := x) (val := .bool true) (by rfl) (by rfl) (by rfl) HM2.out ?_; intro ug hmu hsz; have HMU := Lib.hid hmu; have HB3 := Lib.hid (show Below w.heap.size w ug.to from HB2.out.grown ug.ok HB2.out.size (fun k e => by cases e; exact Nat.le_refl _)); clear hmu hsz))
            have hse : SeenI ug.to w.heap.size (xs.take (i + 1)) := ⟨_, HMU.out, fun y => by
              rw [look_put, HTK.out]
              by_cases e : x = y
              · rw [if_pos e, e]; simp
              · rw [if_neg e, HLK.out y]
                have : (y ∈ xs.take i ++ [x]) ↔ y ∈ xs.take i := by
                  rw [List.mem_append, List.mem_singleton]
                  exact ⟨fun h => h.resolve_right (fun h => e h.symm), .inl⟩
                simp only [this]⟩
            exact ⟨⟨i + 1, by omega, by go_num, Lib.hid hse, HB3, HOK⟩, by simp [intOf]; omega⟩
    · have p1 : ¬ (i : Int) < (n : Int) := by omega
      have hx := HK.out
      rw [List.take_of_length_le (by omega)] at hx
      have hf : decide (numOk (k + m) xs) = true := decide_eq_true hx
      have HF := Lib.hid hf
      clear hf hx
      go_wp2_with fail
      go_ret
      exact ⟨by rw [HF.out]; rfl, HB.out⟩
end Go.Proofs.YthhljmlpjnkfgaaGreat

set_option linter.unusedSimpArgs false
set_option linter.unusedVariables false
namespace Go.Proofs.YthhljmlpjnkfgaaGreat
open Go.RowKit Go.Cib
attribute [local go_sem] cell_set Later.cell Later.frozen Grw.cell Grw.frozen
attribute [local go_sem] Oper.semAt_some
open Go.Shelf

theorem RoundIn.anyDepth2 {F : Fence} (hd : F.depth = none) {m m' : Nat} {P : Program} {l : Nat} {f : FuncId} {tmps : Array Value} {assign body : Code} {w : World} {R : Ending → World → Prop}
    (h : RoundIn F m P l f tmps assign body w R) : RoundIn F m' P l f tmps assign body w R := ⟨h.1, fun c cs _ => h.2 c cs (fun d h => by rw [hd] at h; cases h)⟩
theorem YieldAt.anyDepth2 {F : Fence} (hd : F.depth = none) {m : Nat} (m' : Nat) {P : Program} {l : Nat} {args : Array Value} {W : World} {R : Ending → World → Prop} (h : YieldAt F m P l args W R) : YieldAt F m' P l args W R := by
  obtain ⟨fn, tmps, assign, body, hy, hR⟩ := h
  exact ⟨fn, tmps, assign, body, hy, RoundIn.anyDepth2 hd hR⟩
set_option maxRecDepth 100000 in
theorem values_any {w : World} {A : Option Addr} {n c : Nat} : Calls Tryz.prog 33 #[.slice A n c] w fun e w' => e = .returned (.func (.func 54) #[] #[.pointer (some ⟨w.heap.size, 0, none⟩)]) ∧ w' = w.alloc (.cells #[.slice A n c] 22) := by
  go_enter Tryz.func33, Tryz.ntmps33
  go_wp2_with fail
  go_ret
  exact ⟨rfl, rfl⟩
set_option maxRecDepth 100000 in
set_option maxHeartbeats 8000000 in
theorem vals1_in {w : World} {A : Option Addr} {n c Bs : Nat} {S : Nat → Prop} {xs : List Int} (R : RdL IntR 1 S w A n xs) (hn : n ≤ 1000000) (hbs : BoxAt w Bs #[.slice A n c]) (d l : Nat) (J Jx : List Int → World → Prop)
    (hY : ∀ m pre x W, J pre W → pre.length < n → YieldAt Fence.wide m Tryz.prog l #[.int .i64 x] W fun e W' => (e = .returned (.bool true) ∧ J (pre ++ [x]) W' ∧ Below w.heap.size W W') ∨ (e = .returned (.bool false) ∧ Jx (pre ++ [x]) W'))
    (W : World) (hW : Below w.heap.size w W) (h0 : J [] W) :
    CallsIn Fence.wide d Tryz.prog 54 #[.func (.yield l) #[] #[], .pointer (some ⟨Bs, 0, none⟩)] W fun e W' => (∃ v, e = .returned v) ∧ (J xs W' ∨ (∃ q, Jx q W')) := by
  have HR := Lib.hid R
  have hxl := R.1
  have k0 := (hW.cell (p := ⟨Bs, 0, none⟩) hbs.lt).trans (hbs.cell 0)
  have HW := Lib.hid hW
  have q0 : (n : Int) ≤ 1000000 := by omega
  have HY := Lib.hid hY
  have H0 := Lib.hid h0
  clear R hbs hW hY h0
  refine callsIn_of_wp Tryz.func54 rfl trivial ?_ rfl
  simp only [Tryz.ntmps54, List.size_toArray, List.length_cons, List.length_nil, Nat.reduceAdd, Nat.reduceSub, Array.replicate_succ, Array.replicate_zero, List.push_toArray, List.append_toArray, List.nil_append, List.cons_append]
  gi_wp2
  try go_frame
  gi_loopg [7] n (fun g vi wr => ∃ i : Nat, i + g = n ∧ vi = .int .i64 i ∧ Hid (J (xs.take i) wr) ∧ Hid (Below w.heap.size w wr))
  case atStart => exact ⟨0, by omega, rfl, by rw [List.take_zero]; exact H0, HW⟩
  case round =>
    obtain ⟨i, hi, rfl, HJ, HB⟩ := hrel
    have p0 : (0 : Int) ≤ (i : Int) := Int.natCast_nonneg _
    by_cases hlt : i < n
    · have p1 : (i : Int) < (n : Int) := by omega
      obtain ⟨bb, o, rfl, _, hbb⟩ := HR.out.addr hlt
      obtain ⟨x, hx, v1⟩ := int_at HR.out hlt
      have v1' := (HB.out.cell (p := ⟨bb, o + i, none⟩) hbb).trans v1
      have htk : xs.take (i + 1) = xs.take i ++ [x] := by rw [List.take_add_one, hx]; rfl
      obtain ⟨fn, tmps, assign, body, hy, hR⟩ := HY.out (d - 1) (xs.take i) x wr HJ.out (by rw [List.length_take]; omega)
      rw [← htk] at hR
      have HRR := Lib.hid hR
      clear hR htk v1 hx
      gi_wp2
      refine ⟨fun h => (by cases h), ?_⟩
      refine HRR.out.mono ?_
      rintro e W3 (⟨rfl, hJ3, hk3⟩ | ⟨rfl, hx3⟩)
      · have HJ3 := Lib.hid hJ3
        have HB3 := Lib.hid (HB.out.trans hk3)
        clear hJ3 hk3 HRR
        gi_wp2
        gi_roundg (n - (i + 1))
        case measure => omega
        case rel => exact ⟨i + 1, by omega, by go_num, HJ3, HB3⟩
      · have HX3 := Lib.hid hx3
        clear hx3 HRR
        gi_wp2
        refine bodyPost_ret (results_none rfl _ _ _) rfl ?_
        exact ⟨⟨_, rfl⟩, .inr ⟨_, HX3.out⟩⟩
    · have p1 : ¬ (i : Int) < (n : Int) := by omega
      have hJ := HJ.out
      rw [List.take_of_length_le (by omega)] at hJ
      have HJ2 := Lib.hid hJ
      clear hJ
      gi_wp2
      go_end0
      exact ⟨⟨_, rfl⟩, .inl HJ2.out⟩
end Go.Proofs.YthhljmlpjnkfgaaGreat

namespace Go.Proofs.YthhljmlpjnkfgaaGreat
open Go.Shelf Go.Proofs
def Tryz.sortedI_ren : Go.Shelf.Ren := ⟨fun | 6 => 32 | 8 => 52 | 9 => 53 | 11 => 69 | 13 => 71 | 12 => 70 | 23 => 92 | 24 => 93 | 14 => 83 | 15 => 84 | 16 => 85 | 17 => 86 | 18 => 87 | 19 => 88 | 20 => 89 | 21 => 90 | 22 => 91 | 25 => 101 | 26 => 102 | 27 => 103 | 28 => 104 | 29 => 105 | 30 => 106 | 31 => 113 | n => n, fun | 26 => 3 | 28 => 85 | 24 => 22 | 0 => 0 | 3 => 3 | 37 => 109 | 48 => 66 | 50 => 143 | 4 => 4 | 40 => 135 | 39 => 134 | 45 => 139 | 5 => 5 | 9 => 9 | 51 => 151 | 55 => 155 | 57 => 164 | 58 => 165 | 33 => 98 | n => n, fun | n => n⟩
theorem Tryz.sortedI : Go.Proofs.SlLaysZI.n6 Tryz.prog Tryz.sortedI_ren := {
  mixed := by kernel_rfl
  f6 := ⟨Tryz.f32.name, by decide, Tryz.func32.trans (congrArg some (by kernel_rfl))⟩
  f8 := ⟨Tryz.f52.name, by decide, Tryz.func52.trans (congrArg some (by kernel_rfl))⟩
  f11 := ⟨Tryz.f69.name, by decide, Tryz.func69.trans (congrArg some (by kernel_rfl))⟩
  t0 := Tryz.underlying0
  a0 := Tryz.isAgg0
  z0 := Tryz.sizeOf0
  v0 := Tryz.zeroValue0
  t24 := Tryz.underlying22
  a24 := Tryz.isAgg22
  z24 := Tryz.sizeOf22
  v24 := Tryz.zeroValue22
  t26 := Tryz.underlying3
  a26 := Tryz.isAgg3
  z26 := Tryz.sizeOf3
  v26 := Tryz.zeroValue3
  t28 := Tryz.underlying85
  a28 := Tryz.isAgg85
  z28 := Tryz.sizeOf85
  v28 := Tryz.zeroValue85
  i26 := by kernel_rfl }
def Tryz.sortI_ren : Go.Shelf.Ren := ⟨fun | 5 => 53 | 8 => 71 | 7 => 70 | 19 => 92 | 20 => 93 | 10 => 83 | 11 => 84 | 12 => 85 | 13 => 86 | 14 => 87 | 15 => 88 | 16 => 89 | 17 => 90 | 18 => 91 | 30 => 101 | 31 => 102 | 32 => 103 | 33 => 104 | 34 => 105 | 35 => 106 | 40 => 113 | n => n, fun | 23 => 22 | 25 => 3 | 3 => 3 | 32 => 109 | 22 => 22 | 0 => 0 | 44 => 66 | 46 => 143 | 4 => 4 | 36 => 135 | 35 => 134 | 41 => 139 | 5 => 5 | 9 => 9 | 53 => 151 | 57 => 155 | 63 => 164 | 64 => 165 | n => n, fun | n => n⟩
theorem Tryz.sortI : Go.Proofs.SlLaysM.n5 Tryz.prog Tryz.sortI_ren := {
  mixed := by kernel_rfl
  f5 := ⟨Tryz.f53.name, by decide, Tryz.func53.trans (congrArg some (by kernel_rfl))⟩
  f7 := ⟨Tryz.f70.name, by decide, Tryz.func70.trans (congrArg some (by kernel_rfl))⟩
  f8 := Tryz.func71.trans (congrArg some (by kernel_rfl))
  f10 := ⟨Tryz.f83.name, by decide, Tryz.func83.trans (congrArg some (by kernel_rfl))⟩
  f11 := ⟨Tryz.f84.name, by decide, Tryz.func84.trans (congrArg some (by kernel_rfl))⟩
  f12 := ⟨Tryz.f85.name, by decide, Tryz.func85.trans (congrArg some (by kernel_rfl))⟩
  f13 := ⟨Tryz.f86.name, by decide, Tryz.func86.trans (congrArg some (by kernel_rfl))⟩
  f14 := ⟨Tryz.f87.name, by decide, Tryz.func87.trans (congrArg some (by kernel_rfl))⟩
  f15 := ⟨Tryz.f88.name, by decide, Tryz.func88.trans (congrArg some (by kernel_rfl))⟩
  f16 := ⟨Tryz.f89.name, by decide, Tryz.func89.trans (congrArg some (by kernel_rfl))⟩
  f17 := ⟨Tryz.f90.name, by decide, Tryz.func90.trans (congrArg some (by kernel_rfl))⟩
  f18 := ⟨Tryz.f91.name, by decide, Tryz.func91.trans (congrArg some (by kernel_rfl))⟩
  f19 := Tryz.func92.trans (congrArg some (by kernel_rfl))
  f20 := Tryz.func93.trans (congrArg some (by kernel_rfl))
  f30 := ⟨Tryz.f101.name, by decide, Tryz.func101.trans (congrArg some (by kernel_rfl))⟩
  f31 := Tryz.func102.trans (congrArg some (by kernel_rfl))
  f32 := Tryz.func103.trans (congrArg some (by kernel_rfl))
  f33 := ⟨Tryz.f104.name, by decide, Tryz.func104.trans (congrArg some (by kernel_rfl))⟩
  f34 := ⟨Tryz.f105.name, by decide, Tryz.func105.trans (congrArg some (by kernel_rfl))⟩
  f35 := ⟨Tryz.f106.name, by decide, Tryz.func106.trans (congrArg some (by kernel_rfl))⟩
  f40 := ⟨Tryz.f113.name, by decide, Tryz.func113.trans (congrArg some (by kernel_rfl))⟩
  t0 := Tryz.underlying0
  a0 := Tryz.isAgg0
  z0 := Tryz.sizeOf0
  v0 := Tryz.zeroValue0
  t3 := Tryz.underlying3
  a3 := Tryz.isAgg3
  z3 := Tryz.sizeOf3
  v3 := Tryz.zeroValue3
  t4 := Tryz.underlying4
  a4 := Tryz.isAgg4
  z4 := Tryz.sizeOf4
  v4 := Tryz.zeroValue4
  t5 := Tryz.underlying5
  a5 := Tryz.isAgg5
  z5 := Tryz.sizeOf5
  v5 := Tryz.zeroValue5
  t9 := Tryz.underlying9
  a9 := Tryz.isAgg9
  z9 := Tryz.sizeOf9
  v9 := Tryz.zeroValue9
  t22 := Tryz.underlying22
  a22 := Tryz.isAgg22
  z22 := Tryz.sizeOf22
  v22 := Tryz.zeroValue22
  t23 := Tryz.underlying22
  a23 := Tryz.isAgg22
  z23 := Tryz.sizeOf22
  v23 := Tryz.zeroValue22
  t25 := Tryz.underlying3
  a25 := Tryz.isAgg3
  z25 := Tryz.sizeOf3
  v25 := Tryz.zeroValue3
  t32 := Tryz.underlying109
  a32 := Tryz.isAgg109
  z32 := Tryz.sizeOf109
  v32 := Tryz.zeroValue109
  t35 := Tryz.underlying134
  a35 := Tryz.isAgg134
  z35 := Tryz.sizeOf134
  v35 := Tryz.zeroValue134
  t36 := Tryz.underlying135
  a36 := Tryz.isAgg135
  z36 := Tryz.sizeOf135
  v36 := Tryz.zeroValue135
  t41 := Tryz.underlying139
  a41 := Tryz.isAgg139
  z41 := Tryz.sizeOf139
  v41 := Tryz.zeroValue139
  t44 := Tryz.underlying66
  a44 := Tryz.isAgg66
  z44 := Tryz.sizeOf66
  v44 := Tryz.zeroValue66
  t46 := Tryz.underlying143
  a46 := Tryz.isAgg143
  z46 := Tryz.sizeOf143
  v46 := Tryz.zeroValue143
  t53 := Tryz.underlying151
  a53 := Tryz.isAgg151
  z53 := Tryz.sizeOf151
  v53 := Tryz.zeroValue151
  t57 := Tryz.underlying155
  a57 := Tryz.isAgg155
  z57 := Tryz.sizeOf155
  v57 := Tryz.zeroValue155
  t63 := Tryz.underlying164
  a63 := Tryz.isAgg164
  z63 := Tryz.sizeOf164
  v63 := Tryz.zeroValue164
  t64 := Tryz.underlying165
  a64 := Tryz.isAgg165
  z64 := Tryz.sizeOf165
  v64 := Tryz.zeroValue165 }
end Go.Proofs.YthhljmlpjnkfgaaGreat

set_option linter.unusedSimpArgs false
set_option linter.unusedVariables false
namespace Go.Proofs.YthhljmlpjnkfgaaGreat
open Go.RowKit Go.Cib
attribute [local go_sem] cell_set Later.cell Later.frozen Grw.cell Grw.frozen
attribute [local go_sem] Oper.semAt_some
open Go.Shelf

theorem sl_intI : SlTy Tryz.prog 22 3 (.int .i64 0) 1 8 := ⟨by kernel_rfl, by kernel_rfl, by kernel_rfl, by omega⟩
theorem ownsRow_blkI {w w' : World} {base : Nat} {e : TypeId} {s n : Nat} {v : Value} {xs : List Value} (h : w.ownsRow base e s v n xs) (hb : ∀ g, v.ownBlock = some g → w'.heap[g]? = w.heap[g]?) : w'.ownsRow base e s v n xs := by
  refine ⟨h.1, ?_⟩
  rcases h.2 with h | ⟨g, cap, cur, rfl, h1, h2, h3⟩
  · exact .inl h
  · exact .inr ⟨g, cap, cur, rfl, h1, (hb g rfl).trans h2, h3⟩
theorem BoxAt.notcellsI {w : World} {b : Nat} {cs : Array Value} (h : BoxAt w b cs) {r : Nat} {o : Obj} (ho : w.heap[r]? = some o) (hn : o.isCells = false) : b ≠ r := fun e => by
  subst e
  obtain ⟨t, h⟩ := h
  rw [h] at ho
  cases ho
  cases hn
theorem row_cellsI {w : World} {base : Nat} {e : TypeId} {s n : Nat} {v : Value} {xs : List Value} (h : w.ownsRow base e s v n xs) {r : Nat} (hr : v.ownBlock = some r) : ∃ o : Obj, w.heap[r]? = some o ∧ o.isCells = true := by
  rcases h.2 with ⟨rfl, _⟩ | ⟨g, cap, cur, rfl, _, hblk, _⟩
  · cases hr
  · cases hr
    exact ⟨_, hblk, rfl⟩
theorem row_formI {w : World} {base : Nat} {e : TypeId} {s n : Nat} {v : Value} {xs : List Value} (h : w.ownsRow base e s v n xs) : ∃ A C, v = .slice A n C := by
  rcases h.2 with ⟨rfl, h0⟩ | ⟨g, cap, cur, rfl, _⟩
  · exact ⟨none, 0, by rw [h0]⟩
  · exact ⟨_, cap, rfl⟩
/-- Between two rounds: what has come lies in a row of the call's own. -/
structure AppI (w : World) (pre : List Int) (W : World) : Prop where
  low : Below w.heap.size w W
  row : ∃ v, BoxAt W w.heap.size #[v] ∧ W.ownsRow (w.heap.size + 1) 3 1 v pre.length (pre.map (Value.int .i64))
theorem AppI.grown {w W W' : World} {pre : List Int} {row : Option Nat} (h : AppI w pre W) (hg : W.grownBy W' row) (hr : ∀ r, row = some r → w.heap.size ≤ r ∧ ∃ o : Obj, W.heap[r]? = some o ∧ o.isCells = false) : AppI w pre W' := by
  obtain ⟨v, hv, ho⟩ := h.row
  refine ⟨h.low.grown hg h.low.size (fun k e => (hr k e).1), v, hv.keep (hg.block _ hv.lt (fun e => by obtain ⟨_, o, h1, h2⟩ := hr _ e.symm; exact BoxAt.notcellsI hv h1 h2 rfl)), ownsRow_blkI ho fun g hgb => hg.block g (ho.lt g hgb).2 fun e => ?_⟩
  obtain ⟨_, o, h1, h2⟩ := hr g e.symm
  obtain ⟨o2, h3, h4⟩ := row_cellsI ho hgb
  rw [h1] at h3
  cases h3
  rw [h2] at h4; cases h4
theorem AppI.below {w W W' : World} {pre : List Int} (h : AppI w pre W) (hb : Below W.heap.size W W') : AppI w pre W' :=
  h.grown (row := none) ⟨hb.os, hb.tape, hb.output, hb.size, fun k hk _ => hb.block k hk⟩ (fun r e => by cases e)
set_option maxRecDepth 100000 in
set_option maxHeartbeats 8000000 in
theorem appendI_any {w : World} {A : Option Addr} {n c Bs : Nat} {S : Nat → Prop} {xs : List Int} (R : RdL IntR 1 S w A n xs) (hn : n ≤ 1000000) (hbs : BoxAt w Bs #[.slice A n c]) :
    Calls Tryz.prog 69 #[.slice none 0 0, .func (.func 54) #[] #[.pointer (some ⟨Bs, 0, none⟩)]] w fun e w' => ∃ v, e = .returned v ∧ w'.ownsRow w.heap.size 3 1 v xs.length (xs.map (Value.int .i64)) ∧ Below w.heap.size w w' := by
  have HR := Lib.hid R
  have HBS := Lib.hid hbs
  clear R hbs
  refine (callsIn_wide (n := 8)).1 ?_
  refine callsIn_of_wp_marks Tryz.func69 rfl trivial ?_ rfl
  simp only [Tryz.ntmps69, List.size_toArray, List.length_cons, List.length_nil, Nat.reduceAdd, Nat.reduceSub, Array.replicate_succ, Array.replicate_zero, List.push_toArray, List.append_toArray, List.nil_append, List.cons_append]
  have hI0 : AppI w [] (w.alloc (.cells #[.slice none 0 0] 22)) := ⟨(Below.refl _ _).alloc (Nat.le_refl _) _, .slice none 0 0, BoxAt.new _ _ _, by simp, .inl ⟨rfl, rfl⟩⟩
  have hb0 : Below w.heap.size w (w.alloc (.cells #[.slice none 0 0] 22)) := (Below.refl _ _).alloc (Nat.le_refl _) _
  obtain ⟨w1, hw1⟩ : ∃ w1, w.alloc (.cells #[.slice none 0 0] 22) = w1 := ⟨_, rfl⟩
  rw [hw1] at hI0 hb0
  have HI0 := Lib.hid hI0
  have HB0 := Lib.hid hb0
  clear hI0 hb0
  gi_wp2
  have hsz : w.heap.size ≤ w1.heap.size := HB0.out.size
  refine wpIn_rangeFunc_ownH (α := Int) rfl (by omega) (gf := 54) (lb := #[.pointer (some ⟨Bs, 0, none⟩)]) rfl trivial (enters_of Tryz.func54 (by kernel_rfl) rfl)
    (encs := fun x => #[.int .i64 x]) (Kp := Below w.heap.size) (S := fun q => q = xs) (Sp := fun _ => True) (N := n) (w0 := w1)
    (fun lp J Jx W hW hJ hJx hY h0 => (vals1_in HR.out hn HBS.out _ lp J Jx (fun m pre x W1 h1 h2 => YieldAt.anyDepth2 rfl m (hY pre x W1 h1 h2)) W (HB0.out.trans (hW.mono hsz)) h0).mono
      fun e W' h => ⟨h.1, h.2.imp (fun h => ⟨xs, rfl, h⟩) (fun ⟨q, h⟩ => ⟨q, trivial, h⟩)⟩)
    belowK_t (belowK_b hsz) (Below.refl _ _) (fun _ => rfl)
    (AppI w) (fun _ _ _ => False)
    (fun s W W' row hs hg hr => hs.grown hg (fun r e => ⟨Nat.le_trans hsz (hr r e).1, (hr r e).2⟩))
    (fun c s W W' row hs hg hr => hs)
    HI0.out
    (fun x a' W => a' = { tmps := #[.slice none 0 0, (.func (.func 54) #[] #[.pointer (some ⟨Bs, 0, none⟩)]), .pointer (some ⟨w.heap.size, 0, none⟩), undef, .slice none 0 0, .int .i64 x, (.func (.func 54) #[] #[.pointer (some ⟨Bs, 0, none⟩)]), .int .i64 x, undef, undef, undef, undef, undef], defers := [] })
    (fun x a' s W W' row h hg hr => h)
    ?assign ?body ?done ?stop
  case assign =>
    rintro lp pre x W K hI hK
    have HI1 := Lib.hid hI
    clear hI
    gi_wp2
    exact hK _ _ (KeepsFrom.refl _ _) (Below.refl _ _) HI1.out rfl
  case body =>
    rintro lp pre x a' W hl hr hI rfl hlt
    obtain ⟨v, hv, ho⟩ := hI.row
    have hRA : ∃ RA RC, v = .slice RA pre.length RC := by
      rcases ho.2 with ⟨rfl, h⟩ | ⟨g, cap, cur, rfl, _⟩
      · exact ⟨none, 0, by rw [h]⟩
      · exact ⟨_, cap, rfl⟩
    obtain ⟨RA, RC, rfl⟩ := hRA
    have o0 := hv.cell 0
    have of0 := hv.frozen 0
    obtain ⟨m, hm⟩ : ∃ m, pre.length = m := ⟨_, rfl⟩
    rw [hm] at o0 ho hlt
    have hal := BoxAt.new W #[.int .i64 x] 3
    have hal1 : Below W.heap.size W (W.alloc (.cells #[.int .i64 x] 3)) := (Below.refl _ _).alloc (Nat.le_refl _) _
    have hgw : (W.alloc (.cells #[.int .i64 x] 3)).ownsRow (w.heap.size + 1) 3 1 (.slice RA m RC) m (pre.map (Value.int .i64)) := ownsRow_blkI ho fun g hg => hal1.block g (ho.lt g hg).2
    obtain ⟨W3, hW3⟩ : ∃ W3, W.alloc (.cells #[.int .i64 x] 3) = W3 := ⟨_, rfl⟩
    obtain ⟨vb, hvb⟩ : ∃ vb, W.heap.size = vb := ⟨_, rfl⟩
    have hbsW : w.heap.size < W.heap.size := hv.lt
    rw [hW3] at hal hal1 hgw
    rw [hvb] at hal
    have y30 := (hal1.cell (p := ⟨w.heap.size, 0, none⟩) hbsW).trans o0
    have yf30 := (hal1.frozen (p := ⟨w.heap.size, 0, none⟩) hbsW).trans of0
    have hsz3 := hal1.size
    have hlow := hI.low.size
    obtain ⟨ti, hti, htz, hts, htb⟩ := info_parts sl_intI.info
    have hownO : (Value.slice RA m RC).ownBlock ≠ some w.heap.size := fun e => by have := (ho.lt _ e).1; omega
    have HG := Lib.hid hgw
    have HAL := Lib.hid hal
    have HAL1 := Lib.hid hal1
    have HII := Lib.hid hI
    have HV := Lib.hid hv
    have HM := Lib.hid hm
    have HHO := Lib.hid ho
    have HW3 := Lib.hid hW3
    clear hgw hal hal1 hI hv ho hm hr
    gi_wp2_with (
      gi_at_builtin
      go_must (refine Go.wpListIn_append_own_at _ rfl _ _ 22 rfl (w.heap.size + 1) 3 ti _ 1 8 sl_intI.und hti htz hts htb rfl (by decide) (.slice RA m RC) m (pre.map (Value.int .i64)) rfl HG.out ⟨vb, 0, none⟩ 1 1 [.int .i64 x] rfl rfl (fun j u hj => by rw [Addr.add_lit, HAL.out.cell]; simpa using hj) (by intro u hu; simp at hu; subst hu; rfl) (by unfold maxLen; omega) (by omega) (by omega) ?_)
      intro v' w4' hown4 hg4 hnil4 hat4
      go_must (obtain ⟨A4, C4, rfl⟩ := row_formI hown4)
      go_must (have y40 := (World.cell?_of_block (a := ⟨w.heap.size, 0, none⟩) (hg4.block w.heap.size (by omega) (fun e => hownO e.symm))).trans y30)
      go_must (have yf40 := (World.frozen?_of_block (a := ⟨w.heap.size, 0, none⟩) (hg4.block w.heap.size (by omega) (fun e => hownO e.symm))).trans yf30)
      go_must (have HO4 := Lib.hid hown4)
      go_must (have HG4 := Lib.hid hg4)
      clear hown4 hg4 hnil4 hat4)
    have hI3 := HII.out.below HAL1.out
    have hrow : ∀ r, (Value.slice RA m RC).ownBlock = some r → w.heap.size + 1 ≤ r := fun r e => (HHO.out.lt r e).1
    have hS3 : w.heap.size ≤ W3.heap.size := hI3.low.size
    have hb4 : Below w.heap.size W3 w4' := (Below.refl _ _).grown HG4.out hS3 (fun k e => by have := hrow k e; omega)
    have hb5 : Below w.heap.size w4' (w4'.setCell ⟨w.heap.size, 0, none⟩ (.slice A4 (m + 1) C4)) := (Below.refl _ _).setCell (p := ⟨w.heap.size, 0, none⟩) (Nat.le_refl _) _
    refine ⟨?_, ((HAL1.out.mono hlow).trans hb4).trans hb5, (hI3.low.trans hb4).trans hb5, .slice A4 (m + 1) C4, ?_, ?_⟩
    · refine KeepsFrom.trans (KeepsFrom.of_grownBy (row := none) ⟨HAL1.out.os, HAL1.out.tape, HAL1.out.output, HAL1.out.size, fun k hk _ => HAL1.out.block k hk⟩ (fun r e => by cases e)) ?_
      refine KeepsFrom.trans (KeepsOthers.from (KeepsOthers.of_grownBy HG4.out ?_) _) ((KeepsOthers.setCell _ _ _).from _)
      intro r o e ho
      obtain ⟨o2, h1, h2⟩ := row_cellsI HG.out e
      rw [h1] at ho
      cases ho
      exact h2
    · have := ((HV.out.below HAL1.out).keep (HG4.out.block w.heap.size (Nat.lt_of_lt_of_le hbsW hsz3) (fun e => hownO e.symm))).set 0 (.slice A4 (m + 1) C4)
      simpa using this
    · rw [List.map_append, List.length_append, HM.out]
      exact ownsRow_blkI HO4.out fun g hg => Below.heap_setCell _ _ _ _ (fun e => by have := (HO4.out.lt g hg).1; dsimp only at e; omega)
  case done =>
    rintro D q W hD hq hI hK
    subst hq
    obtain ⟨v, hv, ho⟩ := hI.row
    have o0 := hv.cell 0
    have HII := Lib.hid hI
    have HO := Lib.hid ho
    have HK := Lib.hid hK
    have hDw : w.heap.size ≤ D := Nat.le_trans hsz hD
    clear hI ho hv hK
    gi_wp2
    refine ⟨by simp, .inl ⟨_, _, rfl, run_takeDeferred HK.out, ?_⟩⟩
    refine ⟨_, results_tmp rfl _ _ _, v, rfl, ?_, HII.out.low.trans (belowK_b (w := w) (Nat.le_refl _) W D _ _ hDw HK.out rfl rfl)⟩
    have h9 := ownsRow_blkI HO.out (w' := W.putObj D (.deferred none)) fun g hg => World.putObj_heap_other (fun e => by
      obtain ⟨o2, h3, h4⟩ := row_cellsI HO.out hg
      rw [e, HK.out] at h3
      cases h3
      cases h4)
    refine ⟨h9.1, h9.2.imp id ?_⟩
    rintro ⟨g, cap, cur, e1, e2, e3⟩
    exact ⟨g, cap, cur, e1, by omega, e3⟩
  case stop => rintro D c q W hD hq h hK; exact h.elim
end Go.Proofs.YthhljmlpjnkfgaaGreat

set_option linter.unusedSimpArgs false
set_option linter.unusedVariables false
namespace Go.Proofs.YthhljmlpjnkfgaaGreat
open Go.RowKit Go.Cib
attribute [local go_sem] cell_set Later.cell Later.frozen Grw.cell Grw.frozen
open Go.Maps Go.Sort Go.Shelf Go.Proofs

theorem row_rdI {w : World} {base n : Nat} {v : Value} {l : List Int} (h : w.ownsRow base 3 1 v n (l.map (Value.int .i64))) : ∃ A c, v = .slice A n c ∧ n ≤ c ∧ RdL IntR 1 (fun j => base ≤ j) w A n l := by
  have hl : l.length = n := by have := h.1; simpa using this
  rcases h.2 with ⟨rfl, h0⟩ | ⟨g, cap, cur, rfl, hg, hblk, hnc, hcm, hsz, ht⟩
  · subst h0
    exact ⟨none, 0, rfl, Nat.le_refl _, by rw [List.length_eq_zero_iff.1 hl]; exact RdL.nil⟩
  · refine ⟨_, cap, rfl, hnc, hl, fun _ => ⟨g, 0, rfl, hg, (Array.getElem?_eq_some_iff.1 hblk).1, fun i x hx => ⟨[.int .i64 x], rfl, rfl, fun j u hj => ?_⟩⟩⟩
    rcases j with _ | j
    · simp at hj; subst hj
      have hc := h.cells (g := g) rfl i (.int .i64 x) (by rw [List.getElem?_map, hx]; rfl)
      rw [Addr.add_lit, Nat.zero_add] at hc
      rw [show 0 + i * 1 + 0 = i by omega]
      exact hc
    · simp at hj
set_option maxRecDepth 100000 in
theorem collectI_any {w : World} {A : Option Addr} {n c Bs : Nat} {S : Nat → Prop} {xs : List Int} (R : RdL IntR 1 S w A n xs) (hn : n ≤ 1000000) (hbs : BoxAt w Bs #[.slice A n c]) :
    Calls Tryz.prog 52 #[.func (.func 54) #[] #[.pointer (some ⟨Bs, 0, none⟩)]] w fun e w' => ∃ v, e = .returned v ∧ w'.ownsRow w.heap.size 3 1 v xs.length (xs.map (Value.int .i64)) ∧ Below w.heap.size w w' := by
  have hap := appendI_any R hn hbs
  clear R hbs
  go_enter Tryz.func52, Tryz.ntmps52
  go_wp2_with fail
  refine hap.mono ?_
  rintro e w2 ⟨v, rfl, ho, hb⟩
  obtain ⟨RA, RC, rfl⟩ := row_formI ho
  have HO := Lib.hid ho
  have HB := Lib.hid hb
  clear ho hb hap
  go_wp2_with fail
  go_ret
  exact ⟨_, rfl, HO.out, HB.out⟩
def srtF (xs : List Int) : List Int := xs.mergeSort fun x y => decide (x ≤ y)
set_option maxRecDepth 100000 in
set_option maxHeartbeats 4000000 in
theorem sortedI_any {w : World} {A : Option Addr} {n c Bs : Nat} {S : Nat → Prop} {xs : List Int} (R : RdL IntR 1 S w A n xs) (hn : n ≤ 1000000) (hbs : BoxAt w Bs #[.slice A n c]) :
    Calls Tryz.prog 32 #[.func (.func 54) #[] #[.pointer (some ⟨Bs, 0, none⟩)]] w fun e w' => ∃ A' c', e = .returned (.slice A' n c') ∧ n ≤ c' ∧ RdL IntR 1 (fun j => w.heap.size ≤ j) w' A' n (srtF xs) ∧ Below w.heap.size w w' := by
  have hco := collectI_any R hn hbs
  have hxl := R.1
  rw [hxl] at hco
  clear R hbs
  go_enter Tryz.func32, Tryz.ntmps32
  go_wp2_with fail
  refine hco.mono ?_
  rintro e w2 ⟨v, rfl, ho, hb⟩
  have hb0 := hb
  rcases ho.2 with ⟨rfl, h0⟩ | ⟨g, cap, cur, rfl, hg, hblk, hnc, hcm, hsz, ht⟩
  · subst h0
    have hxn : xs = [] := List.length_eq_zero_iff.1 hxl
    subst hxn
    have hs := AnyM.slices_Sort_int_none Tryz.sortI none 0 w2
    change Calls Tryz.prog 53 _ _ _ at hs
    have HB := Lib.hid hb
    clear hb hb0 ho hco
    go_wp2_with fail
    refine hs.mono ?_
    rintro e w9 ⟨rfl, hw9⟩
    rw [hw9]
    clear hw9 hs
    go_wp2_with fail
    go_ret
    exact ⟨none, 0, rfl, Nat.le_refl _, (by rw [show srtF [] = [] by unfold srtF; simp]; exact RdL.nil), HB.out⟩
  · have hH : Holds (Value.int .i64) w2 g 0 xs.toArray := holds_of_block_i hblk (by rw [hxl, ← Nat.mul_one n]; exact ht)
    have hgl : g < w2.heap.size := (Array.getElem?_eq_some_iff.1 hblk).1
    have hs := AnyM.slices_Sort_int Tryz.sortI g 0 cap xs w2 hH hgl (by omega)
    change Calls Tryz.prog 53 _ _ _ at hs
    rw [hxl] at hs
    have HB := Lib.hid hb
    have HO := Lib.hid ho
    clear hb hb0 ho hco
    go_wp2_with fail
    refine hs.mono ?_
    rintro e w3 ⟨rfl, nn, os, hw3⟩
    have hw4 : w3 = grow (putRow (Value.int .i64) (Sort.ahead w2 nn) g 0 (srtF xs).toArray) os := hw3
    clear hw3
    have hrow := ownsRow_sorted_i (n := nn) (os := os) (ss := xs) (ts := srtF xs) (by unfold srtF; simp) hg hblk (by rw [hxl]; exact hnc) hcm hsz
    have hbg : Below w.heap.size w (grow (putRow (Value.int .i64) (Sort.ahead w2 nn) g 0 (srtF xs).toArray) os) := HB.out.grown (grownBy_sorted_i _) HB.out.size (fun j hj => by cases hj; exact hg)
    rw [hxl] at hrow
    change World.ownsRow _ _ _ _ _ _ ((srtF xs).map (Value.int .i64)) at hrow
    have hrow2 : w3.ownsRow w.heap.size 3 1 (.slice (some ⟨g, 0, none⟩) n cap) n ((srtF xs).map (Value.int .i64)) := by rw [hw4]; exact hrow
    have hbg2 : Below w.heap.size w w3 := by rw [hw4]; exact hbg
    obtain ⟨A9, c9, e9, hc9, hr9⟩ := row_rdI hrow2
    injection e9 with e1 _ e2
    subst e1; subst e2
    have HR9 := Lib.hid hr9
    have HBG := Lib.hid hbg2
    clear hrow hr9 hbg hbg2 hs hH HO hw4 hrow2
    go_wp2_with fail
    go_ret
    exact ⟨_, cap, rfl, hc9, HR9.out, HBG.out⟩
end Go.Proofs.YthhljmlpjnkfgaaGreat

set_option linter.unusedSimpArgs false
set_option linter.unusedVariables false
namespace Go.Proofs.YthhljmlpjnkfgaaGreat
open Go.RowKit Go.Cib
attribute [local go_sem] cell_set Later.cell Later.frozen Grw.cell Grw.frozen

def usN (k : Nat) (xs : List Int) : List Nat := ((srtF xs).take k).map Int.toNat
theorem srt_perm (xs : List Int) : (srtF xs).Perm xs := List.mergeSort_perm _ _
theorem srt_len (xs : List Int) : (srtF xs).length = xs.length := (srt_perm xs).length_eq
theorem usN_len {k : Nat} {xs : List Int} (h : k ≤ xs.length) : (usN k xs).length = k := by unfold usN; rw [List.length_map, List.length_take, srt_len]; omega
theorem usN_ok {k n : Nat} {xs : List Int} (h : numOk n xs) : ∀ u ∈ usN k xs, u < n := fun u hu => by
  obtain ⟨x, hx, rfl⟩ := List.mem_map.1 hu
  have hm : x ∈ xs := (srt_perm xs).mem_iff.1 (List.mem_of_mem_take hx)
  have := h.1 x hm
  omega
theorem nat_of_int {S : Nat → Prop} {w : World} {A : Option Addr} {n : Nat} {l : List Int} (h : RdL IntR 1 S w A n l) (h0 : ∀ x ∈ l, 0 ≤ x) : RdL NatR 1 S w A n (l.map Int.toNat) := by
  refine ⟨by rw [List.length_map]; exact h.1, fun hn => ?_⟩
  obtain ⟨b, o, hA, hS, hlt, hc⟩ := h.2 hn
  refine ⟨b, o, hA, hS, hlt, fun i x hx => ?_⟩
  rw [List.getElem?_map] at hx
  cases hl : l[i]? with
  | none => rw [hl] at hx; cases hx
  | some y =>
    rw [hl] at hx
    injection hx with hx
    obtain ⟨cs, h1, h2, h3⟩ := hc i y hl
    have hy := h0 y (List.mem_of_getElem? hl)
    refine ⟨cs, h1, ?_, h3⟩
    show cs = [.int .i64 (x : Int)]
    rw [h2, ← hx]
    congr 2
    omega
def badP (k m : Nat) (xs : List Int) (want : Int) : Prop := want < 0 ∨ want ≥ ((k + m : Nat) : Int) ∨ ¬ numOk (k + m) xs
instance (k m : Nat) (xs : List Int) (want : Int) : Decidable (badP k m xs want) := inferInstanceAs (Decidable (_ ∨ _))
def PlanE (w : World) (k m n : Nat) (xs : List Int) (want : Int) (e : Ending) (w' : World) : Prop := Below w.heap.size w w' ∧
  ((badP k m xs want ∧ e = .returned (.tuple #[.slice none 0 0, .slice none 0 0, .int .i64 2])) ∨
   (¬ badP k m xs want ∧ n < k ∧ e = .returned (.tuple #[.slice none 0 0, .slice none 0 0, .int .i64 60])) ∨
   (¬ badP k m xs want ∧ ¬ n < k ∧ ∃ A c A2 c2, e = .returned (.tuple #[.slice A k c, .slice A2 k c2, .int .i64 0]) ∧ RdL NatR 1 (fun j => w.heap.size ≤ j) w' A k (usN k xs) ∧ RdL ByR 1 (fun j => w.heap.size ≤ j) w' A2 k (planF k (usN k xs) want.toNat)))
set_option maxRecDepth 100000 in
set_option maxHeartbeats 8000000 in
theorem dplan_any {w : World} {cb b k m n c : Nat} {A : Option Addr} {S : Nat → Prop} {xs : List Int} {want : Int} (H : CodAt w cb b k m) (R : RdL IntR 1 S w A n xs) (hn : n ≤ 1000000)
    (hI : Hid (¬ badP k m xs want → ¬ n < k → Inj k (useF k (usN k xs)))) :
    Calls Tryz.prog 12 #[.pointer (some ⟨cb, 0, none⟩), .slice A n c, .int .i64 want] w fun e w' => PlanE w k m n xs want e w' := by
  have HC := Lib.hid H
  have HR := Lib.hid R
  have hxl := R.1
  have hk1 := H.k1
  have hm1 := H.m1
  have hkm := H.km
  have q2 : (((k + m : Nat) : Int) == 0) = false := by simp; omega
  have q3 : (((k : Int) + (m : Int)) == 0) = false := by simp; omega
  have q4 : (n : Int) ≤ 1000000 := by omega
  have q5 : (k : Int) ≤ 255 := by omega
  have hN1 := cn_any H
  clear H R
  go_enter Tryz.func12, Tryz.ntmps12
  go_wp2_with fail
  refine hN1.mono ?_
  rintro e w1 ⟨rfl, hb1⟩
  have HB1 := Lib.hid hb1
  have hN2 := cn_any (HC.out.below hb1)
  clear hN1 hb1
  by_cases h1 : want < 0
  · have hbad : badP k m xs want := .inl h1
    have HBAD := Lib.hid hbad
    clear hbad hN2
    go_wp2_with fail
    go_ret3
    exact ⟨HB1.out, .inl ⟨HBAD.out, rfl⟩⟩
  · by_cases h2 : want ≥ ((k + m : Nat) : Int)
    · have hbad : badP k m xs want := .inr (.inl h2)
      have HBAD := Lib.hid hbad
      have h2' : want ≥ (k : Int) + (m : Int) := by omega
      clear hbad
      go_wp2_with (go_at_call 29; refine hN2.mono ?_; rintro e w2 ⟨rfl, hb2⟩; have HB2 := Lib.hid (HB1.out.trans (hb2.mono HB1.out.size)); clear hN2 hb2)
      go_ret3
      exact ⟨HB2.out, .inl ⟨HBAD.out, rfl⟩⟩
    · have h2' : ¬ want ≥ (k : Int) + (m : Int) := by omega
      go_wp2_with fail
      refine hN2.mono ?_
      rintro e w2 ⟨rfl, hb2⟩
      have HB2 := Lib.hid (HB1.out.trans (hb2.mono HB1.out.size))
      have hnu := numbers_any (c := c) (HC.out.below HB2.out) (HR.out.below IntR.stable HB2.out) hn
      clear hN2 hb2
      by_cases h3 : numOk (k + m) xs
      · rw [decide_eq_true h3] at hnu
        have hgood : ¬ badP k m xs want := fun h => h.elim (fun h => by omega) fun h => h.elim (fun h => by omega) fun h => h h3
        have HG := Lib.hid hgood
        have H3 := Lib.hid h3
        clear hgood h3
        go_wp2_with fail
        refine hnu.mono ?_
        rintro e w3 ⟨rfl, hb3⟩
        have HB3 := Lib.hid (HB2.out.trans (hb3.mono HB2.out.size))
        have hK := ck_any (HC.out.below HB3.out)
        clear hnu hb3
        by_cases h4 : n < k
        · have p4 : (n : Int) < (k : Int) := by omega
          go_wp2_with (go_at_call 31; refine hK.mono ?_; rintro e w9 ⟨rfl, hw9⟩; rw [hw9]; clear hw9 hK)
          go_ret3
          exact ⟨HB3.out, .inr (.inl ⟨HG.out, h4, rfl⟩)⟩
        · have p4 : ¬ (n : Int) < (k : Int) := by omega
          have hinj := hI.out HG.out h4
          have hbx := BoxAt.new w3 #[.slice A n c] 22
          have hba : Below w3.heap.size w3 (w3.alloc (.cells #[.slice A n c] 22)) := (Below.refl _ _).alloc (Nat.le_refl _) _
          obtain ⟨w4, hw4⟩ : ∃ w4, w3.alloc (.cells #[.slice A n c] 22) = w4 := ⟨_, rfl⟩
          have hva := values_any (w := w3) (A := A) (n := n) (c := c)
          rw [hw4] at hbx hba hva
          have HB4 := Lib.hid (HB3.out.trans (hba.mono HB3.out.size))
          have hso := sortedI_any (HR.out.below IntR.stable HB4.out) hn hbx
          have hs34 := HB3.out.size
          have HBA := Lib.hid hba
          have HIN := Lib.hid hinj
          clear hbx hba hw4 hinj
          go_wp2_with (first
            | (go_at_call 31; refine hK.mono ?_; rintro e w9 ⟨rfl, hw9⟩; rw [hw9]; clear hw9 hK)
            | (go_at_call 33; refine hva.mono ?_; rintro e w9 ⟨rfl, hw9⟩; rw [hw9]; clear hw9 hva))
          refine hso.mono ?_
          rintro e w5 ⟨A5, c5, rfl, hc5, hr5, hb5⟩
          have HB5 := Lib.hid (HB4.out.trans (hb5.mono HB4.out.size))
          have hs4 := HB4.out.size
          have hK5 := ck_any (HC.out.below HB5.out)
          have hp := fun w => piece_pre sl_intI (A := A5) (N := n) (c := c5) (k := k) (by omega) w
          have hru : RdL NatR 1 (fun j => w.heap.size ≤ j) w5 A5 k (usN k xs) := nat_of_int (RdL.take (hr5.weaken IntR.stable (S' := fun j => w.heap.size ≤ j) (fun j hj => Nat.le_trans hs4 hj)) (by omega)) (fun x hx => (H3.out.1 x ((srt_perm xs).mem_iff.1 (List.mem_of_mem_take hx))).1)
          have hww : want = ((want.toNat : Nat) : Int) := by omega
          have hpl := plan_any (c := c5) (HC.out.below HB5.out) hru (usN_ok H3.out) HIN.out (want := want.toNat) (by omega)
          rw [← hww] at hpl
          have HRU := Lib.hid hru
          have hs5 := HB5.out.size
          clear hso hr5 hb5 hru hww
          go_wp2_with (first
            | (go_at_call 31; refine hK5.mono ?_; rintro e w9 ⟨rfl, hw9⟩; rw [hw9]; clear hw9 hK5)
            | (go_at_call 34; refine hpl.mono ?_; rintro e w6 ⟨A6, c6, rfl, hc6, hr6, hb6⟩; have HR6 := Lib.hid (hr6.weaken ByR.stable (S' := fun j => w.heap.size ≤ j) (fun j hj => Nat.le_trans hs5 hj)); have HRU6 := Lib.hid (HRU.out.below NatR.stable hb6); have HB6 := Lib.hid (HB5.out.trans (hb6.mono HB5.out.size)); clear hpl hr6 hb6))
          go_ret3
          exact ⟨HB6.out, .inr (.inr ⟨HG.out, h4, A5, c5, A6, c6, rfl, HRU6.out, HR6.out⟩)⟩
      · rw [decide_eq_false h3] at hnu
        have hbad : badP k m xs want := .inr (.inr h3)
        have HBAD := Lib.hid hbad
        clear hbad h3
        go_wp2_with fail
        refine hnu.mono ?_
        rintro e w3 ⟨rfl, hb3⟩
        have HB3 := Lib.hid (HB2.out.trans (hb3.mono HB2.out.size))
        clear hnu hb3
        go_wp2_with fail
        go_ret3
        exact ⟨HB3.out, .inl ⟨HBAD.out, rfl⟩⟩
end Go.Proofs.YthhljmlpjnkfgaaGreat

set_option linter.unusedSimpArgs false
set_option linter.unusedVariables false
namespace Go.Proofs.YthhljmlpjnkfgaaGreat
open Go.RowKit Go.Cib
attribute [local go_sem] cell_set Later.cell Later.frozen Grw.cell Grw.frozen

theorem fr_append (a : Nat) : ∀ (l l' : List (Nat × Nat)), fr a (l ++ l') = fr a l ^^^ fr a l'
  | [], l' => (Nat.zero_xor _).symm
  | (b, x) :: l, l' => by
    show gm x (inv (a ^^^ b)) ^^^ fr a (l ++ l') = (gm x (inv (a ^^^ b)) ^^^ fr a l) ^^^ fr a l'
    rw [fr_append a l l', Nat.xor_assoc]
theorem fr_range (a : Nat) (x : Nat → Nat) : ∀ n, fr a ((List.range n).map fun b => (b, x b)) = sumx (fun l => gm (x l) (inv (a ^^^ l))) n
  | 0 => rfl
  | n + 1 => by
    rw [List.range_succ, List.map_append, fr_append, fr_range a x n]
    show _ ^^^ (gm (x n) (inv (a ^^^ n)) ^^^ 0) = _
    rw [Nat.xor_zero]; rfl
theorem fr_filter (a : Nat) (x : Nat → Nat) (p : Nat → Bool) : ∀ l : List Nat, (∀ b ∈ l, p b = false → x b = 0) → fr a ((l.filter p).map fun b => (b, x b)) = fr a (l.map fun b => (b, x b))
  | [], _ => rfl
  | b :: l, h => by
    have ih := fr_filter a x p l fun c hc => h c (List.mem_cons_of_mem _ hc)
    cases hp : p b with
    | true => 
      rw [List.filter_cons_of_pos hp]
      show _ ^^^ fr a ((l.filter p).map _) = _ ^^^ fr a (l.map _)
      rw [ih]
    | false =>
      rw [List.filter_cons_of_neg (by rw [hp]; decide), ih]
      show _ = gm (x b) _ ^^^ fr a (l.map _)
      rw [h b (List.mem_cons_self ..) hp, zero_gm, Nat.zero_xor]
theorem inj_use {k m : Nat} {us : List Nat} (hl : us.length = k) (hnd : us.Nodup) (hlt : ∀ u ∈ us, u < k + m) (hkm : k + m ≤ 255) : Inj k (useF k us) := by
  intro x hx hx0 hz
  have hzu : ∀ u ∈ us, sumx (fun l => gm (fac k u l) (x l)) k = 0 := fun u hu => by
    obtain ⟨i, hi, rfl⟩ := List.mem_iff_getElem.1 hu
    have h := hz i (by omega)
    have hr : ra (useF k us) i = rowF k us[i] := ra_some (by unfold useF; rw [List.getElem?_map, List.getElem?_eq_getElem hi]; rfl)
    rw [hr] at h
    rw [← h]
    exact sumx_cong fun l hl => by rw [rowF_gt hl]
  have hdata : ∀ u ∈ us, u < k → x u = 0 := fun u hu huk => by
    have h := hzu u hu
    rw [sumx_one (j := u) huk fun i _ hne => by unfold fac; rw [if_pos huk, if_neg (fun e => hne e.symm), zero_gm]] at h
    unfold fac at h
    rw [if_pos huk, if_pos rfl, gm_one (hx u)] at h
    exact h
  have hrest : ∀ p ∈ ((List.range k).filter fun b => decide (b ∉ us)).map (fun b => (b, x b)), p.2 = 0 := by
    refine cauchy _ (us.filter fun u => decide (k ≤ u)) ?_ (hnd.filter _) ?_ (fun a ha => ?_) (fun p hp => ?_) (fun a ha p hp => ?_) (fun a ha => ?_)
    · rw [List.length_map]
      have h1 := List.length_eq_countP_add_countP (fun u => decide (k ≤ u)) (l := us)
      have h2 := List.length_eq_countP_add_countP (fun b => decide (b ∉ us)) (l := List.range k)
      have h3 : ((List.range k).filter fun b => decide (b ∈ us)).Perm (us.filter fun u => decide (u < k)) := by
        rw [List.perm_ext_iff_of_nodup (List.nodup_range.filter _) (hnd.filter _)]
        intro a
        simp only [List.mem_filter, List.mem_range, decide_eq_true_eq]
        exact ⟨fun h => ⟨h.2, h.1⟩, fun h => ⟨h.2, h.1⟩⟩
      have h4 := h3.length_eq
      rw [← List.countP_eq_length_filter, ← List.countP_eq_length_filter] at h4
      rw [← List.countP_eq_length_filter, ← List.countP_eq_length_filter]
      rw [List.length_range] at h2
      have h5 : (List.range k).countP (fun a => decide ¬(decide (a ∉ us) = true)) = (List.range k).countP (fun b => decide (b ∈ us)) := by
        congr 1; funext a; simp
      have h6 : us.countP (fun a => decide ¬(decide (k ≤ a) = true)) = us.countP (fun u => decide (u < k)) := by
        congr 1; funext a; simp
      omega
    · rw [List.map_map]
      show (List.map (fun b => b) _).Nodup
      rw [List.map_id']
      exact List.nodup_range.filter _
    · have := hlt a (List.mem_filter.1 ha).1
      omega
    · obtain ⟨b, hb, rfl⟩ := List.mem_map.1 hp
      have := List.mem_range.1 (List.mem_filter.1 hb).1
      exact ⟨by show b < 256; omega, hx b⟩
    · obtain ⟨b, hb, rfl⟩ := List.mem_map.1 hp
      have h1 := List.mem_range.1 (List.mem_filter.1 hb).1
      have h2 : k ≤ a := by simpa using (List.mem_filter.1 ha).2
      show a ≠ b
      omega
    · have hau := (List.mem_filter.1 ha).1
      have h2 : k ≤ a := by simpa using (List.mem_filter.1 ha).2
      rw [fr_filter a x _ _ (fun b hb h => hdata b (by simpa using h) (List.mem_range.1 hb)), fr_range]
      rw [← hzu a hau]
      refine sumx_cong fun l hl => ?_
      unfold fac
      rw [if_neg (by omega), dv_one, gm_comm]
  intro l
  by_cases hlk : l < k
  · by_cases hm : l ∈ us
    · exact hdata l hm hlk
    · exact hrest (l, x l) (List.mem_map.2 ⟨l, List.mem_filter.2 ⟨List.mem_range.2 hlk, by simpa using hm⟩, rfl⟩)
  · exact hx0 l (by omega)
theorem inj_usN {k m : Nat} {xs : List Int} (h : numOk (k + m) xs) (hk : k ≤ xs.length) (hkm : k + m ≤ 255) : Inj k (useF k (usN k xs)) := by
  refine inj_use (usN_len hk) ?_ (usN_ok h) hkm
  unfold usN
  refine List.Pairwise.map _ (fun x y (hxy : x ≠ y ∧ 0 ≤ x ∧ 0 ≤ y) e => hxy.1 (by omega)) ?_
  have h1 : ((srtF xs).take k).Nodup := (List.take_sublist _ _).nodup ((srt_perm xs).nodup_iff.2 h.2)
  refine List.Pairwise.imp_of_mem ?_ h1
  intro a b ha hb hab
  have hm : ∀ y ∈ (srtF xs).take k, 0 ≤ y := fun y hy => (h.1 y ((srt_perm xs).mem_iff.1 (List.mem_of_mem_take hy))).1
  exact ⟨hab, hm a ha, hm b hb⟩
theorem inj_useT {k m N : Nat} {ss : Rws} (hb : thBad k m N ss = false) (hf : ¬ (thU ss N).length < k) (hk : 1 ≤ k) (hkm : k + m ≤ 255) : Inj k (useF k (useT k N ss)) := by
  obtain ⟨h1, h2, h3⟩ := use_ok hb hf hk
  refine inj_use h2 ?_ (fun u hu => by have := (h3 u hu).1; omega) hkm
  unfold useT thU
  exact (List.take_sublist _ _).nodup (List.nodup_range.filter _)
end Go.Proofs.YthhljmlpjnkfgaaGreat

set_option linter.unusedSimpArgs false
set_option linter.unusedVariables false
namespace Go.Proofs.YthhljmlpjnkfgaaGreat
open Go.RowKit Go.Cib
attribute [local go_sem] cell_set Later.cell Later.frozen Grw.cell Grw.frozen

def evB (ss : Rws) : Bool := ss.all fun r => decide (r.length = (ra ss 0).length)
set_option maxRecDepth 100000 in
set_option maxHeartbeats 4000000 in
theorem even_any {w : World} {A : Option Addr} {N c : Nat} {S : Nat → Prop} {ss : Rws} (R : RdL RowR 1 S w A N ss) (hN : N ≤ 1000) :
    Calls Tryz.prog 67 #[.slice A N c] w fun e w' => e = .returned (.bool (evB ss)) ∧ w' = w := by
  have HR := Lib.hid R
  have hl := R.1
  have q0 : (N : Int) ≤ 1000 := by omega
  clear R
  go_enter Tryz.func67, Tryz.ntmps67
  go_wp2_with fail
  go_loopw [7] (fun vi wr => ∃ i : Nat, i ≤ N ∧ vi = .int .i64 i ∧ wr = w ∧ Hid (∀ j, j < i → (ra ss j).length = (ra ss 0).length)) (fun vi _ => N - (intOf vi).toNat)
  case atStart => exact ⟨0, Nat.zero_le _, rfl, rfl, Lib.hid fun j hj => absurd hj (Nat.not_lt_zero _)⟩
  case round =>
    obtain ⟨i, hi, rfl, hwr, HX⟩ := hrel
    rw [hwr]
    clear hwr
    have p0 : (0 : Int) ≤ (i : Int) := Int.natCast_nonneg _
    by_cases hlt : i < N
    · have p1 : (i : Int) < (N : Int) := by omega
      have p2 : (0 : Int) < (N : Int) := by omega
      obtain ⟨b, o, rfl, _, hb⟩ := HR.out.addr hlt
      obtain ⟨A1, m1, c1, v1, _, r1⟩ := row_at HR.out hlt
      obtain ⟨A0, m0, c0, v0, _, r0⟩ := row_at HR.out (k := 0) (by omega)
      rw [Nat.add_zero] at v0
      have e1 := r1.1
      have e0 := r0.1
      clear r1 r0
      by_cases h : m1 = m0
      · have e2 : ((m1 : Int) != (m0 : Int)) = false := by rw [h]; simp
        have HX2 : Hid (∀ j, j < i + 1 → (ra ss j).length = (ra ss 0).length) := Lib.hid fun j hj => by
          by_cases hji : j = i
          · rw [hji, e1, e0, h]
          · exact HX.out j (by omega)
        clear h e1 e0
        go_wp2_with fail
        exact ⟨⟨i + 1, by omega, by go_num, trivial, HX2⟩, by simp [intOf]; omega⟩
      · have e2 : ((m1 : Int) != (m0 : Int)) = true := by simp; omega
        have hE : evB ss = false := by
          unfold evB
          rw [List.all_eq_false]
          exact ⟨ra ss i, ra_mem (by omega), by simp; omega⟩
        have HE := Lib.hid hE
        clear hE h e1 e0
        go_wp2_with fail
        go_ret
        exact ⟨by rw [HE.out]; rfl, rfl⟩
    · have p1 : ¬ (i : Int) < (N : Int) := by omega
      have hE : evB ss = true := by
        unfold evB
        rw [List.all_eq_true]
        intro r hr
        obtain ⟨j, hj, rfl⟩ := List.mem_iff_getElem.1 hr
        have := HX.out j (by omega)
        rw [ra_some (List.getElem?_eq_getElem hj)] at this
        simpa using this
      have HE := Lib.hid hE
      clear hE
      go_wp2_with fail
      go_ret
      exact ⟨by rw [HE.out]; rfl, rfl⟩
theorem right2_any {w : World} {cb b k m N c : Nat} {A : Option Addr} {S : Nat → Prop} {ss : Rws} (H : CodAt w cb b k m) (R : RdL RowR 1 S w A N ss) (hN : N ≤ 1000) :
    Calls Tryz.prog 44 #[.pointer (some ⟨cb, 0, none⟩), .slice A N c] w fun e w' => e = .returned (.bool (decide (N = k) && evB ss)) ∧ w' = w := by
  obtain ⟨A1, c1, h1, _⟩ := H.box
  have k0 := h1.cell 0
  have hE := even_any (c := c) R hN
  clear h1 H
  go_enter Tryz.func44, Tryz.ntmps44
  by_cases h : N = k
  · have e1 : ((N : Int) == (k : Int)) = true := by rw [h]; simp
    have e2 : (decide (N = k) && evB ss) = evB ss := by rw [decide_eq_true h, Bool.true_and]
    rw [e2]
    clear h e2
    go_wp2_with (go_at_call 67; refine hE.mono ?_; rintro e w9 ⟨rfl, hw9⟩; rw [hw9]; clear hw9)
    go_ret
    exact ⟨rfl, rfl⟩
  · have e1 : ((N : Int) == (k : Int)) = false := by simp; omega
    have e2 : (decide (N = k) && evB ss) = false := by rw [decide_eq_false h, Bool.false_and]
    rw [e2]
    clear h e2 hE
    go_wp2_with fail
    go_ret
    exact ⟨rfl, rfl⟩
theorem of_any {w : World} {A : Option Addr} {n c j : Nat} {S : Nat → Prop} {l : List Nat} (R : RdL ByR 1 S w A n l) (hj : j < n) :
    Calls Tryz.prog 66 #[.slice A n c, .int .i64 (j : Int)] w fun e w' => e = .returned (.int .u8 (gt l j : Int)) ∧ w' = w := by
  obtain ⟨b, o, rfl, _, _⟩ := R.addr hj
  obtain ⟨v1, _⟩ := by_at R hj
  have q1 : (j : Int) < (n : Int) := by omega
  have q2 : (0 : Int) ≤ (j : Int) := Int.natCast_nonneg _
  clear R
  go_enter Tryz.func66, Tryz.ntmps66
  go_wp2_with fail
  go_ret
  exact ⟨rfl, rfl⟩
set_option maxRecDepth 100000 in
set_option maxHeartbeats 4000000 in
theorem sum_any {w : World} {cb b k m n cs cl : Nat} {As Al : Option Addr} {S1 S2 : Nat → Prop} {ss : Rws} {l : List Nat} (H : CodAt w cb b k m) (R1 : RdL RowR 1 S1 w As k ss) (R2 : RdL ByR 1 S2 w Al k l)
    (hev : ∀ r ∈ ss, r.length = n) (hn : n ≤ 1000000) :
    Calls Tryz.prog 65 #[.pointer (some ⟨cb, 0, none⟩), .slice As k cs, .func (.func 66) #[.slice Al k cl] #[]] w fun e w' => ∃ A' c', e = .returned (.slice A' n c') ∧ n ≤ c' ∧ RdL ByR 1 (fun j => w.heap.size ≤ j) w' A' n (combF l ss (List.replicate n 0)) ∧ Below w.heap.size w w' := by
  have HC := Lib.hid H
  have H1 := Lib.hid R1
  have H2 := Lib.hid R2
  have hk1 := H.k1
  have hkm := H.km
  have hsl := R1.1
  have hll := R2.1
  have q0 : (k : Int) ≤ 255 := by omega
  have q1 : (0 : Int) < (k : Int) := by omega
  have hrow : ∀ u, u < k → ∃ bb o, As = some ⟨bb, o, none⟩ ∧ bb < w.heap.size ∧ ∃ A c, w.cell? ⟨bb, o + u, none⟩ = some (.slice A n c) ∧ n ≤ c ∧ RdL ByR 1 S1 w A n (ra ss u) := fun u hu => by
    obtain ⟨bb, o, rfl, _, hb⟩ := R1.addr hu
    obtain ⟨A, mm, c, v, hc, hr⟩ := row_at R1 hu
    have hmm : mm = n := by rw [← hr.1]; exact hev _ (ra_mem (by omega))
    subst hmm
    exact ⟨bb, o, rfl, hb, A, c, v, hc, hr⟩
  have HROW := Lib.hid hrow
  obtain ⟨bs, os, rfl, hbs, Ar, cr, v0, hcr, hr0⟩ := hrow 0 (by omega)
  rw [Nat.add_zero] at v0
  have q4 : (n : Int) ≤ 1000000 := by omega
  have q5 : (0 : Int) ≤ (n : Int) := Int.natCast_nonneg _
  have hmk := makeBy n (by omega) w
  have hz := RowIn.made w n 5
  have hbz : Below w.heap.size w (w.alloc (.cells (Array.replicate n (.int .u8 0)) 5)) := (Below.refl _ _).alloc (Nat.le_refl _) _
  have hzr := hz.rd (S := fun j => w.heap.size ≤ j) (Nat.le_refl _)
  rw [List.length_replicate] at hzr
  obtain ⟨wA, hwA⟩ : ∃ wA, w.alloc (.cells (Array.replicate n (.int .u8 0)) 5) = wA := ⟨_, rfl⟩
  rw [hwA] at hmk hbz hzr
  have HZ := Lib.hid hzr
  have HBZ := Lib.hid hbz
  clear H R1 R2 hrow hz hbz hzr hwA hr0
  go_enter Tryz.func65, Tryz.ntmps65
  go_wp2_with fail
  clear hmk
  go_loopw [7, 17] (fun vs vi wr => ∃ (i : Nat) (A : Option Addr) (c : Nat), i ≤ k ∧ vi = .int .i64 i ∧ vs = .slice A n c ∧ n ≤ c ∧ Hid (RdL ByR 1 (fun j => w.heap.size ≤ j) wr A n (combF (l.take i) (ss.take i) (List.replicate n 0))) ∧ Hid (Below w.heap.size w wr)) (fun _ vi _ => k - (intOf vi).toNat)
  case atStart => exact ⟨0, _, n, Nat.zero_le _, rfl, rfl, Nat.le_refl _, by rw [List.take_zero, List.take_zero]; exact HZ, HBZ⟩
  case round =>
    clear HZ HBZ v0
    obtain ⟨i, A, c, hi, rfl, rfl, hc, HR, HB⟩ := hrel
    have p0 : (0 : Int) ≤ (i : Int) := Int.natCast_nonneg _
    by_cases hlt : i < k
    · have p1 : (i : Int) < (k : Int) := by omega
      obtain ⟨b2, o2, e2, _, A1, c1, v1, hc1, hr1⟩ := HROW.out i hlt
      injection e2 with e2
      injection e2 with e2 e3
      subst e2; subst e3
      have hbd : Below w.heap.size w wr.drew := HB.out.drew
      have v1' := (HB.out.cell (p := ⟨bs, os + i, none⟩) hbs).trans v1
      have hC := HC.out.below hbd
      obtain ⟨A9, c9, hbx, _⟩ := hC.box
      have s1 : wr.drew.cell? ⟨cb, 2, none⟩ = some (.pointer (some ⟨b, 0, none⟩)) := hbx.cell 2
      have hcl := hbx.lt
      have x1 : gt l i < 256 := gt_lt (by_byt H2.out) i
      have hof := of_any (w := wr.drew) (c := cl) (H2.out.below ByR.stable hbd) hlt
      have hfo := fold_any (w := wr.drew) (cp := c1) (cp2 := c) hC.fld x1 (hr1.below ByR.stable hbd) hn hc1 (HR.out.below ByR.stable (Below.refl _ _).drew) hn
      rw [← combF_take (by omega) (by omega)] at hfo
      clear hr1 hC hbx v1
      go_wp2_with fail
      refine wp_region_held_drew (S := fun w' => w'.cell? ⟨cb, 2, none⟩ = some (.pointer (some ⟨b, 0, none⟩))) (by kernel_rfl) (by first | exact s1 | exact s2) (fun hHeld => ?_)
      refine wpAnyH_take (i := 0) (v := ?_) rfl (by kernel_rfl) (by kernel_rfl) (by kernel_rfl) (fun _ _ _ h => h) (Or.inl ⟨by first | kernel_rfl | rfl, ?_⟩) (by assumption) ?_
      rotate_left
      · (intro wq hSw; (try dsimp only at hSw); (try simp (maxSteps := 2000000) only [List.getElem_toArray, List.getElem_cons_succ, List.getElem_cons_zero]); go_simp); try with_reducible rfl
      try simp (maxSteps := 2000000) only [List.getElem_toArray, List.getElem_cons_succ, List.getElem_cons_zero, Act.put, List.setIfInBounds_toArray, List.set_cons_zero, List.set_cons_succ]
      refine wpAnyH_take (i := 1) (v := ?_) rfl (by kernel_rfl) (by kernel_rfl) (by kernel_rfl) (fun _ _ _ h => h) (Or.inl ⟨by first | kernel_rfl | rfl, ?_⟩) (by assumption) ?_
      rotate_left
      · (intro wq hSw; (try dsimp only at hSw); (try simp (maxSteps := 2000000) only [List.getElem_toArray, List.getElem_cons_succ, List.getElem_cons_zero]); go_simp); try with_reducible rfl
      try simp (maxSteps := 2000000) only [List.getElem_toArray, List.getElem_cons_succ, List.getElem_cons_zero, Act.put, List.setIfInBounds_toArray, List.set_cons_zero, List.set_cons_succ]
      refine wpAnyH_take (i := 2) (v := ?_) rfl (by kernel_rfl) (by kernel_rfl) (by kernel_rfl) (fun _ _ _ h => h) (Or.inl ⟨by first | kernel_rfl | rfl, ?_⟩) (by assumption) ?_
      rotate_left
      · (intro wq hSw; (try dsimp only at hSw); (try simp (maxSteps := 2000000) only [List.getElem_toArray, List.getElem_cons_succ, List.getElem_cons_zero]); go_simp); try with_reducible rfl
      try simp (maxSteps := 2000000) only [List.getElem_toArray, List.getElem_cons_succ, List.getElem_cons_zero, Act.put, List.setIfInBounds_toArray, List.set_cons_zero, List.set_cons_succ]
      refine wpAnyH_take (i := 3) (v := ?_) rfl (by kernel_rfl) (by kernel_rfl) (by kernel_rfl) (fun _ _ _ h => h) (Or.inl ⟨by first | kernel_rfl | rfl, ?_⟩) (by assumption) ?_
      rotate_left
      · (intro wq hSw; (try dsimp only at hSw); (try simp (maxSteps := 2000000) only [List.getElem_toArray, List.getElem_cons_succ, List.getElem_cons_zero]); go_simp); try with_reducible rfl
      try simp (maxSteps := 2000000) only [List.getElem_toArray, List.getElem_cons_succ, List.getElem_cons_zero, Act.put, List.setIfInBounds_toArray, List.set_cons_zero, List.set_cons_succ]
      refine wpAnyH_take (i := 4) (v := ?_) rfl (by kernel_rfl) (by kernel_rfl) (by kernel_rfl) (fun _ _ _ h => h) (Or.inl ⟨by first | kernel_rfl | rfl, ?_⟩) (by assumption) ?_
      rotate_left
      · (intro wq hSw; (try dsimp only at hSw); (try simp (maxSteps := 2000000) only [List.getElem_toArray, List.getElem_cons_succ, List.getElem_cons_zero]); go_simp); try with_reducible rfl
      try simp (maxSteps := 2000000) only [List.getElem_toArray, List.getElem_cons_succ, List.getElem_cons_zero, Act.put, List.setIfInBounds_toArray, List.set_cons_zero, List.set_cons_succ]
      refine wpAnyH_take (i := 5) (v := ?_) rfl (by kernel_rfl) (by kernel_rfl) (by kernel_rfl) (fun _ _ _ h => h) (Or.inl ⟨by first | kernel_rfl | rfl, ?_⟩) (by assumption) ?_
      rotate_left
      · (intro wq hSw; (try dsimp only at hSw); (try simp (maxSteps := 2000000) only [List.getElem_toArray, List.getElem_cons_succ, List.getElem_cons_zero]); go_simp); try with_reducible rfl
      try simp (maxSteps := 2000000) only [List.getElem_toArray, List.getElem_cons_succ, List.getElem_cons_zero, Act.put, List.setIfInBounds_toArray, List.set_cons_zero, List.set_cons_succ]
      refine wpAnyH_take (i := 7) (v := ?_) rfl (by kernel_rfl) (by kernel_rfl) (by kernel_rfl) (fun _ _ _ h => h) (Or.inl ⟨by first | kernel_rfl | rfl, ?_⟩) (by assumption) ?_
      rotate_left
      · (intro wq hSw; (try dsimp only at hSw); (try simp (maxSteps := 2000000) only [List.getElem_toArray, List.getElem_cons_succ, List.getElem_cons_zero]); go_simp); try with_reducible rfl
      try simp (maxSteps := 2000000) only [List.getElem_toArray, List.getElem_cons_succ, List.getElem_cons_zero, Act.put, List.setIfInBounds_toArray, List.set_cons_zero, List.set_cons_succ]
      refine wpAnyH_take (i := 8) (v := ?_) rfl (by kernel_rfl) (by kernel_rfl) (by kernel_rfl) (fun _ _ _ h => h) (Or.inl ⟨by first | kernel_rfl | rfl, ?_⟩) (by assumption) ?_
      rotate_left
      · (intro wq hSw; (try dsimp only at hSw); (try simp (maxSteps := 2000000) only [List.getElem_toArray, List.getElem_cons_succ, List.getElem_cons_zero]); go_simp); try with_reducible rfl
      try simp (maxSteps := 2000000) only [List.getElem_toArray, List.getElem_cons_succ, List.getElem_cons_zero, Act.put, List.setIfInBounds_toArray, List.set_cons_zero, List.set_cons_succ]
      refine wpAnyH_ready (rs := [6]) (by kernel_rfl) (by simp) ?_
      refine AllReadyH.cons rfl (fun K hK => ?_) AllReadyH.nil
      try simp (maxSteps := 2000000) only [List.getElem_toArray, List.getElem_cons_succ, List.getElem_cons_zero]
      go_simp
      go_at_call 66
      refine hof.mono ?_
      rintro e w9 ⟨rfl, hw9⟩
      rw [hw9]
      clear hw9 hof
      try (go_wp2_with fail)
      refine hK.out _ _ (by first | exact s1 | exact s2) (fun hHeld => ?_)
      clear hK K
      try simp (maxSteps := 2000000) only [List.getElem_toArray, List.getElem_cons_succ, List.getElem_cons_zero, Act.put, List.setIfInBounds_toArray, List.set_cons_zero, List.set_cons_succ]
      refine wpAnyH_ready (rs := [9]) (by kernel_rfl) (by simp) ?_
      refine AllReadyH.cons rfl (fun K hK => ?_) AllReadyH.nil
      try simp (maxSteps := 2000000) only [List.getElem_toArray, List.getElem_cons_succ, List.getElem_cons_zero]
      go_simp
      go_at_call 77
      refine hfo.mono ?_
      rintro e w6 ⟨AN, cN, rfl, hcN, hrs, hb6⟩
      have hs9 := HB.out.size
      have s2 : w6.cell? ⟨cb, 2, none⟩ = some (.pointer (some ⟨b, 0, none⟩)) := (hb6.cell (p := ⟨cb, 2, none⟩) hcl).trans s1
      have HRS := Lib.hid (hrs.weaken ByR.stable (S' := fun j => w.heap.size ≤ j) (fun j hj => Nat.le_trans hs9 hj))
      have HB6 := Lib.hid (hbd.trans (hb6.mono hs9))
      clear hrs hb6 hfo
      try (go_wp2_with fail)
      refine hK.out _ _ (by first | exact s1 | exact s2) (fun hHeld => ?_)
      clear hK K
      try simp (maxSteps := 2000000) only [List.getElem_toArray, List.getElem_cons_succ, List.getElem_cons_zero, Act.put, List.setIfInBounds_toArray, List.set_cons_zero, List.set_cons_succ]
      refine wpAnyH_take (i := 10) (v := ?_) rfl (by kernel_rfl) (by kernel_rfl) (by kernel_rfl) (fun _ _ _ h => h) (Or.inl ⟨by first | kernel_rfl | rfl, ?_⟩) (by assumption) ?_
      rotate_left
      · (intro wq hSw; (try dsimp only at hSw); (try simp (maxSteps := 2000000) only [List.getElem_toArray, List.getElem_cons_succ, List.getElem_cons_zero]); go_simp); try with_reducible rfl
      try simp (maxSteps := 2000000) only [List.getElem_toArray, List.getElem_cons_succ, List.getElem_cons_zero, Act.put, List.setIfInBounds_toArray, List.set_cons_zero, List.set_cons_succ]
      refine wpAnyH_done (by kernel_rfl) ?_ _
      clear s1 s2 hHeld v1'
      go_wp2_with fail
      exact ⟨⟨i + 1, AN, cN, by omega, by go_num, rfl, hcN, HRS, HB6⟩, by simp [intOf]; omega⟩
    · have p1 : ¬ (i : Int) < (k : Int) := by omega
      obtain rfl : i = k := by omega
      rw [List.take_of_length_le (by omega), List.take_of_length_le (by omega)] at HR
      go_wp2_with fail
      go_ret
      exact ⟨A, c, rfl, hc, HR.out, HB.out⟩
end Go.Proofs.YthhljmlpjnkfgaaGreat

set_option linter.unusedSimpArgs false
set_option linter.unusedVariables false
namespace Go.Proofs.YthhljmlpjnkfgaaGreat
open Go.RowKit Go.Cib
attribute [local go_sem] cell_set Later.cell Later.frozen Grw.cell Grw.frozen

def encU (k : Nat) (ss : Rws) (n i : Nat) : Rws := (List.range i).map fun j => combF (rowF k (k + j)) ss (List.replicate n 0)
theorem encU_next (k : Nat) (ss : Rws) (n i : Nat) : encU k ss n (i + 1) = encU k ss n i ++ [combF (rowF k (k + i)) ss (List.replicate n 0)] := by unfold encU; rw [List.range_succ, List.map_append]; rfl
def lenF0 (ss : Rws) : Nat := (ra ss 0).length
def goodB (k N : Nat) (ss : Rws) : Bool := decide (N = k) && evB ss
def EncE (w : World) (k m N : Nat) (ss : Rws) (e : Ending) (w' : World) : Prop := Below w.heap.size w w' ∧
  ((goodB k N ss = false ∧ e = .returned (.tuple #[.slice none 0 0, .int .i64 2])) ∨
   (goodB k N ss = true ∧ ∃ A c, e = .returned (.tuple #[.slice A m c, .int .i64 0]) ∧ RdL RowR 1 (fun j => w.heap.size ≤ j) w' A m (encU k ss (lenF0 ss) m)))
theorem evB_all {ss : Rws} (h : evB ss = true) : ∀ r ∈ ss, r.length = (ra ss 0).length := fun r hr => by
  unfold evB at h
  rw [List.all_eq_true] at h
  simpa using h r hr
set_option maxRecDepth 100000 in
set_option maxHeartbeats 8000000 in
theorem encode_any {w : World} {cb b k m N cs : Nat} {As : Option Addr} {S : Nat → Prop} {ss : Rws} (H : CodAt w cb b k m) (R : RdL RowR 1 S w As N ss) (hN : N ≤ 1000) (hlen : (ra ss 0).length ≤ 1000000) :
    Calls Tryz.prog 41 #[.pointer (some ⟨cb, 0, none⟩), .slice As N cs] w fun e w' => EncE w k m N ss e w' := by
  have HC := Lib.hid H
  have HR := Lib.hid R
  have hk1 := H.k1
  have hm1 := H.m1
  have hkm := H.km
  have hNo := none_any H
  have hRi := right2_any (c := cs) H R hN
  have q0 : (0 : Int) ≤ (m : Int) := Int.natCast_nonneg _
  have q1 : (m : Int) ≤ 255 := by omega
  have q2 : (k : Int) ≤ 255 := by omega
  have q3 : (0 : Int) ≤ (k : Int) := Int.natCast_nonneg _
  obtain ⟨A0, c0, hbx, _⟩ := H.box
  have k0 := hbx.cell 0
  have k1 := hbx.cell 1
  have hcl := hbx.lt
  clear H R hbx
  go_enter Tryz.func41, Tryz.ntmps41
  go_wp2_with (go_at_call 43; refine hNo.mono ?_; rintro e w9 ⟨rfl, hw9⟩; rw [hw9]; clear hw9 hNo)
  obtain ⟨B, hB⟩ : ∃ B, B = (decide (N = k) && evB ss) := ⟨_, rfl⟩
  rw [← hB] at hRi
  refine hRi.mono ?_
  rintro e w9 ⟨rfl, hw9⟩
  rw [hw9]
  clear hw9 hRi
  have HB := Lib.hid hB
  cases B with
  | false =>
    clear hB
    go_wp2_with fail
    go_ret2
    exact ⟨Below.refl _ _, .inl ⟨HB.out.symm, rfl⟩⟩
  | true =>
    have hNk : N = k ∧ evB ss = true := by
      have h := hB.symm
      rw [Bool.and_eq_true] at h
      exact ⟨by simpa using h.1, h.2⟩
    obtain ⟨hNk, hev⟩ := hNk
    subst hNk
    have hall := evB_all hev
    have HALL := Lib.hid hall
    have HGO : Hid (goodB N N ss = true) := Lib.hid (by unfold goodB; rw [decide_eq_true rfl, hev]; rfl)
    clear hB hev hall HB
    go_wp2_with (at_make; refine wpList_make0 RowR (fun j => w.heap.size ≤ j) sl_rows rfl rfl (base := w.heap.size) rfl rfl m (by omega) (by omega) (by unfold maxLen; omega) (by (first | (with_reducible exact Nat.le_refl _) | omega | (simp only [World.size_alloc, World.size_setCell, World.size_drew] <;> omega))) ?_; intro y hys hown; have c1 := (y.cell (o := 1) hcl).trans k1; have HO := Lib.hid hown; have HY := Lib.hid (show Below w.heap.size w y.to from y.ok); clear hown hys)
    go_loopw [6, 28] (fun vs vi wr => ∃ (i : Nat) (A : Option Addr) (c : Nat), i ≤ m ∧ vi = .int .i64 i ∧ vs = .slice A i c ∧ i ≤ c ∧ Hid (OwnL RowR 29 1 w.heap.size (fun j => w.heap.size ≤ j) wr (.slice A i c) i (encU N ss (lenF0 ss) i)) ∧ Hid (Below w.heap.size w wr)) (fun _ vi _ => m - (intOf vi).toNat)
    case atStart => exact ⟨0, _, _, Nat.zero_le _, rfl, rfl, Nat.zero_le _, HO, HY⟩
    case round =>
      clear HO HY c1
      obtain ⟨i, A, c, hi, rfl, rfl, hc, HO, HY⟩ := hrel
      have p0 : (0 : Int) ≤ (i : Int) := Int.natCast_nonneg _
      by_cases hlt : i < m
      · have p1 : (i : Int) < (m : Int) := by omega
        have c0' := (HY.out.cell (p := ⟨cb, 0, none⟩) hcl).trans k0
        have hrow := crow_any (HC.out.below HY.out) (i := N + i) (by omega)
        rw [Int.natCast_add] at hrow
        have hnx := encU_next N ss (lenF0 ss) i
        have HNX := Lib.hid hnx
        have hsz := HY.out.size
        clear hnx
        go_wp2_with fail
        refine hrow.mono ?_
        rintro e w2 ⟨g, rfl, hr2, hb2⟩
        have hb02 := HY.out.trans (hb2.mono hsz)
        have hsum := sum_any (cs := cs) (cl := N) (HC.out.below hb02) (HR.out.below RowR.stable hb02) hr2 HALL.out hlen
        have HO2 := Lib.hid (HO.out.keep RowR.stable hb2)
        have hs2 := hb2.size
        have HB02 := Lib.hid hb02
        clear hrow hr2 hb2 hb02
        go_wp2_with fail
        refine hsum.mono ?_
        rintro e w3 ⟨A3, c3, rfl, hc3, hr3, hb3⟩
        have HB3 := Lib.hid (HB02.out.trans (hb3.mono HB02.out.size))
        have HO3 := Lib.hid (HO2.out.keep RowR.stable hb3)
        have hy3 : RowR (Go.Cib.Rest (fun j => w.heap.size ≤ j) (.slice A i c)) w3 [.slice A3 (lenF0 ss) c3] (combF (rowF N (N + i)) ss (List.replicate (lenF0 ss) 0)) := ⟨A3, _, c3, rfl, hc3, hr3.weaken ByR.stable fun j hj => ⟨by have h9 : w2.heap.size ≤ j := hj; show _ ≤ j; omega, fun e => by have h9 : w2.heap.size ≤ j := hj; have := (HO2.out.lt _ e.symm).2; omega⟩⟩
        have hs3 := HB3.out.size
        clear hsum hr3 hb3
        go_wp2_with (at_builtin; go_must (refine wpList_push1 RowR.stable RowR.one sl_rows (by rfl) (by rfl) (base := w.heap.size) (S := fun j => w.heap.size ≤ j) (cs := #[.slice A3 (lenF0 ss) c3]) (y := combF (rowF N (N + i)) ss (List.replicate (lenF0 ss) 0)) (by rfl) (by rfl) HO3.out (by rfl) hy3 (by unfold maxLen; omega) (by omega) hs3 ?_); intro A8 c8 ug hc8 own9 hlt8 hb8 hat8; rw [← HNX.out] at own9; have HO9 := Lib.hid own9; have HB9 := Lib.hid (HB3.out.trans hb8); clear own9 hb8 hlt8 hat8)
        exact ⟨⟨i + 1, A8, c8, by omega, by go_num, rfl, hc8, HO9, HB9⟩, by simp [intOf]; omega⟩
      · have p1 : ¬ (i : Int) < (m : Int) := by omega
        obtain rfl : i = m := by omega
        go_wp2_with fail
        go_ret2
        obtain ⟨A', c', e, _, hr⟩ := HO.out.rd (S' := fun j => w.heap.size ≤ j) (fun _ hk => hk) (fun cs x hx => RowR.stable _ _ _ _ _ _ hx fun b hb _ => ⟨hb.1, rfl⟩)
        injection e with e1 _ e2
        subst e1; subst e2
        exact ⟨HY.out, .inr ⟨HGO.out, A, c, rfl, hr⟩⟩
end Go.Proofs.YthhljmlpjnkfgaaGreat
