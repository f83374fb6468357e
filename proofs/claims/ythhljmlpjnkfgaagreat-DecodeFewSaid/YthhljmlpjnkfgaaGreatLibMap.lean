/-
  Maps as lists of entries: what each operation does.
-/
import Derived.Test.YthhljmlpjnkfgaaGreatLib2
import Derived.Maps.RangeWalk
import Derived.Maps.OwnOps
set_option linter.unusedSectionVars false
set_option linter.unusedSimpArgs false
set_option linter.unusedVariables false
namespace Go.Cib
open Go.RowKit

structure KeyTy (P : Program) (K : TypeId) {κ : Type} [DecidableEq κ] (mk : κ → Value) : Prop where
  same : ∃ d, P.underlying K = some d ∧ ∀ a b, Instr.sameNow d (mk a) (mk b) = some (decide (a = b))
  check : ∀ (empty : Bool) (w : World) (a : κ), (Instr.checkKey empty 10000 K (mk a)).run P w = .ok () w
  bits : ∀ a, Instr.sameBits 10000 (mk a) (mk a) = true

theorem keyTy_int {P : Program} {K : TypeId} {q : IntKind} (h : P.underlying K = some (.int q)) : KeyTy P K (Value.int q) where
  same := ⟨_, h, fun a b => by simp only [Instr.sameNow, if_true, Option.some.injEq]; rw [Bool.eq_iff_iff]; simp⟩
  check := fun e w a => by
    have : ∀ n, (Instr.checkKey e (n + 1) K (.int q a)).run P w = .ok () w := fun n => by simp [Instr.checkKey, run_underlying h]
    exact this 9999
  bits := fun a => by simp [Instr.sameBits]

theorem bytes_beq (a b : ByteArray) : (a == b) = decide (a = b) := by
  cases a with | mk x => cases b with | mk y =>
  rw [Bool.eq_iff_iff, decide_eq_true_eq]
  show (x == y) = true ↔ _
  simp

theorem keyTy_string {P : Program} {K : TypeId} (h : P.underlying K = some .string) : KeyTy P K Value.string where
  same := ⟨_, h, fun a b => by simp only [Instr.sameNow, Option.some.injEq]; exact bytes_beq a b⟩
  check := fun e w a => by
    have : ∀ n, (Instr.checkKey e (n + 1) K (.string a)).run P w = .ok () w := fun n => by simp [Instr.checkKey, run_underlying h]
    exact this 9999
  bits := fun a => by simp [Instr.sameBits, bytes_beq]

section
variable {κ : Type} [DecidableEq κ]

def mlook : List (κ × Value) → κ → Option Value
  | [], _ => none
  | (a, v) :: r, k => if a = k then some v else mlook r k
def mput : List (κ × Value) → κ → Value → List (κ × Value)
  | [], k, v => [(k, v)]
  | (a, u) :: r, k, v => if a = k then (k, v) :: r else (a, u) :: mput r k v
def mdel : List (κ × Value) → κ → List (κ × Value)
  | [], _ => []
  | (a, u) :: r, k => if a = k then r else (a, u) :: mdel r k

theorem look_put (es : List (κ × Value)) (k j : κ) (v : Value) : mlook (mput es k v) j = if k = j then some v else mlook es j := by
  induction es with
  | nil => simp [mput, mlook]
  | cons p r ih =>
    obtain ⟨a, u⟩ := p
    by_cases h : a = k
    · subst h; by_cases hj : a = j <;> simp [mput, mlook, hj]
    · by_cases hj : a = j
      · subst hj; simp [mput, mlook, h, Ne.symm h]
      · simp [mput, mlook, h, hj, ih]

theorem look_mem {es : List (κ × Value)} {k : κ} {v : Value} (h : mlook es k = some v) : (k, v) ∈ es := by
  induction es with
  | nil => simp [mlook] at h
  | cons p r ih =>
    obtain ⟨a, u⟩ := p
    simp only [mlook] at h
    split at h
    · rename_i e; subst e; simp only [Option.some.injEq] at h; subst h; simp
    · exact List.mem_cons_of_mem _ (ih h)
theorem look_none {es : List (κ × Value)} {k : κ} : mlook es k = none ↔ ∀ p ∈ es, p.1 ≠ k := by
  induction es with
  | nil => simp [mlook]
  | cons p r ih =>
    obtain ⟨a, u⟩ := p
    by_cases h : a = k <;> simp [mlook, h, ih]
theorem look_of_mem {es : List (κ × Value)} (hn : (es.map (·.1)).Nodup) {k : κ} {v : Value} (h : (k, v) ∈ es) : mlook es k = some v := by
  induction es with
  | nil => simp at h
  | cons p r ih =>
    obtain ⟨a, u⟩ := p
    simp only [List.map_cons, List.nodup_cons] at hn
    simp only [mlook]
    rcases List.mem_cons.1 h with h | h
    · injection h with h1 h2; subst h1; subst h2; simp
    · rw [if_neg (fun e => hn.1 (by subst e; exact List.mem_map.2 ⟨_, h, rfl⟩))]
      exact ih hn.2 h
theorem put_keys (es : List (κ × Value)) (k : κ) (v : Value) : ∀ j, j ∈ (mput es k v).map (·.1) ↔ j = k ∨ j ∈ es.map (·.1) := by
  intro j
  induction es with
  | nil => simp [mput]
  | cons p r ih =>
    obtain ⟨a, u⟩ := p
    by_cases h : a = k
    · subst h; simp [mput]
    · simp only [mput, h, if_false, List.map_cons, List.mem_cons, ih]
      constructor
      · rintro (h | h | h)
        · exact .inr (.inl h)
        · exact .inl h
        · exact .inr (.inr h)
      · rintro (h | h | h)
        · exact .inr (.inl h)
        · exact .inl h
        · exact .inr (.inr h)
theorem put_nodup {es : List (κ × Value)} (hn : (es.map (·.1)).Nodup) (k : κ) (v : Value) : ((mput es k v).map (·.1)).Nodup := by
  induction es with
  | nil => simp [mput]
  | cons p r ih =>
    obtain ⟨a, u⟩ := p
    simp only [List.map_cons, List.nodup_cons] at hn
    by_cases h : a = k
    · subst h; simpa [mput] using hn
    · simp only [mput, h, if_false, List.map_cons, List.nodup_cons]
      refine ⟨fun hm => ?_, ih hn.2⟩
      rcases (put_keys r k v a).1 hm with h1 | h1
      · exact h h1
      · exact hn.1 h1
theorem del_sub (es : List (κ × Value)) (k : κ) : ∀ p ∈ mdel es k, p ∈ es := by
  induction es with
  | nil => simp [mdel]
  | cons p r ih =>
    obtain ⟨a, u⟩ := p
    intro q hq
    simp only [mdel] at hq
    split at hq
    · exact List.mem_cons_of_mem _ hq
    · rcases List.mem_cons.1 hq with h | h
      · rw [h]; simp
      · exact List.mem_cons_of_mem _ (ih q h)
theorem del_nodup {es : List (κ × Value)} (hn : (es.map (·.1)).Nodup) (k : κ) : ((mdel es k).map (·.1)).Nodup := by
  induction es with
  | nil => simp [mdel]
  | cons p r ih =>
    obtain ⟨a, u⟩ := p
    simp only [List.map_cons, List.nodup_cons] at hn
    simp only [mdel]
    split
    · exact hn.2
    · simp only [List.map_cons, List.nodup_cons]
      refine ⟨fun hm => hn.1 ?_, ih hn.2⟩
      obtain ⟨q, hq, e⟩ := List.mem_map.1 hm
      exact List.mem_map.2 ⟨q, del_sub r k q hq, e⟩
theorem look_del {es : List (κ × Value)} (hn : (es.map (·.1)).Nodup) (k j : κ) : mlook (mdel es k) j = if k = j then none else mlook es j := by
  induction es with
  | nil => simp [mdel, mlook]
  | cons p r ih =>
    obtain ⟨a, u⟩ := p
    simp only [List.map_cons, List.nodup_cons] at hn
    by_cases h : a = k
    · subst h
      by_cases hj : a = j
      · subst hj
        simp only [mdel, if_true, look_none]
        intro q hq e
        exact hn.1 (List.mem_map.2 ⟨q, hq, e⟩)
      · simp [mdel, mlook, hj]
    · by_cases hj : a = j
      · subst hj; simp [mdel, mlook, h, Ne.symm h]
      · simp [mdel, mlook, h, hj, ih hn.2]

/-- Block b is a map of these entries. -/
def MapAt (mk : κ → Value) (w : World) (b : Nat) (es : List (κ × Value)) : Prop :=
  (es.map (·.1)).Nodup ∧ ∃ (arr : Array MapEntry) (clock : Nat), w.heap[b]? = some (.map arr clock) ∧ arr.toList.map (fun e => (e.key, e.val)) = es.map (fun p => (mk p.1, p.2)) ∧
    (arr.toList.map (·.born)).Nodup ∧ ∀ e ∈ arr.toList, e.born < clock

variable {mk : κ → Value} {w : World} {b : Nat} {es : List (κ × Value)}

theorem MapAt.keep {w' : World} (h : MapAt mk w b es) (hb : w'.heap[b]? = w.heap[b]?) : MapAt mk w' b es := by
  obtain ⟨h0, arr, clock, h1, h2⟩ := h
  exact ⟨h0, arr, clock, hb.trans h1, h2⟩
theorem MapAt.lt (h : MapAt mk w b es) : b < w.heap.size := by
  obtain ⟨_, arr, clock, h1, _⟩ := h
  exact (Array.getElem?_eq_some_iff.1 h1).1
theorem MapAt.below {w' : World} (h : MapAt mk w b es) (hb : Below w.heap.size w w') : MapAt mk w' b es := h.keep (hb.block b h.lt)
theorem MapAt.alloc (h : MapAt mk w b es) (o : Obj) : MapAt mk (w.alloc o) b es := h.keep (Below.heap_alloc _ _ _ h.lt)
theorem MapAt.grw {w' : World} {row : Option Nat} (h : MapAt mk w b es) (hg : w.grownBy w' row) (hne : some b ≠ row) : MapAt mk w' b es := h.keep (hg.block b h.lt hne)
theorem MapAt.new (mk : κ → Value) (w : World) : MapAt mk (w.alloc (.map #[] 0)) w.heap.size [] := ⟨by simp, #[], 0, heap_alloc_new w _, by simp, by simp, by simp⟩

theorem findNow_spec {d : TypeDesc} (hs : ∀ a b, Instr.sameNow d (mk a) (mk b) = some (decide (a = b))) (k : κ) : ∀ (L : List MapEntry) (es : List (κ × Value)) (i : Nat), L.map (fun e => (e.key, e.val)) = es.map (fun p => (mk p.1, p.2)) →
    (mlook es k = none ∧ Instr.findNow d (mk k) L i = some none) ∨
    ∃ j e v, mlook es k = some v ∧ L[j]? = some e ∧ e.key = mk k ∧ e.val = v ∧ Instr.findNow d (mk k) L i = some (some (i + j, v)) ∧
      (∀ f : MapEntry → MapEntry, ∀ u, (f e).key = mk k → (f e).val = u → (L.modify j f).map (fun e => (e.key, e.val)) = (mput es k u).map (fun p => (mk p.1, p.2))) ∧
      (L.eraseIdx j).map (fun e => (e.key, e.val)) = (mdel es k).map (fun p => (mk p.1, p.2))
  | [], es, i, h => by
    have : es = [] := by cases es with | nil => rfl | cons p r => simp at h
    subst this
    exact .inl ⟨rfl, rfl⟩
  | e :: L, [], i, h => by simp at h
  | e :: L, (a, u) :: r, i, h => by
    simp only [List.map_cons, List.cons.injEq, Prod.mk.injEq] at h
    obtain ⟨⟨hk, hv⟩, hr⟩ := h
    by_cases hak : a = k
    · subst hak
      refine .inr ⟨0, e, u, by simp [mlook], rfl, hk, hv, by simp [Instr.findNow, hk, hs, hv], fun f u' hf1 hf2 => ?_, ?_⟩
      · simp [mput, hf1, hf2, hr]
      · simp [mdel, hr]
    · have hka : k ≠ a := fun e => hak e.symm
      have hn : Instr.findNow d (mk k) (e :: L) i = Instr.findNow d (mk k) L (i + 1) := by simp [Instr.findNow, hk, hs, hka]
      rcases findNow_spec hs k L r (i + 1) hr with ⟨h1, h2⟩ | ⟨j, e', v, h1, h2, h3, h4, h5, h6, h7⟩
      · exact .inl ⟨by simp [mlook, hak, h1], by rw [hn, h2]⟩
      · refine .inr ⟨j + 1, e', v, by simp [mlook, hak, h1], by simpa using h2, h3, h4, by rw [hn, h5]; congr 3; omega, fun f u' hf1 hf2 => ?_, ?_⟩
        · simp only [List.modify_succ_cons, List.map_cons, mput, hak, if_false, List.cons.injEq]
          exact ⟨by simp [hk, hv], h6 f u' hf1 hf2⟩
        · simp only [List.eraseIdx_cons_succ, List.map_cons, mdel, hak, if_false, List.cons.injEq]
          exact ⟨by simp [hk, hv], h7⟩

variable {P : Program} {K E T : TypeId}

theorem run_findKey (kt : KeyTy P K mk) (k : κ) {arr : Array MapEntry} (h : arr.toList.map (fun e => (e.key, e.val)) = es.map (fun p => (mk p.1, p.2))) (w : World) :
    (mlook es k = none ∧ (Instr.findKey K (mk k) arr.toList).run P w = .ok none w) ∨
    ∃ j e v, mlook es k = some v ∧ arr.toList[j]? = some e ∧ e.key = mk k ∧ e.val = v ∧ (Instr.findKey K (mk k) arr.toList).run P w = .ok (some (j, v)) w ∧
      (∀ f : MapEntry → MapEntry, ∀ u, (f e).key = mk k → (f e).val = u → (arr.toList.modify j f).map (fun e => (e.key, e.val)) = (mput es k u).map (fun p => (mk p.1, p.2))) ∧
      (arr.toList.eraseIdx j).map (fun e => (e.key, e.val)) = (mdel es k).map (fun p => (mk p.1, p.2)) := by
  obtain ⟨d, hd, hs⟩ := kt.same
  rcases findNow_spec hs k arr.toList es 0 h with ⟨h1, h2⟩ | ⟨j, e, v, h1, h2, h3, h4, h5, h6, h7⟩
  · exact .inl ⟨h1, by simp [Instr.findKey, run_underlying hd, h2]⟩
  · exact .inr ⟨j, e, v, h1, h2, h3, h4, by simp [Instr.findKey, run_underlying hd, h5], h6, h7⟩

theorem run_getMap {arr : Array MapEntry} {clock : Nat} (h : w.heap[b]? = some (.map arr clock)) : (getObj b).run P w = .ok (.map arr clock) w := by
  simp [getObj, Sem.run, h]

/-- m[k]. -/
theorem run_lookup (kt : KeyTy P K mk) (ht : P.underlying T = some (.map K E)) {z : Value} (hz : ∀ w, (zeroValue E).run P w = .ok z w) (hm : MapAt mk w b es) (k : κ) (ok : Bool) :
    (Instr.lookup T (.map (some b)) (mk k) ok).run P w = .ok (if ok then .tuple #[(mlook es k).getD z, .bool (mlook es k).isSome] else (mlook es k).getD z) w := by
  obtain ⟨h0, arr, clock, h1, h2, h3, h4⟩ := hm
  rcases run_findKey kt k h2 w with ⟨e1, e2⟩ | ⟨j, e, v, e1, _, _, _, e2, _⟩
  · cases ok <;> simp [Instr.lookup, run_underlying ht, run_getMap h1, kt.check, e1, e2, hz]
  · cases ok <;> simp [Instr.lookup, run_underlying ht, run_getMap h1, kt.check, e1, e2]

theorem run_lookup_nil (kt : KeyTy P K mk) (ht : P.underlying T = some (.map K E)) {z : Value} (hz : ∀ w, (zeroValue E).run P w = .ok z w) (k : κ) (ok : Bool) (w : World) :
    (Instr.lookup T (.map none) (mk k) ok).run P w = .ok (if ok then .tuple #[z, .bool false] else z) w := by
  obtain ⟨d, hd, hs⟩ := kt.same
  cases ok <;> simp [Instr.lookup, run_underlying ht, kt.check, Instr.findKey, run_underlying hd, Instr.findNow, hz]

theorem run_setObj {o o' : Obj} (h : w.heap[b]? = some o) (hne : ∀ c e f, o ≠ .cells c e f) : (setObj b o').run P w = .ok () { w with heap := w.heap.setIfInBounds b o' } := by
  cases o with
  | cells c e f => exact absurd rfl (hne c e f)
  | _ => simp [setObj, Sem.run, h]

theorem heap_setObj (w : World) (b : Nat) (o : Obj) (hb : b < w.heap.size) : ({ w with heap := w.heap.setIfInBounds b o } : World).heap[b]? = some o := by
  show (w.heap.setIfInBounds b o)[b]? = _
  simp [Array.getElem?_setIfInBounds, hb]
theorem grown_setObj (w : World) (b : Nat) (o : Obj) : w.grownBy ({ w with heap := w.heap.setIfInBounds b o } : World) (some b) := by
  refine ⟨rfl, rfl, rfl, by simp, fun k hk hne => ?_⟩
  show (w.heap.setIfInBounds b o)[k]? = _
  rw [Array.getElem?_setIfInBounds, if_neg (fun e => hne (by rw [e]))]

theorem keyThatStays_run (kt : KeyTy P K mk) (k : κ) (w : World) : (Instr.keyThatStays (mk k) (mk k)).run P w = .ok (mk k) w := by
  simp [Instr.keyThatStays, kt.bits]

/-- m[k] = v. -/
theorem run_mapUpdate (kt : KeyTy P K mk) (ht : P.underlying T = some (.map K E)) (hm : MapAt mk w b es) (k : κ) (v : Value) :
    ∃ w', (Instr.mapUpdate T (.map (some b)) (mk k) v).run P w = .ok () w' ∧ MapAt mk w' b (mput es k v) ∧ w.grownBy w' (some b) ∧ w'.heap.size = w.heap.size := by
  have hlt := hm.lt
  obtain ⟨h0, arr, clock, h1, h2, h3, h4⟩ := hm
  rcases run_findKey kt k h2 w with ⟨e1, e2⟩ | ⟨j, e, u, e1, ej, ek, ev, e2, emod, _⟩
  · refine ⟨{ w with heap := w.heap.setIfInBounds b (.map (arr.push { key := mk k, val := v, born := clock }) (clock + 1)) }, ?_, ⟨put_nodup h0 k v, _, _, heap_setObj w b _ hlt, ?_, ?_, ?_⟩, grown_setObj w b _, by simp⟩
    · simp [Instr.mapUpdate, run_underlying ht, run_getMap h1, kt.check, e2, run_setObj (P := P) h1 (by simp)]
    · have hp : mput es k v = es ++ [(k, v)] := by
        clear h0 h2 e2
        induction es with
        | nil => rfl
        | cons p r ih =>
          obtain ⟨a, u⟩ := p
          by_cases hak : a = k
          · simp [mlook, hak] at e1
          · simp only [mlook, hak, if_false] at e1
            simp [mput, hak, ih e1]
      rw [hp]; simp [h2]
    · simp only [Array.toList_push, List.map_append, List.map_cons, List.map_nil]
      rw [List.nodup_append]
      refine ⟨h3, by simp, fun a ha c hc => ?_⟩
      rw [List.mem_singleton.1 hc]
      obtain ⟨x, hx, rfl⟩ := List.mem_map.1 ha
      have := h4 x hx
      omega
    · intro x hx
      simp only [Array.toList_push, List.mem_append, List.mem_singleton] at hx
      rcases hx with hx | hx
      · have := h4 x hx; omega
      · rw [hx]; show clock < clock + 1; omega
  · have hkey : (((arr[j]?).map (·.key)).getD (mk k)) = mk k := by
      have : arr[j]? = some e := by simpa using ej
      simp [this, ek]
    refine ⟨{ w with heap := w.heap.setIfInBounds b (.map (arr.modify j fun e => { e with key := mk k, val := v }) clock) }, ?_, ⟨put_nodup h0 k v, _, _, heap_setObj w b _ hlt, ?_, ?_, ?_⟩, grown_setObj w b _, by simp⟩
    · simp [Instr.mapUpdate, run_underlying ht, run_getMap h1, kt.check, e2, hkey, keyThatStays_run kt, run_setObj (P := P) h1 (by simp)]
    · rw [Array.toList_modify]
      exact emod _ v rfl rfl
    · have : ((arr.modify j fun e => { e with key := mk k, val := v }).toList.map (·.born)) = arr.toList.map (·.born) := by
        rw [Array.toList_modify]
        apply List.ext_getElem?
        intro i
        simp only [List.getElem?_map, List.getElem?_modify]
        split <;> simp [Option.map_map] <;> rfl
      rw [this]; exact h3
    · intro x hx
      rw [Array.toList_modify] at hx
      obtain ⟨i, hi, rfl⟩ := List.mem_iff_getElem.1 hx
      rw [List.getElem_modify]
      have hm := h4 (arr.toList[i]'(by simpa using hi)) (List.getElem_mem _)
      split
      · exact hm
      · exact hm

/-- delete(m, k). -/
theorem run_delete (kt : KeyTy P K mk) (ht : P.underlying T = some (.map K E)) (hm : MapAt mk w b es) (k : κ) (K2 ty : TypeId) :
    ∃ w', (Builtin.delete_ #[T, K2] ty #[.map (some b), mk k]).run P w = .ok (.tuple #[]) w' ∧ MapAt mk w' b (mdel es k) ∧ w.grownBy w' (some b) ∧ w'.heap.size = w.heap.size := by
  have hlt := hm.lt
  obtain ⟨h0, arr, clock, h1, h2, h3, h4⟩ := hm
  rcases run_findKey kt k h2 w with ⟨e1, e2⟩ | ⟨j, e, u, e1, ej, ek, ev, e2, _, edel⟩
  · have hd : mdel es k = es := by
      clear h0 h2 e2
      induction es with
      | nil => rfl
      | cons p r ih =>
        obtain ⟨a, u⟩ := p
        by_cases hak : a = k
        · simp [mlook, hak] at e1
        · simp only [mlook, hak, if_false] at e1
          simp [mdel, hak, ih e1]
    refine ⟨{ w with heap := w.heap.setIfInBounds b (.map arr clock) }, ?_, ⟨del_nodup h0 k, _, _, heap_setObj w b _ hlt, by rw [hd]; exact h2, h3, h4⟩, grown_setObj w b _, by simp⟩
    simp [Builtin.delete_, run_underlying ht, run_getMap h1, kt.check, e2, run_setObj (P := P) h1 (by simp)]
  · have hj : j < arr.size := by have := (List.getElem?_eq_some_iff.1 ej).1; simpa using this
    have htl : (arr.eraseIdxIfInBounds j).toList = arr.toList.eraseIdx j := by simp [Array.eraseIdxIfInBounds, hj]
    refine ⟨{ w with heap := w.heap.setIfInBounds b (.map (arr.eraseIdxIfInBounds j) clock) }, ?_, ⟨del_nodup h0 k, _, _, heap_setObj w b _ hlt, ?_, ?_, ?_⟩, grown_setObj w b _, by simp⟩
    · simp [Builtin.delete_, run_underlying ht, run_getMap h1, kt.check, e2, run_setObj (P := P) h1 (by simp)]
    · rw [htl]; exact edel
    · rw [htl]
      exact h3.sublist ((List.eraseIdx_sublist _ _).map _)
    · intro x hx
      rw [htl] at hx
      exact h4 x (List.mem_of_mem_eraseIdx hx)

/-- len(m). -/
theorem run_lenMap (ht : P.underlying T = some (.map K E)) (hm : MapAt mk w b es) (ty : TypeId) : (Builtin.len_ #[T] ty #[.map (some b)]).run P w = .ok (.int .i64 es.length) w := by
  obtain ⟨h0, arr, clock, h1, h2, h3, h4⟩ := hm
  have : arr.size = es.length := by
    have := congrArg List.length h2
    simpa using this
  simp [Builtin.len_, run_underlying ht, run_getMap h1, this]; rfl
end

section
variable {κ : Type} [DecidableEq κ] {mk : κ → Value} {P : Program} {K E T : TypeId} {ops : Array Oper} {rest : List Oper} {o : Oper} {a : Act} {Q : Exit → Act → World → Prop} {w : World} {b : Nat} {es : List (κ × Value)}

theorem wpList_lookup (kt : KeyTy P K mk) (ht : P.underlying T = some (.map K E)) {z : Value} (hz : ∀ w, (zeroValue E).run P w = .ok z w) {m x : Operand} {ok : Bool}
    (hg : o.guard = none) (ho : o.op = Op.lookup T m x ok) {k : κ} (hm : a.eval m = .map (some b)) (hx : a.eval x = mk k) (hma : MapAt mk w b es)
    (h : wpList P ops Q rest (a.put o.dst (if ok then .tuple #[(mlook es k).getD z, .bool (mlook es k).isSome] else (mlook es k).getD z)) w) : wpList P ops Q (o :: rest) a w := by
  refine wpList_plain hg fun K' hK' => ?_
  unfold Oper.wp
  simp only [execOp, ho, hm, hx, Sem.run_bind, Sem.run_map, run_lookup kt ht hz hma, Result.andThen_ok]
  exact hK' _ _ h

theorem wpList_mapUpdate (kt : KeyTy P K mk) (ht : P.underlying T = some (.map K E)) {m x v : Operand}
    (hg : o.guard = none) (ho : o.op = Op.mapUpdate T m x v ∨ o.op = Op.insert T m x v) {k : κ} {val : Value} (hm : a.eval m = .map (some b)) (hx : a.eval x = mk k) (hv : a.eval v = val) (hma : MapAt mk w b es)
    (h : ∀ u : Grw (some b) w, MapAt mk u.to b (mput es k val) → u.to.heap.size = w.heap.size → wpList P ops Q rest (a.put o.dst undef) u.to) : wpList P ops Q (o :: rest) a w := by
  refine wpList_plain hg fun K' hK' => ?_
  obtain ⟨w', h1, h2, h3, h4⟩ := run_mapUpdate kt ht hma k val
  unfold Oper.wp
  rcases ho with ho | ho
  · simp only [execOp, ho, hm, hx, hv, Sem.run_bind, Sem.run_map, h1, Result.andThen_ok]
    exact hK' _ _ (h ⟨w', h3⟩ h2 h4)
  · simp only [execOp, ho, hm, hx, hv, Sem.run_bind, Sem.run_map, h1, Result.andThen_ok]
    exact hK' _ _ (h ⟨w', h3⟩ h2 h4)

theorem wpList_delete (kt : KeyTy P K mk) (ht : P.underlying T = some (.map K E)) {K2 : TypeId} {m x : Operand}
    (hg : o.guard = none) (ho : o.op = .call { callee := .builtin .delete, args := #[m, x], argTypes := #[T, K2] }) {k : κ} (hm : a.eval m = .map (some b)) (hx : a.eval x = mk k) (hma : MapAt mk w b es)
    (h : ∀ u : Grw (some b) w, MapAt mk u.to b (mdel es k) → u.to.heap.size = w.heap.size → wpList P ops Q rest (a.put o.dst (.tuple #[])) u.to) : wpList P ops Q (o :: rest) a w := by
  refine wpList_plain hg fun K' hK' => ?_
  obtain ⟨w', h1, h2, h3, h4⟩ := run_delete kt ht hma k K2 o.type
  unfold Oper.wp execOp
  simp only [ho, resolve, invoke, builtin, Sem.run_bind, Sem.run_pure, Result.andThen_ok, List.map_toArray, List.map_cons, List.map_nil, hm, hx, h1]
  exact hK' _ _ (h ⟨w', h3⟩ h2 h4)
end

/-! ### range over a map -/
section
variable {κ : Type} [DecidableEq κ] {mk : κ → Value} {P : Program} {K E T : TypeId}

/-- Block bi ranges over the map of block b; left: what is still to come. -/
def IterAt (mk : κ → Value) (w : World) (bi b : Nat) (left : List (κ × Value)) : Prop :=
  ∃ (arr : Array MapEntry) (clock : Nat) (seen : Array Nat), w.heap[b]? = some (.map arr clock) ∧ w.heap[bi]? = some (.mapIter (some b) clock seen clock) ∧
    (arr.toList.filter fun e => !seen.contains e.born).map (fun e => (e.key, e.val)) = left.map (fun p => (mk p.1, p.2)) ∧
    (arr.toList.map (·.born)).Nodup ∧ ∀ e ∈ arr.toList, e.born < clock

theorem IterAt.keep {w w' : World} {bi b : Nat} {left : List (κ × Value)} (h : IterAt mk w bi b left) (hb : w'.heap[b]? = w.heap[b]?) (hbi : w'.heap[bi]? = w.heap[bi]?) : IterAt mk w' bi b left := by
  obtain ⟨arr, clock, seen, h1, h2, h3⟩ := h
  exact ⟨arr, clock, seen, hb.trans h1, hbi.trans h2, h3⟩
theorem IterAt.lt {w : World} {bi b : Nat} {left : List (κ × Value)} (h : IterAt mk w bi b left) : bi < w.heap.size ∧ b < w.heap.size := by
  obtain ⟨arr, clock, seen, h1, h2, h3⟩ := h
  exact ⟨(Array.getElem?_eq_some_iff.1 h2).1, (Array.getElem?_eq_some_iff.1 h1).1⟩

theorem MapAt.iter {w : World} {b : Nat} {es : List (κ × Value)} (h : MapAt mk w b es) : ∃ clock arr, w.heap[b]? = some (.map arr clock) ∧ IterAt mk (w.alloc (.mapIter (some b) clock #[] clock)) w.heap.size b es := by
  have hlt := h.lt
  obtain ⟨h0, arr, clock, h1, h2, h3, h4⟩ := h
  refine ⟨clock, arr, h1, arr, clock, #[], (Below.heap_alloc _ _ _ hlt).trans h1, heap_alloc_new w _, ?_, h3, h4⟩
  rw [List.filter_eq_self.2 (by simp)]
  exact h2

theorem perm_born (e : MapEntry) : ∀ (F : List MapEntry), e ∈ F → (F.map (·.born)).Nodup → F.Perm (e :: F.filter fun x => !(x.born == e.born))
  | [], h, _ => by simp at h
  | x :: F, h, hn => by
    simp only [List.map_cons, List.nodup_cons] at hn
    rcases List.mem_cons.1 h with h | h
    · subst h
      rw [List.filter_cons_of_neg (by simp), List.filter_eq_self.2 (fun y hy => ?_)]
      simp only [Bool.not_eq_true', beq_eq_false_iff_ne]
      exact fun he => hn.1 (List.mem_map.2 ⟨y, hy, he⟩)
    · have hne : x.born ≠ e.born := fun he => hn.1 (List.mem_map.2 ⟨e, h, he.symm⟩)
      rw [List.filter_cons_of_pos (by simpa using hne)]
      exact ((perm_born e F h hn.2).cons x).trans (List.Perm.swap _ _ _)

theorem map_inv {L : List MapEntry} {left : List (κ × Value)} (h : L.map (fun e => (e.key, e.val)) = left.map (fun p => (mk p.1, p.2))) {e : MapEntry} (he : e ∈ L) : ∃ p ∈ left, (e.key, e.val) = (mk p.1, p.2) := by
  have : (e.key, e.val) ∈ left.map (fun p => (mk p.1, p.2)) := by rw [← h]; exact List.mem_map.2 ⟨e, he, rfl⟩
  obtain ⟨p, hp, e1⟩ := List.mem_map.1 this
  exact ⟨p, hp, e1.symm⟩

/-- A permutation of entries as one of pairs. -/
theorem perm_pairs : ∀ (L' : List MapEntry) (L : List MapEntry) (left : List (κ × Value)), L.Perm L' → L.map (fun e => (e.key, e.val)) = left.map (fun p => (mk p.1, p.2)) →
    ∃ left', left.Perm left' ∧ L'.map (fun e => (e.key, e.val)) = left'.map (fun p => (mk p.1, p.2)) := by
  intro L' L left hp
  induction hp generalizing left with
  | nil => exact fun h => ⟨left, List.Perm.refl _, h⟩
  | cons x _ ih =>
    intro h
    cases left with
    | nil => simp at h
    | cons p r =>
      simp only [List.map_cons, List.cons.injEq] at h
      obtain ⟨l', h1, h2⟩ := ih r h.2
      exact ⟨p :: l', h1.cons p, by simp only [List.map_cons, List.cons.injEq]; exact ⟨h.1, h2⟩⟩
  | swap x y l =>
    intro h
    match left, h with
    | p :: q :: r, h =>
      simp only [List.map_cons, List.cons.injEq] at h
      exact ⟨q :: p :: r, List.Perm.swap _ _ _, by simp only [List.map_cons, List.cons.injEq]; exact ⟨h.2.1, h.1, h.2.2⟩⟩
    | [p], h => simp at h
    | [], h => simp at h
  | trans _ _ ih1 ih2 =>
    intro h
    obtain ⟨l1, h1, h2⟩ := ih1 left h
    obtain ⟨l2, h3, h4⟩ := ih2 l1 h2
    exact ⟨l2, h1.trans h3, h4⟩

theorem run_pick (P : Program) (w : World) (n : Nat) (hn : 0 < n) : ∃ i w1, i < n ∧ (choose (.mapNext n)).run P w = .ok i w1 ∧ (w1 = w ∨ w1 = w.drew) := by
  by_cases hf : (Question.mapNext n).forced = true
  · exact ⟨0, w, hn, by rw [run_choose, if_pos hf], .inl rfl⟩
  · exact ⟨_, w.drew, Nat.mod_lt _ hn, by rw [run_choose, if_neg hf]; rfl, .inr rfl⟩

theorem run_next {w : World} {bi b : Nat} {left : List (κ × Value)} (h : IterAt mk w bi b left) (ty : TypeId) :
    (left = [] ∧ (Instr.next (.pointer (some ⟨bi, 0, none⟩)) false ty).run P w = .ok (.tuple #[.bool false]) w) ∨
    ∃ k v left' w', left.Perm ((k, v) :: left') ∧ (Instr.next (.pointer (some ⟨bi, 0, none⟩)) false ty).run P w = .ok (.tuple #[.bool true, mk k, v]) w' ∧ IterAt mk w' bi b left' ∧
      w.grownBy w' (some bi) ∧ w'.heap.size = w.heap.size ∧ (Instr.entry (.pointer (some ⟨bi, 0, none⟩))).run P w' = .ok (.tuple #[mk k, v]) w' := by
  have hlt := h.lt
  obtain ⟨arr, clock, seen, h1, h2, h3, h4, h5⟩ := h
  have hne : b ≠ bi := fun e => by rw [e, h2] at h1; cases h1
  have hgo : (getObj bi).run P w = .ok (.mapIter (some b) clock seen clock) w := by simp [getObj, Sem.run, h2]
  have hgb : ∀ w' : World, w'.heap[b]? = some (.map arr clock) → (getObj b).run P w' = .ok (.map arr clock) w' := fun w' h => by simp [getObj, Sem.run, h]
  have hg2 : ((¬seen = #[] ∧ ¬arr = #[]) ∧ ∀ (i : Nat) (x : i < arr.size), clock ≤ arr[i].born) = False := by
    rw [eq_iff_iff, iff_false]
    rintro ⟨⟨_, ha⟩, hc⟩
    have hs : 0 < arr.size := Nat.pos_of_ne_zero fun h => ha (Array.eq_empty_of_size_eq_zero h)
    have h6 := hc 0 hs
    have h7 := h5 (arr[0]'hs) (by simp)
    omega
  have hguard : (!seen.isEmpty && !arr.isEmpty && arr.all fun x => decide (x.born ≥ clock)) = false := by
    rw [Bool.eq_false_iff]; intro h; apply (eq_iff_iff.1 hg2).1
    simpa using h
  have hold : ((arr.filter fun e => !seen.contains e.born).filter fun x => decide (x.born < clock)) = (arr.filter fun e => !seen.contains e.born) := by
    rw [Array.filter_eq_self]
    intro x hx
    have := (Array.mem_filter.1 hx).1
    have := h5 x (by simpa using this)
    simpa using this
  have hnew : ((arr.filter fun e => !seen.contains e.born).filter fun x => decide (x.born ≥ clock)) = #[] := by
    rw [Array.filter_eq_empty_iff]
    intro x hx
    have := (Array.mem_filter.1 hx).1
    have := h5 x (by simpa using this)
    simp; omega
  generalize hF : (arr.filter fun e => !seen.contains e.born) = F at hold hnew
  have hFl : F.toList = arr.toList.filter fun e => !seen.contains e.born := by rw [← hF]; simp
  rw [← hFl] at h3
  by_cases hFe : F = #[]
  · subst hFe
    refine .inl ⟨by cases left with | nil => rfl | cons p r => simp at h3, ?_⟩
    have hch : (choose (.mapNext 1)).run P w = .ok 0 w := by rw [run_choose]; rfl
    simp only [Instr.next, Sem.run_bind, hgo, Result.andThen_ok, hgb w h1, hguard, Bool.false_eq_true, if_false, pure_bind, hF]
    have e0 : ∀ p : MapEntry → Bool, Array.filter p #[] = #[] := fun p => by simp
    simp only [e0, Array.isEmpty_empty, if_true, Array.append_empty, Array.map_empty]
    rw [show (#[(none : Option MapEntry)]).size = 1 from rfl, hch]
    simp
  · right
    have hFs : 0 < F.size := Nat.pos_of_ne_zero fun h => hFe (Array.eq_empty_of_size_eq_zero h)
    have hFi : F.isEmpty = false := by simp [Array.isEmpty]; exact hFe
    obtain ⟨i, w1, hi, hch, hw1⟩ := run_pick P w F.size hFs
    have hb1 : w1.heap = w.heap := by rcases hw1 with rfl | rfl <;> rfl
    have hem : F[i] ∈ F.toList := by simp
    obtain ⟨⟨k, v⟩, hp, he⟩ := map_inv h3 hem
    simp only [Prod.mk.injEq] at he
    have hFn : (F.toList.map (·.born)).Nodup := by rw [hFl]; exact h4.sublist (List.filter_sublist.map _)
    obtain ⟨left0, hl1, hl2⟩ := perm_pairs _ F.toList left (perm_born F[i] F.toList hem hFn) h3
    cases left0 with
    | nil => simp at hl2
    | cons q left' =>
      simp only [List.map_cons, List.cons.injEq] at hl2
      obtain ⟨hq, hl2⟩ := hl2
      obtain ⟨qk, qv⟩ := q
      simp only [Prod.mk.injEq] at hq
      have harr : F[i] ∈ arr.toList := by
        have : F[i] ∈ F.toList := hem
        rw [hFl] at this
        exact (List.mem_filter.1 this).1
      have hbi1 : w1.heap[bi]? = some (.mapIter (some b) clock seen clock) := by rw [hb1]; exact h2
      have hbi2 := heap_setObj w1 bi (.mapIter (some b) clock (seen.push F[i].born) clock) (by rw [hb1]; exact hlt.1)
      have hb2 : ({ w1 with heap := w1.heap.setIfInBounds bi (.mapIter (some b) clock (seen.push F[i].born) clock) } : World).heap[b]? = some (.map arr clock) := by
        show (w1.heap.setIfInBounds bi _)[b]? = _
        rw [Array.getElem?_setIfInBounds, if_neg (fun e => hne e.symm), hb1]; exact h1
      refine ⟨qk, qv, left', { w1 with heap := w1.heap.setIfInBounds bi (.mapIter (some b) clock (seen.push F[i].born) clock) }, hl1, ?_, ⟨arr, clock, seen.push F[i].born, hb2, hbi2, ?_, h4, h5⟩, ?_, by show (w1.heap.setIfInBounds _ _).size = _; rw [Array.size_setIfInBounds, hb1], ?_⟩
      · have hget : (F.map some)[i]? = some (some F[i]) := by simp [hi]
        simp only [Instr.next, Sem.run_bind, hgo, Result.andThen_ok, hgb w h1, hguard, Bool.false_eq_true, if_false, pure_bind, hF, hold, hnew, hFi]
        simp only [Array.empty_append, Array.append_empty, Array.size_map, if_false, Bool.false_eq_true]
        rw [hch]
        simp [hi, run_setObj (P := P) hbi1 (by simp), hq.1, hq.2]
      · rw [← hl2, hFl, List.filter_filter]
        congr 1
        apply List.filter_congr
        intro x hx
        rw [Array.contains_push, Bool.not_or, Bool.and_comm]
      · have hg := grown_setObj w1 bi (.mapIter (some b) clock (seen.push F[i].born) clock)
        rcases hw1 with rfl | rfl
        · exact hg
        · exact ⟨hg.os, hg.tape, hg.output, hg.size, hg.block⟩
      · have hfind : arr.find? (fun e => e.born == F[i].born) = some F[i] := by
          have hsome : ∃ y, arr.toList.find? (fun e => e.born == F[i].born) = some y := by
            cases hx : arr.toList.find? (fun e => e.born == F[i].born) with
            | some y => exact ⟨y, rfl⟩
            | none => have := List.find?_eq_none.1 hx _ harr; simp at this
          obtain ⟨y, hy⟩ := hsome
          have hyb := List.find?_some hy
          have hym := List.mem_of_find?_eq_some hy
          have : y = F[i] := by
            have hpw : arr.toList.Pairwise (fun a c => a.born ≠ c.born) := by rw [List.Nodup, List.pairwise_map] at h4; exact h4
            rcases List.mem_iff_getElem.1 hym with ⟨m, hm, em⟩
            rcases List.mem_iff_getElem.1 harr with ⟨m', hm', em'⟩
            rw [List.pairwise_iff_getElem] at hpw
            rcases Nat.lt_trichotomy m m' with h | h | h
            · have := hpw m m' hm hm' h; rw [em, em'] at this; exact absurd (by simpa using hyb) this
            · subst h; rw [← em, ← em']
            · have := hpw m' m hm' hm h; rw [em, em'] at this; exact absurd (by simpa using hyb) (Ne.symm this)
          rw [this] at hy
          rw [← hy]
          simp
        simp [Instr.entry, getObj, Sem.run, hbi2, hb2, hfind, hq.1, hq.2]

variable {ops : Array Oper} {rest : List Oper} {o : Oper} {a : Act} {Q : Exit → Act → World → Prop} {w : World} {b bi : Nat} {es left : List (κ × Value)}

theorem wpList_range (ht : P.underlying T = some (.map K E)) {m : Operand} (hg : o.guard = none) (ho : o.op = Op.range T m) (hm : a.eval m = .map (some b)) (hma : MapAt mk w b es)
    (h : ∀ y : Later w.heap.size w, IterAt mk y.to w.heap.size b es → w.heap.size < y.to.heap.size → wpList P ops Q rest (a.put o.dst (.pointer (some ⟨w.heap.size, 0, none⟩))) y.to) : wpList P ops Q (o :: rest) a w := by
  refine wpList_plain hg fun K' hK' => ?_
  obtain ⟨clock, arr, h1, h2⟩ := hma.iter
  have hrun : (Instr.range T (.map (some b))).run P w = .ok (.pointer (some ⟨w.heap.size, 0, none⟩)) (w.alloc (.mapIter (some b) clock #[] clock)) := by
    simp [Instr.range, run_underlying ht, run_getMap h1]
  unfold Oper.wp
  simp only [execOp, ho, hm, Sem.run_bind, Sem.run_map, hrun, Result.andThen_ok]
  exact hK' _ _ (h ⟨_, (Below.refl _ _).alloc (Nat.le_refl _) _⟩ h2 (by simp))

theorem wpList_next {it : Operand} (hg : o.guard = none) (ho : o.op = Op.next it false) (hit : a.eval it = .pointer (some ⟨bi, 0, none⟩)) (hi : IterAt mk w bi b left)
    (hDone : left = [] → wpList P ops Q rest (a.put o.dst (.tuple #[.bool false])) w)
    (hMore : ∀ k v left' (u : Grw (some bi) w), left.Perm ((k, v) :: left') → IterAt mk u.to bi b left' → u.to.heap.size = w.heap.size → (Instr.entry (.pointer (some ⟨bi, 0, none⟩))).run P u.to = .ok (.tuple #[mk k, v]) u.to →
      wpList P ops Q rest (a.put o.dst (.tuple #[.bool true, mk k, v])) u.to) : wpList P ops Q (o :: rest) a w := by
  refine wpList_plain hg fun K' hK' => ?_
  unfold Oper.wp
  rcases run_next (P := P) hi o.type with ⟨h1, h2⟩ | ⟨k, v, left', w', h1, h2, h3, h4, h5, h6⟩
  · simp only [execOp, ho, hit, Sem.run_bind, Sem.run_map, h2, Result.andThen_ok]
    exact hK' _ _ (hDone h1)
  · simp only [execOp, ho, hit, Sem.run_bind, Sem.run_map, h2, Result.andThen_ok]
    exact hK' _ _ (hMore k v left' ⟨w', h4⟩ h1 h3 h5 h6)
end
end Go.Cib
