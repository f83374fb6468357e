/-
  Sectors as wholes: loads, stores and zero values that the walk does not open.
-/
import Derived.Test.YtolmpopjonkfgaaDrvW
set_option linter.unusedSimpArgs false
set_option linter.unusedVariables false
namespace Go.Proofs.Ytolmpopjonkfgaa
open Go.RowKit Go.Cib
attribute [local go_sem] cell_set Later.cell Later.frozen Grw.cell Grw.frozen

def secZC : Array Value := Array.replicate 64 (.int .u8 0)
def waitZC : Array Value := (Value.int .i64 0 :: List.replicate 64 (.int .u8 0)).toArray
theorem secZC_size : secZC.size = 64 := by simp [secZC]
theorem waitZC_size : waitZC.size = 65 := by simp [waitZC]
def shutZero (t : TypeId) : Sem Value := zeroValue t
theorem shut_zero : zeroValue 94 = shutZero 94 := rfl
theorem shut_zero65 : zeroValue 96 = shutZero 96 := rfl
theorem run_shutZero (w : World) : (shutZero 94).run Try.prog w = .ok (.agg secZC) w := by
  obtain ⟨i2, hi2, hz2, hs2, hby2⟩ := info_parts (show (Try.prog.info? 94).map (fun i => (i.zero, i.size, i.bytes)) = some (some (.agg secZC), 64, 64) by kernel_rfl)
  simp [shutZero, zeroValue, typeInfo, hi2, hz2]
theorem run_shutZero65 (w : World) : (shutZero 96).run Try.prog w = .ok (.agg waitZC) w := by
  obtain ⟨i2, hi2, hz2, hs2, hby2⟩ := info_parts (show (Try.prog.info? 96).map (fun i => (i.zero, i.size, i.bytes)) = some (some (.agg waitZC), 65, 72) by kernel_rfl)
  simp [shutZero, zeroValue, typeInfo, hi2, hz2]
def shutStore (t : TypeId) (a : Addr) (v : Value) : Sem Unit := storeVar t a v
theorem shut_store (a : Addr) (v : Value) : storeVar 94 a v = shutStore 94 a v := rfl
theorem shut_store65 (a : Addr) (v : Value) : storeVar 96 a v = shutStore 96 a v := rfl
/-- Cells that may be stored. -/
def fitC (k : Nat) (cs : Array Value) : Prop := cs.size = k ∧ ∀ v ∈ cs.toList, v.oneCell' = true
theorem fit_sec {x : List Int} (h : x.length = 64) : fitC 64 (secCells x).toArray := ⟨by simp [secCells, h], by simpa using fun v hv => secCells_one v hv⟩
theorem fit_wait {p : Int × List Int} (h : p.2.length = 64) : fitC 65 (waitCells p).toArray := ⟨by simp [waitCells, secCells, h], by simpa using fun v hv => waitCells_one v hv⟩
theorem fit_secZ : fitC 64 secZC := ⟨secZC_size, by simp [secZC, Value.oneCell']⟩
theorem fit_waitZ : fitC 65 waitZC := ⟨waitZC_size, by simp [waitZC, Value.oneCell']⟩
theorem run_shutStore (w : World) (b o : Nat) (cs : Array Value) (hf : fitC 64 cs) (ht : w.there b o 64) : (shutStore 94 ⟨b, o, none⟩ (.agg cs)).run Try.prog w = .ok () (w.setCells b o cs.toList) :=
  run_storeVar_mid w b o _ cs (hf.1 ▸ ht) (by rw [secSize, hf.1]) (Array.all_eq_true_iff_forall_mem.2 (fun v hv => hf.2 v (by simpa using hv)))
theorem waitSize : (Try.prog.info? 96).map (·.size) = some 65 := by kernel_rfl
theorem run_shutStore65 (w : World) (b o : Nat) (cs : Array Value) (hf : fitC 65 cs) (ht : w.there b o 65) : (shutStore 96 ⟨b, o, none⟩ (.agg cs)).run Try.prog w = .ok () (w.setCells b o cs.toList) :=
  run_storeVar_mid w b o _ cs (hf.1 ▸ ht) (by rw [waitSize, hf.1]) (Array.all_eq_true_iff_forall_mem.2 (fun v hv => hf.2 v (by simpa using hv)))
theorem run_shutLoad {w : World} {b o : Nat} {cs : List Value} (h : w.rangeAt b o cs) (hl : cs.length = 64) : (shutLoad 94 ⟨b, o, none⟩).run Try.prog w = .ok (.agg cs.toArray) w :=
  run_loadVar_mid (P := Try.prog) w b o _ _ _ h secRow rfl (by rw [secSize, hl])
theorem run_shutLoad65 {w : World} {b o : Nat} {cs : List Value} (h : w.rangeAt b o cs) (hl : cs.length = 65) : (shutLoad 96 ⟨b, o, none⟩).run Try.prog w = .ok (.agg cs.toArray) w :=
  run_loadVar_mid (P := Try.prog) w b o _ _ _ h Try.underlying96 rfl (by rw [waitSize, hl])
theorem run_shutLoad_set (w : World) (b o : Nat) (cs : List Value) (hl : cs.length = 64) (ht : w.there b o 64) : (shutLoad 94 ⟨b, o, none⟩).run Try.prog (w.setCells b o cs) = .ok (.agg cs.toArray) (w.setCells b o cs) :=
  run_shutLoad (World.rangeAt_setCells_same w b o cs (hl ▸ ht)) hl
theorem there_new (w : World) (t : TypeId) : (w.alloc (.cells secZC t)).there w.heap.size 0 64 := fun j hj => by
  have h := BoxAt.new w secZC t
  refine ⟨?_, by simp [h.frozen j]⟩
  rw [show 0 + j = j by omega, h.cell]
  simp [secZC_size, hj]
theorem there_new65 (w : World) (t : TypeId) : (w.alloc (.cells waitZC t)).there w.heap.size 0 65 := fun j hj => by
  have h := BoxAt.new w waitZC t
  refine ⟨?_, by simp [h.frozen j]⟩
  rw [show 0 + j = j by omega, h.cell]
  simp [waitZC_size, hj]
/-- A variable that is set whole. -/
theorem BoxAt.setAll {w : World} {b : Nat} {cs : Array Value} (h : BoxAt w b cs) (vs : List Value) (hl : vs.length = cs.size) : BoxAt (w.setCells b 0 vs) b vs.toArray := by
  have gen : ∀ (vs : List Value) (pre : List Value) (w : World) (cs : List Value), vs.length = cs.length → BoxAt w b (pre ++ cs).toArray → BoxAt (w.setCells b pre.length vs) b (pre ++ vs).toArray := by
    intro vs
    induction vs with
    | nil => intro pre w cs h hb; rw [List.length_eq_zero_iff.1 h.symm] at hb; exact hb
    | cons v vs ih =>
      intro pre w cs h hb
      match cs, h with
      | c :: cs, h =>
        have h1 := hb.set pre.length v
        have e : (pre ++ c :: cs).toArray.setIfInBounds pre.length v = ((pre ++ [v]) ++ cs).toArray := by simp
        rw [e] at h1
        have h2 := ih (pre ++ [v]) _ cs (by simpa using h) h1
        simpa [World.setCells] using h2
  have := gen vs [] w cs.toList (by simpa using hl) (by simpa using h)
  simpa using this
theorem setCells_other (w : World) (b o k : Nat) (vs : List Value) (hk : k ≠ b) : (w.setCells b o vs).heap[k]? = w.heap[k]? := by
  induction vs generalizing w o with
  | nil => rfl
  | cons v vs ih => rw [World.setCells, ih]; exact Below.heap_setCell _ _ _ _ hk
theorem setCells_size (w : World) (b o : Nat) (vs : List Value) : (w.setCells b o vs).heap.size = w.heap.size := by
  induction vs generalizing w o with
  | nil => rfl
  | cons v vs ih => rw [World.setCells, ih]; simp
theorem setCells_keep (w : World) (b o : Nat) (vs : List Value) : Keep (· = b) w (w.setCells b o vs) := by
  induction vs generalizing w o with
  | nil => exact Keep.refl _ _
  | cons v vs ih => exact (Keep.setCell (F := (· = b)) (Keep.refl _ w) (p := ⟨b, o, none⟩) (fun _ => rfl) v).trans (ih _ _) (fun _ h _ => h)
end Go.Proofs.Ytolmpopjonkfgaa
