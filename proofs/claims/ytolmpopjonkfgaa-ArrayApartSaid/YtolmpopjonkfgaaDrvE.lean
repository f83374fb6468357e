/-
  empty.
-/
import Derived.Test.YtolmpopjonkfgaaDrvF
import Derived.Deep.RegionHeld3
set_option linter.unusedSimpArgs false
set_option linter.unusedVariables false
namespace Go.Proofs.Ytolmpopjonkfgaa
open Go.RowKit Go.Cib
attribute [local go_sem] cell_set Later.cell Later.frozen Grw.cell Grw.frozen

theorem madeCells_rep (v : Value) (s n : Nat) (hs : 0 < s) : madeCells (Array.replicate s v) n = Array.replicate n v := by
  apply Array.ext
  · simp [madeCells]
  · intro i h1 h2
    simp [madeCells, Nat.mod_lt _ hs]

def secZero : Value := .agg (Array.replicate 64 (.int .u8 0))
theorem secInfo0 : (Try.prog.info? 94).map (fun i => (i.zero, i.size, i.bytes)) = some (some secZero, 64, 64) := by kernel_rfl
theorem makeSec (k : Nat) (hk : k ≤ 600) (w : World) : (Instr.makeSlice 87 (.int .i64 (k : Int)) (.int .i64 (k : Int))).run Try.prog w = .ok (.slice (some ⟨w.heap.size, 0, none⟩) k k) (w.alloc (.cells (Array.replicate (k * 64) (.int .u8 0)) 94)) := by
  obtain ⟨i, hi, hz, hs, hb⟩ := info_parts secInfo0
  have h := run_make (P := Try.prog) w 87 94 i secZero (by kernel_rfl) hi hz .i64 .i64 k k (by omega) (by omega) (by rw [hb]; omega) (by omega)
  simp only [Int.toNat_natCast, hs] at h
  rw [h, show secZero.cells = Array.replicate 64 (.int .u8 0) from rfl, madeCells_rep _ _ _ (by omega)]
theorem boolInfo : (Try.prog.info? 4).map (fun i => (i.zero, i.size, i.bytes)) = some (some (.bool false), 1, 1) := by kernel_rfl
theorem makeBools (k : Nat) (hk : k ≤ 600) (w : World) : (Instr.makeSlice 23 (.int .i64 (k : Int)) (.int .i64 (k : Int))).run Try.prog w = .ok (.slice (some ⟨w.heap.size, 0, none⟩) k k) (w.alloc (.cells (Array.replicate k (.bool false)) 4)) := by
  obtain ⟨i, hi, hz, hs, hb⟩ := info_parts boolInfo
  have h := run_make (P := Try.prog) w 23 4 i (.bool false) (by kernel_rfl) hi hz .i64 .i64 k k (by omega) (by omega) (by rw [hb]; omega) (by omega)
  simp only [Int.toNat_natCast, hs, Nat.mul_one] at h
  rw [h, show (Value.bool false).cells = Array.replicate 1 (.bool false) from rfl, madeCells_rep _ _ _ (by omega)]

/-- A drive as new, at p. -/
def Fresh (w w' : World) (p k : Nat) : Prop := ∃ F', DrvAt F' w' p k (DSt.new k) ∧ (∀ b, F' b → b = p ∨ w.heap.size ≤ b) ∧ Keep (fun b => b = p) w w'

structure Three (w w' : World) (p : Nat) (cs : Array Value) (o1 o2 o3 : Obj) : Prop where
  h1 : w'.heap[w.heap.size]? = some o1
  h2 : w'.heap[w.heap.size + 1]? = some o2
  h3 : w'.heap[w.heap.size + 1 + 1]? = some o3
  box : BoxAt w' p cs
  keep : Keep (fun b => b = p) w w'
  size : w'.heap.size = w.heap.size + 1 + 1 + 1

theorem three_of {w : World} {p : Nat} {v0 v1 v2 v3 v4 : Value} (h : BoxAt w p #[v0, v1, v2, v3, v4]) (a0 a1 a2 a3 a4 : Value) (o1 o2 o3 : Obj) :
    Three w ((((((((w.setCell ⟨p, 0, none⟩ a0).setCell ⟨p, 1, none⟩ a1).setCell ⟨p, 2, none⟩ a2).setCell ⟨p, 3, none⟩ a3).setCell ⟨p, 4, none⟩ a4).alloc o1).alloc o2).alloc o3).drew p #[a0, a1, a2, a3, a4] o1 o2 o3 := by
  obtain ⟨W, hW⟩ : ∃ W, ((((w.setCell ⟨p, 0, none⟩ a0).setCell ⟨p, 1, none⟩ a1).setCell ⟨p, 2, none⟩ a2).setCell ⟨p, 3, none⟩ a3).setCell ⟨p, 4, none⟩ a4 = W := ⟨_, rfl⟩
  have hb : BoxAt W p #[a0, a1, a2, a3, a4] := by rw [← hW]; exact ((((h.set 0 a0).set 1 a1).set 2 a2).set 3 a3).set 4 a4
  have hk : Keep (fun b => b = p) w W := by rw [← hW]; exact (((((Keep.refl (fun b => b = p) w).setCell (p := ⟨p, 0, none⟩) (fun _ => rfl) a0).setCell (p := ⟨p, 1, none⟩) (fun _ => rfl) a1).setCell (p := ⟨p, 2, none⟩) (fun _ => rfl) a2).setCell (p := ⟨p, 3, none⟩) (fun _ => rfl) a3).setCell (p := ⟨p, 4, none⟩) (fun _ => rfl) a4
  have hs : W.heap.size = w.heap.size := by rw [← hW]; simp
  rw [hW]
  have e1 : (W.alloc o1).heap.size = W.heap.size + 1 := by simp
  have e2 : ((W.alloc o1).alloc o2).heap.size = W.heap.size + 1 + 1 := by simp
  have n1 := heap_alloc_new W o1
  have n2 := heap_alloc_new (W.alloc o1) o2
  have n3 := heap_alloc_new ((W.alloc o1).alloc o2) o3
  rw [e1] at n2; rw [e2] at n3
  rw [hs] at n1 n2 n3
  refine ⟨?_, ?_, n3, ((hb.alloc o1).alloc o2).alloc o3, (((hk.alloc o1).alloc o2).alloc o3).trans (G := fun _ => False) ⟨rfl, rfl, rfl, Nat.le_refl _, fun _ _ _ => rfl⟩ (fun _ h => h.elim), by simp [hs]⟩
  · exact (Below.heap_alloc _ _ _ (by simp [hs]; omega)).trans ((Below.heap_alloc _ _ _ (by simp [hs])).trans n1)
  · exact (Below.heap_alloc _ _ _ (by simp [hs])).trans n2

theorem zeros_flat (k : Nat) : ((List.replicate k (List.replicate 64 (0 : Int))).map secCells).flatten = List.replicate (k * 64) (.int .u8 0) := by
  rw [List.map_replicate, show secCells (List.replicate 64 (0 : Int)) = List.replicate 64 (.int .u8 0) by simp [secCells, List.map_replicate, -List.reduceReplicate], List.flatten_replicate_replicate]
theorem fresh_of {w w' : World} {p k sb rb mb : Nat} (hk1 : 1 ≤ k) (hk : k ≤ 600) (hp : p < w.heap.size) (b1 : w.heap.size ≤ sb) (b2 : w.heap.size ≤ rb) (b3 : w.heap.size ≤ mb) (n1 : sb ≠ rb) (n2 : sb ≠ mb) (n3 : rb ≠ mb)
    (hb : BoxAt w' p #[.slice (some ⟨sb, 0, none⟩) k k, .slice (some ⟨rb, 0, none⟩) k k, .slice none 0 0, .map (some mb), .bool false])
    (hs : w'.heap[sb]? = some (.cells (Array.replicate (k * 64) (.int .u8 0)) 94)) (hr : w'.heap[rb]? = some (.cells (Array.replicate k (.bool false)) 4)) (hm : w'.heap[mb]? = some (.map #[] 0))
    (hK : Keep (fun b => b = p) w w') : Fresh w w' p k := by
  have lt : ∀ {b : Nat} {o : Obj}, w'.heap[b]? = some o → b < w'.heap.size := fun h => (Array.getElem?_eq_some_iff.1 h).1
  have z := zeros_flat k
  refine ⟨fun b => b = p ∨ b = sb ∨ b = rb ∨ b = mb, ⟨sb, k, rb, k, none, 0, mb, ⟨DSt.ok.new k, hk1, hk, hb, ?_, ?_, World.ownsRow_nil _ _ _ _, ?_, by omega, by omega, by omega, n1, n2, n3, by simp [Value.ownBlock], by simp [Value.ownBlock], by simp [Value.ownBlock], by simp [Value.ownBlock]⟩, .inl rfl, .inr (.inl rfl), .inr (.inr (.inl rfl)), .inr (.inr (.inr rfl)), by simp [Value.ownBlock], ?_⟩, ?_, hK⟩
  · show w'.ownsRow 0 _ 64 _ k ((List.replicate k (List.replicate 64 (0 : Int))).map secCells).flatten
    rw [z]
    refine ⟨by simp, .inr ⟨sb, k, _, rfl, Nat.zero_le _, hs, Nat.le_refl _, by unfold maxLen; omega, by simp, by simp⟩⟩
  · refine ⟨by simp [DSt.new], .inr ⟨rb, k, _, rfl, Nat.zero_le _, hr, Nat.le_refl _, by unfold maxLen; omega, by simp, ?_⟩⟩
    simp [DSt.new]
  · exact ⟨[], ⟨by simp, #[], 0, hm, by simp, by simp, by simp⟩, fun k => rfl⟩
  · rintro b (rfl | rfl | rfl | rfl)
    · exact hb.lt
    · exact lt hs
    · exact lt hr
    · exact lt hm
  · rintro b (rfl | rfl | rfl | rfl)
    · exact .inl rfl
    · exact .inr b1
    · exact .inr b2
    · exact .inr b3
section
variable {w : World} {p k : Nat} {v0 v1 v2 v3 v4 : Value} (h : BoxAt w p #[v0, v1, v2, v3, v4]) (hk1 : 1 ≤ k) (hk : k ≤ 600)
include h hk1 hk
theorem fresh_srm : Fresh w ((((((((w.setCell ⟨p, 0, none⟩ (.slice (some ⟨w.heap.size, 0, none⟩) k k)).setCell ⟨p, 1, none⟩ (.slice (some ⟨(w.heap.size + 1), 0, none⟩) k k)).setCell ⟨p, 2, none⟩ (.slice none 0 0)).setCell ⟨p, 3, none⟩ (.map (some (w.heap.size + 1 + 1)))).setCell ⟨p, 4, none⟩ (.bool false)).alloc (Obj.cells (Array.replicate (k * 64) (.int .u8 0)) 94)).alloc (Obj.cells (Array.replicate k (.bool false)) 4)).alloc (Obj.map #[] 0)).drew p k := by
  have T := three_of h (.slice (some ⟨w.heap.size, 0, none⟩) k k) (.slice (some ⟨(w.heap.size + 1), 0, none⟩) k k) (.slice none 0 0) (.map (some (w.heap.size + 1 + 1))) (.bool false) (Obj.cells (Array.replicate (k * 64) (.int .u8 0)) 94) (Obj.cells (Array.replicate k (.bool false)) 4) (Obj.map #[] 0)
  have hp := h.lt
  exact fresh_of hk1 hk hp (by omega) (by omega) (by omega) (by omega) (by omega) (by omega) T.box T.h1 T.h2 T.h3 T.keep
theorem fresh_smr : Fresh w ((((((((w.setCell ⟨p, 0, none⟩ (.slice (some ⟨w.heap.size, 0, none⟩) k k)).setCell ⟨p, 1, none⟩ (.slice (some ⟨(w.heap.size + 1 + 1), 0, none⟩) k k)).setCell ⟨p, 2, none⟩ (.slice none 0 0)).setCell ⟨p, 3, none⟩ (.map (some (w.heap.size + 1)))).setCell ⟨p, 4, none⟩ (.bool false)).alloc (Obj.cells (Array.replicate (k * 64) (.int .u8 0)) 94)).alloc (Obj.map #[] 0)).alloc (Obj.cells (Array.replicate k (.bool false)) 4)).drew p k := by
  have T := three_of h (.slice (some ⟨w.heap.size, 0, none⟩) k k) (.slice (some ⟨(w.heap.size + 1 + 1), 0, none⟩) k k) (.slice none 0 0) (.map (some (w.heap.size + 1))) (.bool false) (Obj.cells (Array.replicate (k * 64) (.int .u8 0)) 94) (Obj.map #[] 0) (Obj.cells (Array.replicate k (.bool false)) 4)
  have hp := h.lt
  exact fresh_of hk1 hk hp (by omega) (by omega) (by omega) (by omega) (by omega) (by omega) T.box T.h1 T.h3 T.h2 T.keep
theorem fresh_rsm : Fresh w ((((((((w.setCell ⟨p, 0, none⟩ (.slice (some ⟨(w.heap.size + 1), 0, none⟩) k k)).setCell ⟨p, 1, none⟩ (.slice (some ⟨w.heap.size, 0, none⟩) k k)).setCell ⟨p, 2, none⟩ (.slice none 0 0)).setCell ⟨p, 3, none⟩ (.map (some (w.heap.size + 1 + 1)))).setCell ⟨p, 4, none⟩ (.bool false)).alloc (Obj.cells (Array.replicate k (.bool false)) 4)).alloc (Obj.cells (Array.replicate (k * 64) (.int .u8 0)) 94)).alloc (Obj.map #[] 0)).drew p k := by
  have T := three_of h (.slice (some ⟨(w.heap.size + 1), 0, none⟩) k k) (.slice (some ⟨w.heap.size, 0, none⟩) k k) (.slice none 0 0) (.map (some (w.heap.size + 1 + 1))) (.bool false) (Obj.cells (Array.replicate k (.bool false)) 4) (Obj.cells (Array.replicate (k * 64) (.int .u8 0)) 94) (Obj.map #[] 0)
  have hp := h.lt
  exact fresh_of hk1 hk hp (by omega) (by omega) (by omega) (by omega) (by omega) (by omega) T.box T.h2 T.h1 T.h3 T.keep
theorem fresh_rms : Fresh w ((((((((w.setCell ⟨p, 0, none⟩ (.slice (some ⟨(w.heap.size + 1 + 1), 0, none⟩) k k)).setCell ⟨p, 1, none⟩ (.slice (some ⟨w.heap.size, 0, none⟩) k k)).setCell ⟨p, 2, none⟩ (.slice none 0 0)).setCell ⟨p, 3, none⟩ (.map (some (w.heap.size + 1)))).setCell ⟨p, 4, none⟩ (.bool false)).alloc (Obj.cells (Array.replicate k (.bool false)) 4)).alloc (Obj.map #[] 0)).alloc (Obj.cells (Array.replicate (k * 64) (.int .u8 0)) 94)).drew p k := by
  have T := three_of h (.slice (some ⟨(w.heap.size + 1 + 1), 0, none⟩) k k) (.slice (some ⟨w.heap.size, 0, none⟩) k k) (.slice none 0 0) (.map (some (w.heap.size + 1))) (.bool false) (Obj.cells (Array.replicate k (.bool false)) 4) (Obj.map #[] 0) (Obj.cells (Array.replicate (k * 64) (.int .u8 0)) 94)
  have hp := h.lt
  exact fresh_of hk1 hk hp (by omega) (by omega) (by omega) (by omega) (by omega) (by omega) T.box T.h3 T.h1 T.h2 T.keep
theorem fresh_msr : Fresh w ((((((((w.setCell ⟨p, 0, none⟩ (.slice (some ⟨(w.heap.size + 1), 0, none⟩) k k)).setCell ⟨p, 1, none⟩ (.slice (some ⟨(w.heap.size + 1 + 1), 0, none⟩) k k)).setCell ⟨p, 2, none⟩ (.slice none 0 0)).setCell ⟨p, 3, none⟩ (.map (some w.heap.size))).setCell ⟨p, 4, none⟩ (.bool false)).alloc (Obj.map #[] 0)).alloc (Obj.cells (Array.replicate (k * 64) (.int .u8 0)) 94)).alloc (Obj.cells (Array.replicate k (.bool false)) 4)).drew p k := by
  have T := three_of h (.slice (some ⟨(w.heap.size + 1), 0, none⟩) k k) (.slice (some ⟨(w.heap.size + 1 + 1), 0, none⟩) k k) (.slice none 0 0) (.map (some w.heap.size)) (.bool false) (Obj.map #[] 0) (Obj.cells (Array.replicate (k * 64) (.int .u8 0)) 94) (Obj.cells (Array.replicate k (.bool false)) 4)
  have hp := h.lt
  exact fresh_of hk1 hk hp (by omega) (by omega) (by omega) (by omega) (by omega) (by omega) T.box T.h2 T.h3 T.h1 T.keep
theorem fresh_mrs : Fresh w ((((((((w.setCell ⟨p, 0, none⟩ (.slice (some ⟨(w.heap.size + 1 + 1), 0, none⟩) k k)).setCell ⟨p, 1, none⟩ (.slice (some ⟨(w.heap.size + 1), 0, none⟩) k k)).setCell ⟨p, 2, none⟩ (.slice none 0 0)).setCell ⟨p, 3, none⟩ (.map (some w.heap.size))).setCell ⟨p, 4, none⟩ (.bool false)).alloc (Obj.map #[] 0)).alloc (Obj.cells (Array.replicate k (.bool false)) 4)).alloc (Obj.cells (Array.replicate (k * 64) (.int .u8 0)) 94)).drew p k := by
  have T := three_of h (.slice (some ⟨(w.heap.size + 1 + 1), 0, none⟩) k k) (.slice (some ⟨(w.heap.size + 1), 0, none⟩) k k) (.slice none 0 0) (.map (some w.heap.size)) (.bool false) (Obj.map #[] 0) (Obj.cells (Array.replicate k (.bool false)) 4) (Obj.cells (Array.replicate (k * 64) (.int .u8 0)) 94)
  have hp := h.lt
  exact fresh_of hk1 hk hp (by omega) (by omega) (by omega) (by omega) (by omega) (by omega) T.box T.h3 T.h2 T.h1 T.keep
end

set_option maxRecDepth 100000 in
set_option maxHeartbeats 4000000 in
theorem empty_any (p k : Nat) (hk1 : 1 ≤ k) (hk : k ≤ 600) (w : World) (v0 v1 v2 v3 v4 : Value) (h : Hid (BoxAt w p #[v0, v1, v2, v3, v4])) :
    Calls Try.prog 54 #[.pointer (some ⟨p, 0, none⟩), .int .i64 k] w fun e w' => e = .returned (.tuple #[]) ∧ Fresh w w' p k := by
  have m1 := makeSec k hk
  have m2 := makeBools k hk
  have m3 := @run_makeMap Try.prog
  have q0 : w.cell? ⟨p, 0, none⟩ = some v0 := h.out.cell 0
  have q1 : w.cell? ⟨p, 1, none⟩ = some v1 := h.out.cell 1
  have q2 : w.cell? ⟨p, 2, none⟩ = some v2 := h.out.cell 2
  have q3 : w.cell? ⟨p, 3, none⟩ = some v3 := h.out.cell 3
  have q4 : w.cell? ⟨p, 4, none⟩ = some v4 := h.out.cell 4
  have z0 := h.out.frozen 0; have z1 := h.out.frozen 1; have z2 := h.out.frozen 2; have z3 := h.out.frozen 3; have z4 := h.out.frozen 4
  have hp := h.out.lt
  have hp0 : ¬ p = w.heap.size := by omega
  have hp1 : ¬ p = w.heap.size + 1 := by omega
  have hp2 : ¬ p = w.heap.size + 1 + 1 := by omega
  have hp3 : ¬ p = w.heap.size + 2 := by omega
  have hq0 : p < w.heap.size + 1 := by omega
  have hq1 : p < w.heap.size + 1 + 1 := by omega
  go_enter Try.func54, Try.ntmps54
  go_region
  all_goals go_wp2_with fail

  all_goals go_end0
  · exact ⟨rfl, fresh_srm h.out hk1 hk⟩
  · exact ⟨rfl, fresh_smr h.out hk1 hk⟩
  · exact ⟨rfl, fresh_rsm h.out hk1 hk⟩
  · exact ⟨rfl, fresh_rms h.out hk1 hk⟩
  · exact ⟨rfl, fresh_msr h.out hk1 hk⟩
  · exact ⟨rfl, fresh_mrs h.out hk1 hk⟩
end Go.Proofs.Ytolmpopjonkfgaa
