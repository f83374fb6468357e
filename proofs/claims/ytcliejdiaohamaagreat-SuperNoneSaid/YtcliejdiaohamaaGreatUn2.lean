/-
  empty.
  New, Fail, Replace.
  Rot, Rotten.
  What the laws need of the states, of bytes as text, and the example of the page.
  DriveKeeps, walked.
  Arguments as readings; the last step of a law's proof.
  Puts and bools among the arguments.
  DriveRots, walked.
  What a drive does, whatever it is asked: Stored; Write, Rot, Flush, Rotten of any drive.
  Copy.
  The drive: Rot and Flush, whatever is asked; Rotten of a dead drive.
  Drives side by side: how they lie.
  Drives side by side: one drive.
  Drives side by side: what changes one; how many answers are so.
  Drives side by side: what one is asked; how many aren't dead; all flushed.
  Drives side by side: Flush.
  Drives side by side: Crash, PutRow.
  Drives side by side: Row.
  Drives side by side: New.
  The document's drive: its state as lists, in memory; New, has, Fail, Replace.
  Drives side by side: Copy.
  Drives side by side: the example of the page.
  sync.Once: done for the first time, by one goroutine, the lock free: the function is called in between; done already: nothing changes.
  sync.Once, the slow road, and Do.
  The field of 256: plain.
  The field of 256: inverses.
  The field's tables, and how they are filled.
-/
import Derived.Test.YtcliejdiaohamaaGreatUn1
import Derived.Deep.RegionHeld3
import Derived.Laws.BytesArg
import Derived.ProofKit
import Derived.OpenShut
import Derived.Deep.Slices
import Derived.Deep.Fields
import Derived.Carry
import Derived.ChangeSame
import Derived.Deep.LoopGhost
import Derived.Maps.RangeWalk
import Derived.Test.YtcliejdiaohamaaGreatRows
import Derived.Defers
import Derived.Laws.Pointers
import Derived.Laws.LoneSync
import Derived.RegionTactic
import Derived.RegionCalls
import Derived.ChangeAlike
import Derived.Laws.NewBlocks
import Derived.Deep.DeepMust
import Derived.Deep.RegionLaw
import Derived.IntWalk
set_option linter.unusedSimpArgs false
set_option linter.unusedVariables false
namespace Go.Proofs.YtcliejdiaohamaaGreat
open Go.RowKit Go.Cib
attribute [local go_sem] cell_set Later.cell Later.frozen Grw.cell Grw.frozen

theorem madeCells_rep (v : Value) (s n : Nat) (hs : 0 < s) : madeCells (Array.replicate s v) n = Array.replicate n v := by
  apply Array.ext
  · simp [madeCells]
  · intro i h1 h2
    simp [madeCells, Nat.mod_lt _ hs]

def secZero : Value := .agg (Array.replicate 64 (.int .u8 0))
theorem secInfo0 : (Tryz.prog.info? 285).map (fun i => (i.zero, i.size, i.bytes)) = some (some secZero, 64, 64) := by kernel_rfl
theorem makeSec (k : Nat) (hk : k ≤ 600) (w : World) : (Instr.makeSlice 254 (.int .i64 (k : Int)) (.int .i64 (k : Int))).run Tryz.prog w = .ok (.slice (some ⟨w.heap.size, 0, none⟩) k k) (w.alloc (.cells (Array.replicate (k * 64) (.int .u8 0)) 285)) := by
  obtain ⟨i, hi, hz, hs, hb⟩ := info_parts secInfo0
  have h := run_make (P := Tryz.prog) w 254 285 i secZero (by kernel_rfl) hi hz .i64 .i64 k k (by omega) (by omega) (by rw [hb]; omega) (by omega)
  simp only [Int.toNat_natCast, hs] at h
  rw [h, show secZero.cells = Array.replicate 64 (.int .u8 0) from rfl, madeCells_rep _ _ _ (by omega)]
theorem boolInfo : (Tryz.prog.info? 4).map (fun i => (i.zero, i.size, i.bytes)) = some (some (.bool false), 1, 1) := by kernel_rfl
theorem makeBools (k : Nat) (hk : k ≤ 600) (w : World) : (Instr.makeSlice 45 (.int .i64 (k : Int)) (.int .i64 (k : Int))).run Tryz.prog w = .ok (.slice (some ⟨w.heap.size, 0, none⟩) k k) (w.alloc (.cells (Array.replicate k (.bool false)) 4)) := by
  obtain ⟨i, hi, hz, hs, hb⟩ := info_parts boolInfo
  have h := run_make (P := Tryz.prog) w 45 4 i (.bool false) (by kernel_rfl) hi hz .i64 .i64 k k (by omega) (by omega) (by rw [hb]; omega) (by omega)
  simp only [Int.toNat_natCast, hs, Nat.mul_one] at h
  rw [h, show (Value.bool false).cells = Array.replicate 1 (.bool false) from rfl, madeCells_rep _ _ _ (by omega)]

/-- A drive as new, at p. -/
def Fresh (w w' : World) (p k : Nat) : Prop := ∃ F', DrvAt F' w' p k (DSt.new k) ∧ (∀ b, F' b → b = p ∨ w.heap.size ≤ b) ∧ Keep (fun b => b = p) w w'

structure Three (w w' : World) (p : Nat) (cs : Array Value) (o1 o2 o3 : Obj) : Prop where
  h1 : w'.heap[w.heap.size]? = some o1
  h2 : w'.heap[w.heap.size + 1]? = some o2
  h3 : w'.heap[w.heap.size + 1 + 1]? = some o3
  box : BoxAt w' p cs
  keep : Keep (fun b => b = p) w w'
  size : w'.heap.size = w.heap.size + 1 + 1 + 1

theorem three_of {w : World} {p : Nat} {v0 v1 v2 v3 v4 : Value} (h : BoxAt w p #[v0, v1, v2, v3, v4]) (a0 a1 a2 a3 a4 : Value) (o1 o2 o3 : Obj) :
    Three w ((((((((w.setCell ⟨p, 0, none⟩ a0).setCell ⟨p, 1, none⟩ a1).setCell ⟨p, 2, none⟩ a2).setCell ⟨p, 3, none⟩ a3).setCell ⟨p, 4, none⟩ a4).alloc o1).alloc o2).alloc o3).drew p #[a0, a1, a2, a3, a4] o1 o2 o3 := by
  obtain ⟨W, hW⟩ : ∃ W, ((((w.setCell ⟨p, 0, none⟩ a0).setCell ⟨p, 1, none⟩ a1).setCell ⟨p, 2, none⟩ a2).setCell ⟨p, 3, none⟩ a3).setCell ⟨p, 4, none⟩ a4 = W := ⟨_, rfl⟩
  have hb : BoxAt W p #[a0, a1, a2, a3, a4] := by rw [← hW]; exact ((((h.set 0 a0).set 1 a1).set 2 a2).set 3 a3).set 4 a4
  have hk : Keep (fun b => b = p) w W := by rw [← hW]; exact (((((Keep.refl (fun b => b = p) w).setCell (p := ⟨p, 0, none⟩) (fun _ => rfl) a0).setCell (p := ⟨p, 1, none⟩) (fun _ => rfl) a1).setCell (p := ⟨p, 2, none⟩) (fun _ => rfl) a2).setCell (p := ⟨p, 3, none⟩) (fun _ => rfl) a3).setCell (p := ⟨p, 4, none⟩) (fun _ => rfl) a4
  have hs : W.heap.size = w.heap.size := by rw [← hW]; simp
  rw [hW]
  have e1 : (W.alloc o1).heap.size = W.heap.size + 1 := by simp
  have e2 : ((W.alloc o1).alloc o2).heap.size = W.heap.size + 1 + 1 := by simp
  have n1 := heap_alloc_new W o1
  have n2 := heap_alloc_new (W.alloc o1) o2
  have n3 := heap_alloc_new ((W.alloc o1).alloc o2) o3
  rw [e1] at n2; rw [e2] at n3
  rw [hs] at n1 n2 n3
  refine ⟨?_, ?_, n3, ((hb.alloc o1).alloc o2).alloc o3, (((hk.alloc o1).alloc o2).alloc o3).trans (G := fun _ => False) ⟨rfl, rfl, rfl, Nat.le_refl _, fun _ _ _ => rfl⟩ (fun _ h => h.elim), by simp [hs]⟩
  · exact (Below.heap_alloc _ _ _ (by simp [hs]; omega)).trans ((Below.heap_alloc _ _ _ (by simp [hs])).trans n1)
  · exact (Below.heap_alloc _ _ _ (by simp [hs])).trans n2

theorem zeros_flat (k : Nat) : ((List.replicate k (List.replicate 64 (0 : Int))).map secCells).flatten = List.replicate (k * 64) (.int .u8 0) := by
  rw [List.map_replicate, show secCells (List.replicate 64 (0 : Int)) = List.replicate 64 (.int .u8 0) by simp [secCells, List.map_replicate, -List.reduceReplicate], List.flatten_replicate_replicate]
theorem fresh_of {w w' : World} {p k sb rb mb : Nat} (hk1 : 1 ≤ k) (hk : k ≤ 600) (hp : p < w.heap.size) (b1 : w.heap.size ≤ sb) (b2 : w.heap.size ≤ rb) (b3 : w.heap.size ≤ mb) (n1 : sb ≠ rb) (n2 : sb ≠ mb) (n3 : rb ≠ mb)
    (hb : BoxAt w' p #[.slice (some ⟨sb, 0, none⟩) k k, .slice (some ⟨rb, 0, none⟩) k k, .slice none 0 0, .map (some mb), .bool false])
    (hs : w'.heap[sb]? = some (.cells (Array.replicate (k * 64) (.int .u8 0)) 285)) (hr : w'.heap[rb]? = some (.cells (Array.replicate k (.bool false)) 4)) (hm : w'.heap[mb]? = some (.map #[] 0))
    (hK : Keep (fun b => b = p) w w') : Fresh w w' p k := by
  have lt : ∀ {b : Nat} {o : Obj}, w'.heap[b]? = some o → b < w'.heap.size := fun h => (Array.getElem?_eq_some_iff.1 h).1
  have z := zeros_flat k
  refine ⟨fun b => b = p ∨ b = sb ∨ b = rb ∨ b = mb, ⟨sb, k, rb, k, none, 0, mb, ⟨DSt.ok.new k, hk1, hk, hb, ?_, ?_, World.ownsRow_nil _ _ _ _, ?_, by omega, by omega, by omega, n1, n2, n3, by simp [Value.ownBlock], by simp [Value.ownBlock], by simp [Value.ownBlock], by simp [Value.ownBlock]⟩, .inl rfl, .inr (.inl rfl), .inr (.inr (.inl rfl)), .inr (.inr (.inr rfl)), by simp [Value.ownBlock], ?_⟩, ?_, hK⟩
  · show w'.ownsRow 0 _ 64 _ k ((List.replicate k (List.replicate 64 (0 : Int))).map secCells).flatten
    rw [z]
    refine ⟨by simp, .inr ⟨sb, k, _, rfl, Nat.zero_le _, hs, Nat.le_refl _, by unfold maxLen; omega, by simp, by simp⟩⟩
  · refine ⟨by simp [DSt.new], .inr ⟨rb, k, _, rfl, Nat.zero_le _, hr, Nat.le_refl _, by unfold maxLen; omega, by simp, ?_⟩⟩
    simp [DSt.new]
  · exact ⟨[], ⟨by simp, #[], 0, hm, by simp, by simp, by simp⟩, fun k => rfl⟩
  · rintro b (rfl | rfl | rfl | rfl)
    · exact hb.lt
    · exact lt hs
    · exact lt hr
    · exact lt hm
  · rintro b (rfl | rfl | rfl | rfl)
    · exact .inl rfl
    · exact .inr b1
    · exact .inr b2
    · exact .inr b3
section
variable {w : World} {p k : Nat} {v0 v1 v2 v3 v4 : Value} (h : BoxAt w p #[v0, v1, v2, v3, v4]) (hk1 : 1 ≤ k) (hk : k ≤ 600)
include h hk1 hk
theorem fresh_srm : Fresh w ((((((((w.setCell ⟨p, 0, none⟩ (.slice (some ⟨w.heap.size, 0, none⟩) k k)).setCell ⟨p, 1, none⟩ (.slice (some ⟨(w.heap.size + 1), 0, none⟩) k k)).setCell ⟨p, 2, none⟩ (.slice none 0 0)).setCell ⟨p, 3, none⟩ (.map (some (w.heap.size + 1 + 1)))).setCell ⟨p, 4, none⟩ (.bool false)).alloc (Obj.cells (Array.replicate (k * 64) (.int .u8 0)) 285)).alloc (Obj.cells (Array.replicate k (.bool false)) 4)).alloc (Obj.map #[] 0)).drew p k := by
  have T := three_of h (.slice (some ⟨w.heap.size, 0, none⟩) k k) (.slice (some ⟨(w.heap.size + 1), 0, none⟩) k k) (.slice none 0 0) (.map (some (w.heap.size + 1 + 1))) (.bool false) (Obj.cells (Array.replicate (k * 64) (.int .u8 0)) 285) (Obj.cells (Array.replicate k (.bool false)) 4) (Obj.map #[] 0)
  have hp := h.lt
  exact fresh_of hk1 hk hp (by omega) (by omega) (by omega) (by omega) (by omega) (by omega) T.box T.h1 T.h2 T.h3 T.keep
theorem fresh_smr : Fresh w ((((((((w.setCell ⟨p, 0, none⟩ (.slice (some ⟨w.heap.size, 0, none⟩) k k)).setCell ⟨p, 1, none⟩ (.slice (some ⟨(w.heap.size + 1 + 1), 0, none⟩) k k)).setCell ⟨p, 2, none⟩ (.slice none 0 0)).setCell ⟨p, 3, none⟩ (.map (some (w.heap.size + 1)))).setCell ⟨p, 4, none⟩ (.bool false)).alloc (Obj.cells (Array.replicate (k * 64) (.int .u8 0)) 285)).alloc (Obj.map #[] 0)).alloc (Obj.cells (Array.replicate k (.bool false)) 4)).drew p k := by
  have T := three_of h (.slice (some ⟨w.heap.size, 0, none⟩) k k) (.slice (some ⟨(w.heap.size + 1 + 1), 0, none⟩) k k) (.slice none 0 0) (.map (some (w.heap.size + 1))) (.bool false) (Obj.cells (Array.replicate (k * 64) (.int .u8 0)) 285) (Obj.map #[] 0) (Obj.cells (Array.replicate k (.bool false)) 4)
  have hp := h.lt
  exact fresh_of hk1 hk hp (by omega) (by omega) (by omega) (by omega) (by omega) (by omega) T.box T.h1 T.h3 T.h2 T.keep
theorem fresh_rsm : Fresh w ((((((((w.setCell ⟨p, 0, none⟩ (.slice (some ⟨(w.heap.size + 1), 0, none⟩) k k)).setCell ⟨p, 1, none⟩ (.slice (some ⟨w.heap.size, 0, none⟩) k k)).setCell ⟨p, 2, none⟩ (.slice none 0 0)).setCell ⟨p, 3, none⟩ (.map (some (w.heap.size + 1 + 1)))).setCell ⟨p, 4, none⟩ (.bool false)).alloc (Obj.cells (Array.replicate k (.bool false)) 4)).alloc (Obj.cells (Array.replicate (k * 64) (.int .u8 0)) 285)).alloc (Obj.map #[] 0)).drew p k := by
  have T := three_of h (.slice (some ⟨(w.heap.size + 1), 0, none⟩) k k) (.slice (some ⟨w.heap.size, 0, none⟩) k k) (.slice none 0 0) (.map (some (w.heap.size + 1 + 1))) (.bool false) (Obj.cells (Array.replicate k (.bool false)) 4) (Obj.cells (Array.replicate (k * 64) (.int .u8 0)) 285) (Obj.map #[] 0)
  have hp := h.lt
  exact fresh_of hk1 hk hp (by omega) (by omega) (by omega) (by omega) (by omega) (by omega) T.box T.h2 T.h1 T.h3 T.keep
theorem fresh_rms : Fresh w ((((((((w.setCell ⟨p, 0, none⟩ (.slice (some ⟨(w.heap.size + 1 + 1), 0, none⟩) k k)).setCell ⟨p, 1, none⟩ (.slice (some ⟨w.heap.size, 0, none⟩) k k)).setCell ⟨p, 2, none⟩ (.slice none 0 0)).setCell ⟨p, 3, none⟩ (.map (some (w.heap.size + 1)))).setCell ⟨p, 4, none⟩ (.bool false)).alloc (Obj.cells (Array.replicate k (.bool false)) 4)).alloc (Obj.map #[] 0)).alloc (Obj.cells (Array.replicate (k * 64) (.int .u8 0)) 285)).drew p k := by
  have T := three_of h (.slice (some ⟨(w.heap.size + 1 + 1), 0, none⟩) k k) (.slice (some ⟨w.heap.size, 0, none⟩) k k) (.slice none 0 0) (.map (some (w.heap.size + 1))) (.bool false) (Obj.cells (Array.replicate k (.bool false)) 4) (Obj.map #[] 0) (Obj.cells (Array.replicate (k * 64) (.int .u8 0)) 285)
  have hp := h.lt
  exact fresh_of hk1 hk hp (by omega) (by omega) (by omega) (by omega) (by omega) (by omega) T.box T.h3 T.h1 T.h2 T.keep
theorem fresh_msr : Fresh w ((((((((w.setCell ⟨p, 0, none⟩ (.slice (some ⟨(w.heap.size + 1), 0, none⟩) k k)).setCell ⟨p, 1, none⟩ (.slice (some ⟨(w.heap.size + 1 + 1), 0, none⟩) k k)).setCell ⟨p, 2, none⟩ (.slice none 0 0)).setCell ⟨p, 3, none⟩ (.map (some w.heap.size))).setCell ⟨p, 4, none⟩ (.bool false)).alloc (Obj.map #[] 0)).alloc (Obj.cells (Array.replicate (k * 64) (.int .u8 0)) 285)).alloc (Obj.cells (Array.replicate k (.bool false)) 4)).drew p k := by
  have T := three_of h (.slice (some ⟨(w.heap.size + 1), 0, none⟩) k k) (.slice (some ⟨(w.heap.size + 1 + 1), 0, none⟩) k k) (.slice none 0 0) (.map (some w.heap.size)) (.bool false) (Obj.map #[] 0) (Obj.cells (Array.replicate (k * 64) (.int .u8 0)) 285) (Obj.cells (Array.replicate k (.bool false)) 4)
  have hp := h.lt
  exact fresh_of hk1 hk hp (by omega) (by omega) (by omega) (by omega) (by omega) (by omega) T.box T.h2 T.h3 T.h1 T.keep
theorem fresh_mrs : Fresh w ((((((((w.setCell ⟨p, 0, none⟩ (.slice (some ⟨(w.heap.size + 1 + 1), 0, none⟩) k k)).setCell ⟨p, 1, none⟩ (.slice (some ⟨(w.heap.size + 1), 0, none⟩) k k)).setCell ⟨p, 2, none⟩ (.slice none 0 0)).setCell ⟨p, 3, none⟩ (.map (some w.heap.size))).setCell ⟨p, 4, none⟩ (.bool false)).alloc (Obj.map #[] 0)).alloc (Obj.cells (Array.replicate k (.bool false)) 4)).alloc (Obj.cells (Array.replicate (k * 64) (.int .u8 0)) 285)).drew p k := by
  have T := three_of h (.slice (some ⟨(w.heap.size + 1 + 1), 0, none⟩) k k) (.slice (some ⟨(w.heap.size + 1), 0, none⟩) k k) (.slice none 0 0) (.map (some w.heap.size)) (.bool false) (Obj.map #[] 0) (Obj.cells (Array.replicate k (.bool false)) 4) (Obj.cells (Array.replicate (k * 64) (.int .u8 0)) 285)
  have hp := h.lt
  exact fresh_of hk1 hk hp (by omega) (by omega) (by omega) (by omega) (by omega) (by omega) T.box T.h3 T.h2 T.h1 T.keep
end

set_option maxRecDepth 100000 in
set_option maxHeartbeats 4000000 in
theorem empty_any (p k : Nat) (hk1 : 1 ≤ k) (hk : k ≤ 600) (w : World) (v0 v1 v2 v3 v4 : Value) (h : Hid (BoxAt w p #[v0, v1, v2, v3, v4])) :
    Calls Tryz.prog 157 #[.pointer (some ⟨p, 0, none⟩), .int .i64 k] w fun e w' => e = .returned (.tuple #[]) ∧ Fresh w w' p k := by
  have m1 := makeSec k hk
  have m2 := makeBools k hk
  have m3 := @run_makeMap Tryz.prog
  have q0 : w.cell? ⟨p, 0, none⟩ = some v0 := h.out.cell 0
  have q1 : w.cell? ⟨p, 1, none⟩ = some v1 := h.out.cell 1
  have q2 : w.cell? ⟨p, 2, none⟩ = some v2 := h.out.cell 2
  have q3 : w.cell? ⟨p, 3, none⟩ = some v3 := h.out.cell 3
  have q4 : w.cell? ⟨p, 4, none⟩ = some v4 := h.out.cell 4
  have z0 := h.out.frozen 0; have z1 := h.out.frozen 1; have z2 := h.out.frozen 2; have z3 := h.out.frozen 3; have z4 := h.out.frozen 4
  have hp := h.out.lt
  have hp0 : ¬ p = w.heap.size := by omega
  have hp1 : ¬ p = w.heap.size + 1 := by omega
  have hp2 : ¬ p = w.heap.size + 1 + 1 := by omega
  have hp3 : ¬ p = w.heap.size + 2 := by omega
  have hq0 : p < w.heap.size + 1 := by omega
  have hq1 : p < w.heap.size + 1 + 1 := by omega
  go_enter Tryz.func157, Tryz.ntmps157
  go_region
  all_goals go_wp2_with fail

  all_goals go_end0
  · exact ⟨rfl, fresh_srm h.out hk1 hk⟩
  · exact ⟨rfl, fresh_smr h.out hk1 hk⟩
  · exact ⟨rfl, fresh_rsm h.out hk1 hk⟩
  · exact ⟨rfl, fresh_rms h.out hk1 hk⟩
  · exact ⟨rfl, fresh_msr h.out hk1 hk⟩
  · exact ⟨rfl, fresh_mrs h.out hk1 hk⟩
end Go.Proofs.YtcliejdiaohamaaGreat

set_option linter.unusedSimpArgs false
set_option linter.unusedVariables false
namespace Go.Proofs.YtcliejdiaohamaaGreat
open Go.RowKit Go.Cib
attribute [local go_sem] cell_set Later.cell Later.frozen Grw.cell Grw.frozen

set_option maxRecDepth 100000 in
theorem new_good (n : Nat) (h1 : 1 ≤ n) (h2 : n ≤ 600) (w : World) :
    Calls Tryz.prog 142 #[.int .i64 n] w fun e w' => ∃ p F, e = .returned (.pointer (some ⟨p, 0, none⟩)) ∧ DrvAt F w' p n (DSt.new n) ∧ (∀ b, F b → w.heap.size ≤ b) ∧ Below w.heap.size w w' := by
  go_enter Tryz.func142, Tryz.ntmps142
  go_wp2_with fail
  have hb := BoxAt.new w #[.slice none 0 0, .slice none 0 0, .slice none 0 0, .map none, .bool false] 258
  refine (empty_any w.heap.size n h1 h2 _ _ _ _ _ _ (Lib.hid hb)).mono ?_
  rintro e w1 ⟨rfl, F', hD, hF, hK⟩
  have hb1 : Below w.heap.size w w1 := ((Below.refl w.heap.size w).alloc (Nat.le_refl _) _).trans (hK.below (B := w.heap.size) (by simp) (by rintro k rfl; exact Nat.le_refl _))
  have hF2 : ∀ b, F' b → w.heap.size ≤ b := fun b h => by
    rcases hF b h with h | h
    · omega
    · simp at h; omega
  clear hK hb hF
  go_wp2_with fail
  go_ret
  exact ⟨_, F', rfl, hD, hF2, hb1⟩

theorem DrvAt.at_ {F : Nat → Prop} {w : World} {p n : Nat} {st : DSt} (h : DrvAt F w p n st) : F p ∧ 1 ≤ n ∧ n ≤ 600 := by
  obtain ⟨sb, sc, rb, rc, A, cc, mb, hB, f1, _⟩ := h
  exact ⟨f1, hB.n1, hB.n600⟩
theorem Upd.trans {F : Nat → Prop} {w w1 w2 : World} {p n : Nat} {st : DSt} (hK : Keep F w w1) (h : Upd F w1 w2 p n st) : Upd F w w2 p n st := by
  obtain ⟨F', hD, hF, hK2⟩ := h
  exact ⟨F', hD, fun k hk hlt => hF k hk (Nat.lt_of_lt_of_le hlt hK.size), hK.trans hK2 (fun k h _ => h)⟩

def DSt.gone (n : Nat) : DSt := { DSt.new n with dead := true }

end Go.Proofs.YtcliejdiaohamaaGreat

set_option linter.unusedSimpArgs false
set_option linter.unusedVariables false
namespace Go.Proofs.YtcliejdiaohamaaGreat
open Go.RowKit Go.Cib
attribute [local go_sem] cell_set Later.cell Later.frozen Grw.cell Grw.frozen

/-- One byte's rot. -/
def rotV (v mask : Int) (i : Nat) : Int := bits BinOp.xor IntKind.u8 v (IntKind.u8.wrap (mask / 2 ^ (8 * (i : Int)).toNat))
def rotTo (x : List Int) (off : Nat) (mask : Int) : Nat → List Int
  | 0 => x
  | i + 1 => (rotTo x off mask i).set (off + i) (rotV (((rotTo x off mask i)[off + i]?).getD 0) mask i)
def DSt.rotAt (st : DSt) (a off : Nat) (mask : Int) (i : Nat) : DSt := { st with stored := st.stored.set a (rotTo ((st.stored[a]?).getD []) off mask i) }
def DSt.rot (st : DSt) (a off : Nat) (mask : Int) : DSt := { st.rotAt a off mask 4 with rotten := st.rotten.set a true }
theorem flatten_setOne {α : Type} {s : Nat} : ∀ (css : List (List α)) (_ : ∀ cs ∈ css, cs.length = s) (i : Nat) (cs : List α) (j : Nat) (u : α), css[i]? = some cs → j < s → css.flatten.set (i * s + j) u = (css.set i (cs.set j u)).flatten
  | [], _, i, cs, j, u, h, _ => by simp at h
  | c :: css, hl, 0, cs, j, u, h, hj => by
    have h1 : c.length = s := hl c (by simp)
    simp only [List.getElem?_cons_zero, Option.some.injEq] at h
    subst h
    rw [List.flatten_cons, Nat.zero_mul, Nat.zero_add, List.set_append_left _ _ (by omega)]; rfl
  | c :: css, hl, i + 1, cs, j, u, h, hj => by
    have h1 : c.length = s := hl c (by simp)
    have ih := flatten_setOne css (fun x hx => hl x (List.mem_cons_of_mem _ hx)) i cs j u (by simpa using h) hj
    have e : (i + 1) * s + j - c.length = i * s + j := by rw [Nat.add_mul]; omega
    rw [List.flatten_cons, List.set_append_right _ _ (by rw [Nat.add_mul]; omega), e, ih]; rfl
/-- One byte of a sector is set. -/
theorem DrvB.byte {w w' : World} {p n sb sc rb rc : Nat} {A : Option Addr} {cc mb : Nat} {st : DSt} (h : DrvB w p n sb sc rb rc A cc mb st) {a j : Nat} {x : List Int} {v : Int} (ha : a < n) (hx : st.stored[a]? = some x) (hj : j < 64)
    (hw : w' = (w.setCell ⟨sb, a * 64 + j, none⟩ (.int .u8 v)).drew) : DrvB w' p n sb sc rb rc A cc mb { st with stored := st.stored.set a (x.set j v) } := by
  have hok := h.ok
  have hl : x.length = 64 := hok.s64 x (List.mem_of_getElem? hx)
  have hc64 : ∀ cs ∈ st.stored.map secCells, cs.length = 64 := fun cs hcs => by obtain ⟨y, hy, rfl⟩ := List.mem_map.1 hcs; simp [secCells, hok.s64 y hy]
  have o1 := (h.so.stored (a * 64 + j) (.int .u8 v)).1
  rw [flatten_setOne _ hc64 a (secCells x) j _ (by simp [hx]) hj] at o1
  have e1 : (secCells x).set j (.int .u8 v) = secCells (x.set j v) := by simp [secCells, List.map_set]
  rw [e1] at o1
  have hr : st.rotten.set a ((st.rotten[a]?).getD false) = st.rotten := by
    rw [List.getElem?_eq_getElem (by rw [hok.rl]; exact ha)]; simp
  have hr2 : (st.rotten.map Value.bool).set a (.bool ((st.rotten[a]?).getD false)) = st.rotten.map Value.bool := by rw [← List.map_set, hr]
  have := h.put (w' := w') (s := x.set j v) (r := (st.rotten[a]?).getD false) ha (by simp [hl]) (fun k h1 h2 => by rw [hw]; exact Below.heap_setCell _ _ _ _ h1) (by rw [hw]; exact o1) (by
    rw [hr2, hw]; exact ownsRow_keep h.ro (by rintro k ⟨⟩; exact Below.heap_setCell _ _ _ _ (fun e => h.sr e.symm)))
  rw [hr] at this
  exact this
theorem DrvB.mark {w : World} {p n sb sc rb rc : Nat} {A : Option Addr} {cc mb : Nat} {st : DSt} (h : DrvB w p n sb sc rb rc A cc mb st) {a : Nat} (ha : a < n) (r : Bool) : DrvB (w.setCell ⟨rb, a, none⟩ (.bool r)) p n sb sc rb rc A cc mb { st with rotten := st.rotten.set a r } := by
  have hok := h.ok
  have hal : a < st.stored.length := by rw [hok.sl]; exact ha
  have hs : st.stored.set a st.stored[a] = st.stored := by simp
  have hs2 : (st.stored.map secCells).set a (secCells st.stored[a]) = st.stored.map secCells := by rw [← List.map_set, hs]
  have := h.put (w' := w.setCell ⟨rb, a, none⟩ (.bool r)) (s := st.stored[a]) (r := r) ha (hok.s64 _ (List.getElem_mem _)) (fun k h1 h2 => Below.heap_setCell _ _ _ _ h2) (by
    rw [hs2]; exact ownsRow_keep h.so (by rintro k ⟨⟩; exact Below.heap_setCell _ _ _ _ h.sr)) ((h.ro.stored a (.bool r)).1)
  rw [hs] at this
  exact this

set_option maxRecDepth 100000 in
theorem write_bad {F : Nat → Prop} {w : World} {p n : Nat} {st : DSt} (h : Hid (DrvAt F w p n st)) (z : Int) (hz : readyE st.dead n z ≠ 0) (v : Value) :
    Calls Tryz.prog 246 #[.pointer (some ⟨p, 0, none⟩), .int .i64 z, v] w fun e w' => e = .returned (.int .i64 (readyE st.dead n z)) ∧ Below w.heap.size w w' := by
  obtain ⟨sb, sc, rb, rc, A, cc, mb, H⟩ := h.out.box
  go_enter Tryz.func246, Tryz.ntmps246
  go_wp2_with fail
  refine (dready_any z H).mono ?_
  rintro e w1 ⟨rfl, h1⟩
  obtain ⟨E, hE⟩ : ∃ E, readyE st.dead n z = E := ⟨_, rfl⟩
  rw [hE] at hz ⊢
  have hz2 : (E == 0) = false := by simpa using hz
  have hz3 : (E != 0) = true := by simpa using hz
  have HE := Lib.hid hE
  clear hE H
  go_wp2_with fail
  go_ret
  exact ⟨by rw [HE.out]; rfl, h1⟩
end Go.Proofs.YtcliejdiaohamaaGreat

set_option linter.unusedSimpArgs false
set_option linter.unusedVariables false
namespace Go.Proofs.YtcliejdiaohamaaGreat
open Go.RowKit Go.Cib
attribute [local go_sem] cell_set Later.cell Later.frozen Grw.cell Grw.frozen

/-! ### States -/
def rep (z : Int) : List Int := List.replicate 64 z
theorem rep_len (z : Int) : (rep z).length = 64 := by simp [rep]
theorem DSt.seen_nil {st : DSt} (h : st.cache = []) (k : Nat) : st.seen k = (st.stored[k]?).getD [] := by
  unfold DSt.seen; rw [h]; rfl
theorem DSt.seen_new {n k : Nat} (hk : k < n) : (DSt.new n).seen k = rep 0 := by
  rw [DSt.seen_nil rfl]; simp [DSt.new, hk, rep]

/-! ### Bytes as text -/
theorem not_new {F F' : Nat → Prop} {w : World} {b : Nat} (hF : ∀ k, F' k → k < w.heap.size → F k) (hb : b < w.heap.size) (h : ¬ F b) : ¬ F' b := fun h2 => h (hF b h2 hb)

theorem below_then {w0 w1 w2 : World} (h2 : Below w1.heap.size w1 w2) (h1 : Below w0.heap.size w0 w1) : Below w0.heap.size w0 w2 := h1.trans (h2.mono h1.size)
/-- The world as it is in the midst of a law, whose drive is its own. -/
structure Own (w : World) (F : Nat → Prop) (w' : World) : Prop where
  below : Below w.heap.size w w'
  own : ∀ b, F b → w.heap.size ≤ b
theorem Own.later {w w1 w2 : World} {F : Nat → Prop} (h : Own w F w1) (hb : Below w1.heap.size w1 w2) : Own w F w2 := ⟨h.below.trans (hb.mono h.below.size), h.own⟩
theorem Own.upd {w w1 w2 : World} {F F' : Nat → Prop} (h : Own w F w1) (hF : ∀ k, F' k → k < w1.heap.size → F k) (hk : Keep F w1 w2) : Own w F' w2 :=
  ⟨h.below.trans (hk.below h.below.size h.own), fun b hb => by
    by_cases hlt : b < w1.heap.size
    · exact h.own b (hF b hb hlt)
    · have := h.below.size; omega⟩

end Go.Proofs.YtcliejdiaohamaaGreat

set_option linter.unusedSimpArgs false
set_option linter.unusedVariables false
namespace Go.Proofs.YtcliejdiaohamaaGreat
open Go.RowKit Go.Cib
attribute [local go_sem] cell_set Later.cell Later.frozen Grw.cell Grw.frozen

theorem run_min_as (ts : Array TypeId) (t : TypeId) (x y : Int) (w : World) : (Builtin.min_ ts t #[.int .i64 x, .int .i64 y]).run Tryz.prog w = .ok (.int .i64 (min x y)) w := by
  rw [run_min_int2, show (if y < x then y else x) = min x y by omega]
theorem run_max_as (ts : Array TypeId) (t : TypeId) (x y : Int) (w : World) : (Builtin.max_ ts t #[.int .i64 x, .int .i64 y]).run Tryz.prog w = .ok (.int .i64 (max x y)) w := by
  rw [run_max_int2]
  congr 2
  omega
attribute [local go_sem ↓] run_min_as run_max_as

/-- A put: a place and a byte. -/
def PutR (_ : Nat → Prop) (_ : World) (cs : List Value) (x : Int × Int) : Prop := cs = [.int .i64 x.1, .int .u8 x.2]
theorem PutR.stable : Stable PutR := fun _ _ _ _ _ _ h _ => h

/-- In the midst of a law: what was noted is hl, what the drive's sectors are is sl. -/
structure Mid (w : World) (F : Nat → Prop) (wr : World) (p n hb : Nat) (st : DSt) (hl sl : List Int) : Prop where
  own : Own w F wr
  drv : DrvAt F wr p n st
  live : st.dead = false
  had : BoxAt wr hb ((hl.map (Value.int .u8)).toArray)
  len : hl.length = n
  len2 : sl.length = n
  out : ¬ F hb
  new : w.heap.size ≤ hb
  sees : ∀ k (h : k < n), st.seen k = rep (sl[k]'(by omega))

theorem Mid.later {w w1 w2 : World} {F : Nat → Prop} {p n hb : Nat} {st : DSt} {hl sl : List Int} (h : Mid w F w1 p n hb st hl sl) (hb2 : Below w1.heap.size w1 w2) : Mid w F w2 p n hb st hl sl :=
  { h with own := h.own.later hb2, drv := h.drv.below hb2, had := h.had.below hb2 }
theorem Mid.upd {w w1 w2 : World} {F F' : Nat → Prop} {p n hb : Nat} {st st' : DSt} {hl sl sl' : List Int} (h : Mid w F w1 p n hb st hl sl) (hD : DrvAt F' w2 p n st') (hF : ∀ k, F' k → k < w1.heap.size → F k) (hK : Keep F w1 w2) (hd : st'.dead = false)
    (h2 : sl'.length = n) (hs : ∀ k (h : k < n), st'.seen k = rep (sl'[k]'(by omega))) : Mid w F' w2 p n hb st' hl sl' :=
  ⟨h.own.upd hF hK, hD, hd, h.had.keeps hK h.out, h.len, h2, not_new hF h.had.lt h.out, h.new, hs⟩
theorem Mid.write {w w1 w2 : World} {F F' : Nat → Prop} {p n hb : Nat} {st : DSt} {hl sl : List Int} (h : Mid w F w1 p n hb st hl sl) {k : Nat} (hk : k < n) {z : Int} (hD : DrvAt F' w2 p n (st.write k (rep z))) (hF : ∀ k, F' k → k < w1.heap.size → F k) (hK : Keep F w1 w2) :
    Mid w F' w2 p n hb (st.write k (rep z)) hl (sl.set k z) := by
  refine h.upd hD hF hK h.live (by simp [h.len2]) (fun j hj => ?_)
  rw [DSt.seen_write]
  by_cases e : k = j
  · subst e; simp
  · have : ¬ (k : Int) = j := by omega
    simp [this, List.getElem_set_ne e, h.sees j hj]
end Go.Proofs.YtcliejdiaohamaaGreat

set_option linter.unusedSimpArgs false
set_option linter.unusedVariables false
namespace Go.Cib
open Go.RowKit Go.ChangeShapes Go.WideShapes Go.Deep

section
variable {P : Program} {X : Type}

end

section
variable {H : Type} {enc : TypeId × Value → H} {P : Program}

theorem trodAll_stays (hl : laidOutB P = true) {W W' : World} (hb : Below W.heap.size W W') : ∀ (ts : List TypeId) (vs : List Value) (ds : List (DataW H)) (ps : List MemPlace), (∀ t ∈ ts, P.readableRec t = true ∧ t < P.types.size) → (∀ x ∈ ps, x.block < W.heap.size) →
    DataW.TrodAll enc P W 0 (fun _ => true) true ts vs ds ps → DataW.TrodAll enc P W' 0 (fun b => decide (b < W.heap.size)) true ts vs ds ps
  | [], vs, ds, ps, _, _, h => by
    obtain ⟨rfl, rfl, rfl⟩ := trodAll_nil h
    exact trodAll_mk0
  | t :: ts, vs, ds, ps, hr, hlt, h => by
    obtain ⟨v, vs', d, ds', p, q, rfl, rfl, rfl, hd, hrest⟩ := trodAll_cons h
    have h1 := Below.trod hl (hr t (by simp)).1 (hr t (by simp)).2 hd hb (fun x hx => hlt x (by simp [hx]))
    have h2 := trodAll_stays hl hb ts vs' ds' q (fun u hu => hr u (List.mem_cons_of_mem _ hu)) (fun x hx => hlt x (by simp [hx])) hrest
    exact trodAll_cons_mk h1 h2

/-- The end of a law's proof: it answered true, and what was there is as it was. -/
theorem law_post {f : Func} {s : ChangeSpec} {W W' : World} {args : Array Value} {ds gs : List (DataW H)} {before : List MemPlace} {tb : TypeId} (hl : laidOutB P = true) (hr : ∀ t ∈ f.params.toList, P.readableRec t = true ∧ t < P.types.size)
    (hres : f.resultTypes = #[tb]) (htb : P.underlying tb = some .bool) (hvars : s.vars = []) (hfn : (s.fn H (ds ++ gs)).results = [.lit (.bool true)] ∧ (s.fn H (ds ++ gs)).args = ds ∧ (s.fn H (ds ++ gs)).vars = [])
    (hW : DataW.Whole enc P f.params.toList s.vars false W args.toList ds gs before) (hb : Below W.heap.size W W') :
    s.post enc P f false true false false W args (.bool true) W' := by
  have hlt : ∀ p ∈ before, p.block < W.heap.size := fun p hp => hW.lt p hp
  have hW2 := hW
  obtain ⟨p, q, hA, hV, rfl, hz, hn⟩ := hW2
  rw [hvars] at hV
  obtain ⟨rfl, rfl⟩ := trodVars_none hV
  simp only [List.append_nil] at hlt hfn hz hW ⊢
  have hargs := trodAll_stays hl hb _ _ _ _ hr hlt hA
  have hr1 : ∀ (b : Nat) (sp : Nat → Bool) (hd : Bool), DataW.TrodAll enc P W' b sp hd f.resultTypes.toList ((Value.bool true).resultList f.resultTypes.size) (s.fn H ds).results [] := fun b sp hd => by
    rw [hres, hfn.1]
    exact trodAll_mk1 (shut_bool htb true)
  refine ⟨ds, [], p, [], p, [], hW, by rw [List.append_nil]; exact hr1 _ _ _, by rw [List.append_nil, hfn.2.1]; exact hargs, by rw [List.append_nil, hvars, hfn.2.2]; exact rfl, World.keptBut_mono (fun x hx => ⟨hx, .inr (.inl hx)⟩) (hb.frame (· ∈ p)), fun h => by cases h⟩
end
end Go.Cib

set_option linter.unusedSimpArgs false
set_option linter.unusedVariables false
namespace Go.Proofs.YtcliejdiaohamaaGreat
open Go.RowKit Go.Cib
attribute [local go_sem] cell_set Later.cell Later.frozen Grw.cell Grw.frozen
open Go.ChangeShapes Go.WideShapes Go.ChangeAt Go.Deep

theorem laidOut_ : laidOutB Tryz.prog = true := by kernel_rfl
theorem ownKnob_ : ownKnob Tryz.prog.godebug = none := by kernel_rfl
end Go.Proofs.YtcliejdiaohamaaGreat

set_option linter.unusedSimpArgs false
set_option linter.unusedVariables false
namespace Go.Proofs.YtcliejdiaohamaaGreat
open Go.RowKit Go.Cib
attribute [local go_sem] cell_set Later.cell Later.frozen Grw.cell Grw.frozen

end Go.Proofs.YtcliejdiaohamaaGreat

set_option linter.unusedSimpArgs false
set_option linter.unusedVariables false
namespace Go.Proofs.YtcliejdiaohamaaGreat
open Go.RowKit Go.Cib
attribute [local go_sem] cell_set Later.cell Later.frozen Grw.cell Grw.frozen
attribute [local go_sem ↓] shut_load shut_load65 shut_zero shut_zero65 shut_store shut_store65
attribute [local go_sem] run_shutZero run_shutZero65 run_shutStore run_shutStore65 run_shutLoad_set there_new there_new65

set_option maxRecDepth 100000 in
theorem write_len {F : Nat → Prop} {w : World} {p n : Nat} {st : DSt} (h : Hid (DrvAt F w p n st)) (z : Int) (hz : readyE st.dead n z = 0) (A : Option Addr) (m c : Nat) (hm : m ≠ 64) :
    Calls Tryz.prog 246 #[.pointer (some ⟨p, 0, none⟩), .int .i64 z, .slice A m c] w fun e w' => e = .returned (.int .i64 2) ∧ Below w.heap.size w w' := by
  obtain ⟨sb, sc, rb, rc, A, cc, mb, H⟩ := h.out.box
  go_enter Tryz.func246, Tryz.ntmps246
  go_wp2_with fail
  refine (dready_any z H).mono ?_
  rintro e w1 ⟨rfl, h1⟩
  rw [hz]
  have hz2 : ((m : Int) == 64) = false := by simp; omega
  have hz3 : ((m : Int) != 64) = true := by simp; omega
  have hz4 : ¬ (m : Int) = 64 := by omega
  clear H
  go_wp2_with fail
  go_ret
  exact ⟨rfl, h1⟩

/-- Write, whatever is asked. -/
theorem write_all {F : Nat → Prop} {w : World} {p n : Nat} {st : DSt} (h : Hid (DrvAt F w p n st)) (z : Int) {S : Nat → Prop} {A : Option Addr} {m c : Nat} {bs : List Int} (hb : Hid (RdL U8R 1 S w A m bs)) (hS : ∀ b, S b → ¬ F b) (hcl : st.cache.length < 1000000) :
    Calls Tryz.prog 246 #[.pointer (some ⟨p, 0, none⟩), .int .i64 z, .slice A m c] w fun e w' => e = .returned (.int .i64 (writeE st.dead n z m)) ∧ Upd F w w' p n (if readyE st.dead n z = 0 ∧ m = 64 then st.write z bs else st) := by
  by_cases hz : readyE st.dead n z = 0
  · by_cases hm : m = 64
    · subst hm
      have hd : st.dead = false := by
        cases hdd : st.dead with
        | false => rfl
        | true => rw [hdd] at hz; simp [readyE] at hz
      have hr : 0 ≤ z ∧ z < n := by
        rw [hd] at hz
        by_cases h0 : 0 ≤ z ∧ z < n
        · exact h0
        · simp [readyE, h0] at hz
      obtain ⟨b, o, rfl, hSb, _⟩ := hb.out.addr (k := 0) (by omega)
      obtain ⟨k, rfl⟩ : ∃ k : Nat, z = k := ⟨z.toNat, by omega⟩
      refine (write_good h hd k (by omega) hb (hS b hSb) hcl).mono ?_
      rintro e w' ⟨rfl, hu⟩
      rw [if_pos ⟨hz, rfl⟩]
      exact ⟨by simp [writeE, hz], hu⟩
    · refine (write_len h z hz A m c hm).mono ?_
      rintro e w' ⟨rfl, hu⟩
      rw [if_neg (fun h => hm h.2)]
      exact ⟨by simp [writeE, hz, hm], h.out.upd hu⟩
  · refine (write_bad h z hz _).mono ?_
    rintro e w' ⟨rfl, hu⟩
    rw [if_neg (fun h => hz h.1)]
    exact ⟨by simp [writeE, hz], h.out.upd hu⟩
end Go.Proofs.YtcliejdiaohamaaGreat

set_option linter.unusedSimpArgs false
set_option linter.unusedVariables false
namespace Go.Proofs.YtcliejdiaohamaaGreat
open Go.RowKit Go.Cib
attribute [local go_sem] cell_set Later.cell Later.frozen Grw.cell Grw.frozen

end Go.Proofs.YtcliejdiaohamaaGreat

set_option linter.unusedSimpArgs false
set_option linter.unusedVariables false
namespace Go.Proofs.YtcliejdiaohamaaGreat
open Go.RowKit Go.Cib
attribute [local go_sem] cell_set Later.cell Later.frozen Grw.cell Grw.frozen

def rotDOk (st : DSt) (n : Nat) (z off mask : Int) : Prop := (st.dead = false ∧ 0 ≤ z ∧ z < n) ∧ ((0 ≤ off ∧ off ≤ 60) ∧ ¬ mask = 0) ∧ st.rotten[z.toNat]? = some false
instance (st : DSt) (n : Nat) (z off mask : Int) : Decidable (rotDOk st n z off mask) := by unfold rotDOk; infer_instance
end Go.Proofs.YtcliejdiaohamaaGreat

set_option linter.unusedSimpArgs false
set_option linter.unusedVariables false
namespace Go.Proofs.YtcliejdiaohamaaGreat
open Go.RowKit Go.Cib
attribute [local go_sem] cell_set Later.cell Later.frozen Grw.cell Grw.frozen

/-- A pointer, whole. -/
def PtrR (_ : Nat → Prop) (_ : World) (cs : List Value) (x : Nat) : Prop := cs = [.pointer (some ⟨x, 0, none⟩)]
theorem PtrR.stable : Stable PtrR := fun _ _ _ _ _ _ h _ => h
theorem PtrR.one : ∀ S w cs x, PtrR S w cs x → ∀ u ∈ cs, u.oneCell' = true := by
  rintro S w cs x rfl u hu
  simp at hu
  subst hu; rfl
structure ArrB (U : Nat → Prop) (w : World) (a : Nat) (v : Value) (Fs : Nat → Nat → Prop) (ps : List Nat) (s : Nat) (sts : List DSt) : Prop where
  box : BoxAt w a #[v]
  own : OwnL PtrR 152 1 0 (fun _ => False) w v ps.length ps
  len : sts.length = ps.length
  drv : ∀ i p st, ps[i]? = some p → sts[i]? = some st → DrvAt (Fs i) w p s st
  apart : ∀ i j k, Fs i k → Fs j k → i = j
  va : v.ownBlock ≠ some a
  fx : ∀ i k, Fs i k → k ≠ a ∧ v.ownBlock ≠ some k
  ua : U a
  uv : ∀ k, v.ownBlock = some k → U k
  uf : ∀ i k, Fs i k → U k
  lt : ∀ k, U k → k < w.heap.size
def ArrAt (U : Nat → Prop) (w : World) (a s : Nat) (sts : List DSt) : Prop := ∃ v Fs ps, ArrB U w a v Fs ps s sts
def AUpd (U : Nat → Prop) (w w' : World) (a s : Nat) (sts : List DSt) : Prop := ∃ U', ArrAt U' w' a s sts ∧ (∀ k, U' k → k < w.heap.size → U k) ∧ Keep U w w'

theorem ArrB.keep {U G : Nat → Prop} {w w' : World} {a s : Nat} {v : Value} {Fs : Nat → Nat → Prop} {ps : List Nat} {sts : List DSt} (h : ArrB U w a v Fs ps s sts) (hk : Keep G w w') (hd : ∀ k, U k → ¬ G k) : ArrB U w' a v Fs ps s sts := by
  have hh : ∀ k, U k → w'.heap[k]? = w.heap[k]? := fun k hu => hk.block k (h.lt k hu) (hd k hu)
  refine ⟨h.box.keep (hh a h.ua), ?_, h.len, fun i p st h1 h2 => (h.drv i p st h1 h2).keep hk (fun k hf => hd k (h.uf i k hf)), h.apart, h.va, h.fx, h.ua, h.uv, h.uf, fun k hu => Nat.lt_of_lt_of_le (h.lt k hu) hk.size⟩
  obtain ⟨css, h1, h2, h3, h4, h5⟩ := h.own
  exact ⟨css, ownsRow_keep h1 (fun k hk2 => hh k (h.uv k hk2)), h2, h3, h4, fun i cs x hc hx => h5 i cs x hc hx⟩
theorem ArrB.below {U : Nat → Prop} {w w' : World} {a s : Nat} {v : Value} {Fs : Nat → Nat → Prop} {ps : List Nat} {sts : List DSt} (h : ArrB U w a v Fs ps s sts) (hk : Below w.heap.size w w') : ArrB U w' a v Fs ps s sts := h.keep (Keep.of_below (F := fun _ => False) hk) (fun _ _ h => h)
theorem ArrAt.keep {U G : Nat → Prop} {w w' : World} {a s : Nat} {sts : List DSt} (h : ArrAt U w a s sts) (hk : Keep G w w') (hd : ∀ k, U k → ¬ G k) : ArrAt U w' a s sts := by
  obtain ⟨v, Fs, ps, h⟩ := h; exact ⟨v, Fs, ps, h.keep hk hd⟩
theorem ArrAt.below {U : Nat → Prop} {w w' : World} {a s : Nat} {sts : List DSt} (h : ArrAt U w a s sts) (hk : Below w.heap.size w w') : ArrAt U w' a s sts := by
  obtain ⟨v, Fs, ps, h⟩ := h; exact ⟨v, Fs, ps, h.below hk⟩
theorem ArrAt.lt {U : Nat → Prop} {w : World} {a s : Nat} {sts : List DSt} (h : ArrAt U w a s sts) {k : Nat} (hk : U k) : k < w.heap.size := by
  obtain ⟨v, Fs, ps, h⟩ := h; exact h.lt k hk
theorem ArrAt.ok {U : Nat → Prop} {w : World} {a s : Nat} {sts : List DSt} (h : ArrAt U w a s sts) : ∀ st ∈ sts, st.ok s := by
  obtain ⟨v, Fs, ps, h⟩ := h
  intro st hst
  obtain ⟨i, hi, rfl⟩ := List.mem_iff_getElem.1 hst
  exact (h.drv i (ps[i]'(by rw [← h.len]; exact hi)) _ (List.getElem?_eq_getElem _) (List.getElem?_eq_getElem _)).ok
theorem ArrAt.upd {U : Nat → Prop} {w w' : World} {a s : Nat} {sts : List DSt} (h : ArrAt U w a s sts) (hk : Below w.heap.size w w') : AUpd U w w' a s sts := ⟨U, h.below hk, fun _ h _ => h, Keep.of_below hk⟩
theorem AUpd.trans {U U1 : Nat → Prop} {w w1 w2 : World} {a s : Nat} {sts : List DSt} (hU : ∀ k, U1 k → k < w.heap.size → U k) (hK : Keep U w w1) (h : AUpd U1 w1 w2 a s sts) : AUpd U w w2 a s sts := by
  obtain ⟨U2, hA, h2, hK2⟩ := h
  exact ⟨U2, hA, fun k h1 hlt => hU k (h2 k h1 (Nat.lt_of_lt_of_le hlt hK.size)) hlt, hK.trans hK2 (fun k h hlt => hU k h hlt)⟩
/-- One drive went on. -/
theorem ArrB.upd1 {U : Nat → Prop} {w w' : World} {a s : Nat} {v : Value} {Fs : Nat → Nat → Prop} {ps : List Nat} {sts : List DSt} (h : ArrB U w a v Fs ps s sts) {i p : Nat} {st' : DSt} (hp : ps[i]? = some p) (hu : Upd (Fs i) w w' p s st') :
    ∃ U' Fs', ArrB U' w' a v Fs' ps s (sts.set i st') ∧ (∀ k, U' k → k < w.heap.size → U k) ∧ Keep U w w' := by
  obtain ⟨F', hD, hF, hK⟩ := hu
  have hil : i < sts.length := by rw [h.len]; exact (List.getElem?_eq_some_iff.1 hp).1
  have hKU : Keep U w w' := hK.mono (fun k hf _ => h.uf i k hf)
  have hlt' : ∀ k, F' k → k < w'.heap.size := fun k hk => hD.lt hk
  refine ⟨fun k => U k ∨ F' k, fun j k => if j = i then F' k else Fs j k, ⟨?_, ?_, by simpa using h.len, ?_, ?_, h.va, ?_, .inl h.ua, fun k hk => .inl (h.uv k hk), ?_, ?_⟩, fun k hk hlt => hk.elim id (fun hf => h.uf i k (hF k hf hlt)), hKU⟩
  · exact h.box.keep (hK.block a (h.lt a h.ua) (fun hf => (h.fx i a hf).1 rfl))
  · obtain ⟨css, h1, h2, h3, h4, h5⟩ := h.own
    exact ⟨css, ownsRow_keep h1 (fun k hk2 => hK.block k (h.lt k (h.uv k hk2)) (fun hf => (h.fx i k hf).2 hk2)), h2, h3, h4, fun i cs x hc hx => h5 i cs x hc hx⟩
  · intro j q st h1 h2
    by_cases hj : j = i
    · subst hj
      rw [hp] at h1
      injection h1 with h1
      subst h1
      rw [List.getElem?_set_self hil] at h2
      injection h2 with h2
      subst h2
      simpa using hD
    · rw [List.getElem?_set_ne (fun e => hj e.symm)] at h2
      simp only [if_neg hj]
      exact (h.drv j q st h1 h2).keep hK (fun k hf hf2 => hj (h.apart j i k hf hf2))
  · intro j1 j2 k
    by_cases e1 : j1 = i <;> by_cases e2 : j2 = i <;> simp only [e1, e2, if_pos, if_neg, not_false_eq_true]
    · intros; trivial
    · intro hf hg
      exact (h.apart _ _ k (hF k hf (h.lt k (h.uf _ k hg))) hg)
    · intro hf hg
      exact e1 (h.apart _ _ k hf (hF k hg (h.lt k (h.uf _ k hf))))
    · exact h.apart j1 j2 k
  · intro j k hf
    by_cases e1 : j = i
    · simp only [e1, if_pos] at hf
      constructor
      · rintro rfl
        exact (h.fx i k (hF k hf (h.lt k h.ua))).1 rfl
      · intro hv
        exact (h.fx i k (hF k hf (h.lt k (h.uv k hv)))).2 hv
    · simp only [e1, if_neg, not_false_eq_true] at hf
      exact h.fx j k hf
  · intro j k hf
    by_cases e1 : j = i
    · simp only [e1, if_pos] at hf; exact .inr hf
    · simp only [e1, if_neg, not_false_eq_true] at hf; exact .inl (h.uf j k hf)
  · rintro k (hk | hk)
    · exact Nat.lt_of_lt_of_le (h.lt k hk) hK.size
    · exact hlt' k hk
theorem arr_cells {U : Nat → Prop} {w : World} {a s : Nat} {v : Value} {Fs : Nat → Nat → Prop} {ps : List Nat} {sts : List DSt} (h : ArrB U w a v Fs ps s sts) : ∃ A c, v = .slice A sts.length c ∧ w.cell? ⟨a, 0, none⟩ = some (.slice A sts.length c) ∧
    ∀ i, i < sts.length → ∃ g p st, A = some ⟨g, 0, none⟩ ∧ ps[i]? = some p ∧ sts[i]? = some st ∧ w.cell? ⟨g, i, none⟩ = some (.pointer (some ⟨p, 0, none⟩)) ∧ DrvAt (Fs i) w p s st := by
  obtain ⟨A, c, rfl, _⟩ := h.own.form
  refine ⟨A, c, by rw [h.len], by rw [h.len]; exact h.box.cell 0, fun i hi => ?_⟩
  rw [h.len] at hi
  obtain ⟨css, h1, h2, h3, h4, h5⟩ := h.own
  obtain ⟨g, cap, e0, _, _⟩ := h1.form (by omega)
  obtain ⟨rfl, rfl⟩ : A = some ⟨g, 0, none⟩ ∧ c = cap := by simpa using e0
  have hic : css[i]? = some (css[i]'(by omega)) := List.getElem?_eq_getElem (by omega)
  have hip : ps[i]? = some (ps[i]'(by omega)) := List.getElem?_eq_getElem (by omega)
  have his : sts[i]? = some (sts[i]'(by rw [h.len]; exact hi)) := List.getElem?_eq_getElem _
  have hcs := h5 i _ _ hic hip
  refine ⟨g, _, _, rfl, hip, his, ?_, h.drv i _ _ hip his⟩
  have := h1.cellAt i (by omega)
  rw [this]
  have := flatten_get css h4 i _ 0 hic (by omega)
  rw [Nat.mul_one, Nat.add_zero] at this
  rw [this]
  rw [show css[i] = [.pointer (some ⟨ps[i], 0, none⟩)] from hcs]; rfl
end Go.Proofs.YtcliejdiaohamaaGreat

set_option linter.unusedSimpArgs false
set_option linter.unusedVariables false
namespace Go.Proofs.YtcliejdiaohamaaGreat
open Go.RowKit Go.Cib
attribute [local go_sem] cell_set Later.cell Later.frozen Grw.cell Grw.frozen

section
variable {U : Nat → Prop} {w : World} {a s : Nat} {v : Value} {Fs : Nat → Nat → Prop} {ps : List Nat} {sts : List DSt}
set_option maxRecDepth 100000 in
theorem anone (h : Hid (ArrB U w a v Fs ps s sts)) (hk : 0 < sts.length) :
    Calls Tryz.prog 155 #[.pointer (some ⟨a, 0, none⟩)] w fun e w' => e = .returned (.bool false) ∧ Below w.heap.size w w' := by
  obtain ⟨A, c, _, c0, _⟩ := arr_cells h.out
  have hk0 : ((sts.length : Int) == 0) = false := by rw [beq_eq_false_iff_ne]; omega
  go_enter Tryz.func155, Tryz.ntmps155
  go_wp2_with fail
  go_ret
  exact ⟨rfl, Below.refl _ _⟩
set_option maxRecDepth 100000 in
theorem an_any (h : Hid (ArrB U w a v Fs ps s sts)) (hk : 0 < sts.length) :
    Calls Tryz.prog 86 #[.pointer (some ⟨a, 0, none⟩)] w fun e w' => e = .returned (.int .i64 sts.length) ∧ Below w.heap.size w w' := by
  go_enter Tryz.func86, Tryz.ntmps86
  go_wp2_with fail
  refine (anone h hk).mono ?_
  rintro e w1 ⟨rfl, t1⟩
  obtain ⟨A, c, _, c0, _⟩ := arr_cells (h.out.below t1)
  go_wp2_with fail
  go_ret
  exact ⟨rfl, t1⟩
set_option maxRecDepth 100000 in
theorem aat_in (h : Hid (ArrB U w a v Fs ps s sts)) (d : Nat) (hd : d < sts.length) {p : Nat} (hp : ps[d]? = some p) :
    Calls Tryz.prog 91 #[.pointer (some ⟨a, 0, none⟩), .int .i64 d] w fun e w' => e = .returned (.pointer (some ⟨p, 0, none⟩)) ∧ Below w.heap.size w w' := by
  have h0 : (0 : Int) ≤ (d : Int) := Int.natCast_nonneg _
  have h1 : (d : Int) < (sts.length : Int) := by omega
  go_enter Tryz.func91, Tryz.ntmps91
  go_wp2_with fail
  refine (anone h (by omega)).mono ?_
  rintro e w1 ⟨rfl, t1⟩
  obtain ⟨A, c, _, c0, hc⟩ := arr_cells (h.out.below t1)
  obtain ⟨g, p', st, rfl, hp', hst, cg, _⟩ := hc d hd
  obtain rfl : p' = p := by rw [hp] at hp'; injection hp' with hp'; exact hp'.symm
  clear hc hst
  go_wp2_with fail
  go_ret
  exact ⟨rfl, t1⟩
set_option maxRecDepth 100000 in
theorem areach_in (h : Hid (ArrB U w a v Fs ps s sts)) (d : Nat) (hd : d < sts.length) {p : Nat} (hp : ps[d]? = some p) :
    Calls Tryz.prog 125 #[.pointer (some ⟨a, 0, none⟩), .int .i64 d] w fun e w' => e = .returned (.tuple #[.pointer (some ⟨p, 0, none⟩), .int .i64 0]) ∧ Below w.heap.size w w' := by
  go_enter Tryz.func125, Tryz.ntmps125
  go_wp2_with fail
  refine (anone h (by omega)).mono ?_
  rintro e w1 ⟨rfl, t1⟩
  have H1 := Lib.hid (h.out.below t1)
  go_wp2_with fail
  refine (aat_in H1 d hd hp).mono ?_
  rintro e w2 ⟨rfl, t2⟩
  go_wp2_with fail
  go_ret2
  exact ⟨rfl, t1.trans (t2.mono t1.size)⟩
end
end Go.Proofs.YtcliejdiaohamaaGreat

set_option linter.unusedSimpArgs false
set_option linter.unusedVariables false
namespace Go.Proofs.YtcliejdiaohamaaGreat
open Go.RowKit Go.Cib
attribute [local go_sem] cell_set Later.cell Later.frozen Grw.cell Grw.frozen

theorem BoxAt.bools {w : World} {b : Nat} {xs : List Bool} (h : BoxAt w b (xs.map Value.bool).toArray) {S : Nat → Prop} (hS : S b) : RdL BoolR 1 S w (some ⟨b, 0, none⟩) xs.length xs :=
  ⟨rfl, fun _ => ⟨b, 0, rfl, hS, h.lt, fun i x hx => ⟨[.bool x], rfl, rfl, fun j v hj => by
    match j, hj with
    | 0, hj =>
      simp only [List.getElem?_cons_zero, Option.some.injEq] at hj
      subst hj
      rw [h.cell]
      simp [hx]⟩⟩⟩
def cnt (l : List Bool) : Nat := l.count true
section
variable {U : Nat → Prop} {w : World} {a s : Nat} {v : Value} {Fs : Nat → Nat → Prop} {ps : List Nat} {sts : List DSt}
theorem ArrB.p_at (h : ArrB U w a v Fs ps s sts) {d : Nat} {st : DSt} (hst : sts[d]? = some st) : ∃ p, ps[d]? = some p ∧ DrvAt (Fs d) w p s st ∧ d < sts.length := by
  have hd : d < sts.length := (List.getElem?_eq_some_iff.1 hst).1
  exact ⟨_, List.getElem?_eq_getElem (by rw [← h.len]; exact hd), h.drv d _ _ (List.getElem?_eq_getElem _) hst, hd⟩
/-- One drive goes on behind something that changed nothing. -/
theorem ArrB.upd2 (h : ArrB U w a v Fs ps s sts) {w1 w2 : World} {i p : Nat} {st' : DSt} (hb : Below w.heap.size w w1) (hp : ps[i]? = some p) (hu : Upd (Fs i) w1 w2 p s st') : AUpd U w w2 a s (sts.set i st') := by
  obtain ⟨U', Fs', hB, h1, h2⟩ := (h.below hb).upd1 hp hu
  exact ⟨U', ⟨v, Fs', ps, hB⟩, fun k hk hlt => h1 k hk (Nat.lt_of_lt_of_le hlt hb.size), (Keep.of_below (F := U) hb).trans h2 (fun k h _ => h)⟩
end
/-- Fail, whatever is asked. -/
def failA (s : Nat) (sts : List DSt) (d : Int) : List DSt := if 0 ≤ d ∧ d < sts.length then sts.set d.toNat (DSt.gone s) else sts
end Go.Proofs.YtcliejdiaohamaaGreat

set_option linter.unusedSimpArgs false
set_option linter.unusedVariables false
namespace Go.Proofs.YtcliejdiaohamaaGreat
open Go.RowKit Go.Cib
attribute [local go_sem] cell_set Later.cell Later.frozen Grw.cell Grw.frozen

section
variable {U : Nat → Prop} {w : World} {a s : Nat} {v : Value} {Fs : Nat → Nat → Prop} {ps : List Nat} {sts : List DSt}
def wrDA (n : Nat) (st : DSt) (z : Int) (bs : List Int) : DSt := if readyE st.dead n z = 0 ∧ bs.length = 64 then st.write z bs else st
set_option maxRecDepth 100000 in
theorem awrite_in (h : Hid (ArrB U w a v Fs ps s sts)) (d : Nat) {st : DSt} (hst : sts[d]? = some st) (z : Int) {S : Nat → Prop} {A : Option Addr} {m c : Nat} {bs : List Int} (hb : Hid (RdL U8R 1 S w A m bs)) (hS : ∀ b, S b → ¬ U b) (hcl : st.cache.length < 1000000) :
    Calls Tryz.prog 213 #[.pointer (some ⟨a, 0, none⟩), .int .i64 d, .int .i64 z, .slice A m c] w fun e w' => e = .returned (.int .i64 (writeE st.dead s z m)) ∧ AUpd U w w' a s (sts.set d (wrDA s st z bs)) := by
  obtain ⟨p, hp, hD, hd⟩ := h.out.p_at hst
  have HD := Lib.hid hD
  have HS := Lib.hid hS
  clear hD hS
  go_enter Tryz.func213, Tryz.ntmps213
  go_wp2_with fail
  refine (areach_in h d hd hp).mono ?_
  rintro e w1 ⟨rfl, t1⟩
  have T1 := Lib.hid t1
  clear t1
  go_wp2_with fail
  refine (write_all (Lib.hid (HD.out.below T1.out)) z (Lib.hid (hb.out.below U8R.stable T1.out)) (fun b hs hf => HS.out b hs (h.out.uf d b hf)) hcl).mono ?_
  rintro e w2 ⟨rfl, u2⟩
  obtain rfl : bs.length = m := hb.out.1
  have U2 := Lib.hid (show Upd (Fs d) w1 w2 p s (wrDA s st z bs) from u2)
  clear u2
  go_wp2_with fail
  go_ret
  exact ⟨rfl, h.out.upd2 T1.out hp U2.out⟩
/-! ### All of them, one by one -/
def aliveL (sts : List DSt) : List Bool := sts.map (fun st => !st.dead)
end
end Go.Proofs.YtcliejdiaohamaaGreat

set_option linter.unusedSimpArgs false
set_option linter.unusedVariables false
namespace Go.Proofs.YtcliejdiaohamaaGreat
open Go.RowKit Go.Cib
attribute [local go_sem] cell_set Later.cell Later.frozen Grw.cell Grw.frozen

section
variable {U : Nat → Prop} {w : World} {a s : Nat} {v : Value} {Fs : Nat → Nat → Prop} {ps : List Nat} {sts : List DSt}
end
end Go.Proofs.YtcliejdiaohamaaGreat

set_option linter.unusedSimpArgs false
set_option linter.unusedVariables false
namespace Go.Proofs.YtcliejdiaohamaaGreat
open Go.RowKit Go.Cib
attribute [local go_sem] cell_set Later.cell Later.frozen Grw.cell Grw.frozen
attribute [local go_sem ↓] run_min_as run_max_as

/-- Bytes, or bools, as they lie in a row. -/
def BytesR (S : Nat → Prop) (w : World) (cs : List Value) (x : List Int) : Prop := ∃ A m c, cs = [.slice A m c] ∧ RdL U8R 1 S w A m x
theorem BytesR.stable : Stable BytesR := by
  rintro S S' w w' cs e ⟨A, m, c, rfl, h⟩ hk
  exact ⟨A, m, c, rfl, h.stable U8R.stable hk⟩
theorem BytesR.one : ∀ S w cs x, BytesR S w cs x → ∀ u ∈ cs, u.oneCell' = true := by
  rintro S w cs x ⟨A, m, c, rfl, _⟩ u hu
  simp at hu
  subst hu; rfl
def BoolsR (S : Nat → Prop) (w : World) (cs : List Value) (x : List Bool) : Prop := ∃ A m c, cs = [.slice A m c] ∧ RdL BoolR 1 S w A m x
theorem BoolsR.stable : Stable BoolsR := by
  rintro S S' w w' cs e ⟨A, m, c, rfl, h⟩ hk
  exact ⟨A, m, c, rfl, h.stable BoolR.stable hk⟩
theorem BoolsR.one : ∀ S w cs x, BoolsR S w cs x → ∀ u ∈ cs, u.oneCell' = true := by
  rintro S w cs x ⟨A, m, c, rfl, _⟩ u hu
  simp at hu
  subst hu; rfl
section
variable {U : Nat → Prop} {w : World} {a s : Nat} {v : Value} {Fs : Nat → Nat → Prop} {ps : List Nat} {sts : List DSt}
end
end Go.Proofs.YtcliejdiaohamaaGreat

set_option linter.unusedSimpArgs false
set_option linter.unusedVariables false
namespace Go.Proofs.YtcliejdiaohamaaGreat
open Go.RowKit Go.Cib
attribute [local go_sem] cell_set Later.cell Later.frozen Grw.cell Grw.frozen

theorem makeRowsA (k : Nat) (hk : k ≤ 600) (w : World) : (Instr.makeSlice 95 (.int .i64 (k : Int)) (.int .i64 (k : Int))).run Tryz.prog w = .ok (.slice (some ⟨w.heap.size, 0, none⟩) k k) (w.alloc (.cells (List.replicate k (Value.slice none 0 0)).toArray 80)) := by
  obtain ⟨i, hi, hz, hs, hb⟩ := info_parts (show (Tryz.prog.info? 80).map (fun i => (i.zero, i.size, i.bytes)) = some (some (.slice none 0 0), 1, 24) by kernel_rfl)
  have h := run_make (P := Tryz.prog) w 95 80 i (.slice none 0 0) (by kernel_rfl) hi hz .i64 .i64 k k (by omega) (by omega) (by rw [hb]; omega) (by omega)
  simp only [Int.toNat_natCast, hs, Nat.mul_one] at h
  rw [h, List.toArray_replicate, show (Value.slice none 0 0).cells = Array.replicate 1 (.slice none 0 0) from rfl, madeCells_rep _ _ _ (by omega)]
/-- A row of bytes of the call's own, each cell still to be set. -/
def RowB (B : Nat) (w : World) (ob k : Nat) (xs : List (List Int)) : Prop := ∃ vs : List Value, BoxAt w ob vs.toArray ∧ vs.length = k ∧ xs.length = k ∧ ∀ (j : Nat) (v : Value) (x : List Int), vs[j]? = some v → xs[j]? = some x → ∃ A m c, v = .slice A m c ∧ RdL U8R 1 (fun b => B ≤ b ∧ b ≠ ob) w A m x
theorem RowB.new (B : Nat) (w : World) (k : Nat) (T : TypeId) : RowB B (w.alloc (.cells (List.replicate k (Value.slice none 0 0)).toArray T)) w.heap.size k (List.replicate k []) := by
  refine ⟨List.replicate k (.slice none 0 0), BoxAt.new _ _ _, by simp, by simp, fun j v x hv hx => ?_⟩
  have h1 := List.eq_of_mem_replicate (List.mem_of_getElem? hv)
  have h2 := List.eq_of_mem_replicate (List.mem_of_getElem? hx)
  subst h1; subst h2
  exact ⟨none, 0, 0, rfl, RdL.nil⟩
theorem RowB.below {B : Nat} {w w' : World} {ob k : Nat} {xs : List (List Int)} (h : RowB B w ob k xs) (hb : Below w.heap.size w w') : RowB B w' ob k xs := by
  obtain ⟨vs, h1, h2, h3, h4⟩ := h
  exact ⟨vs, h1.below hb, h2, h3, fun j v x hv hx => by
    obtain ⟨A, m, c, e, hr⟩ := h4 j v x hv hx
    exact ⟨A, m, c, e, hr.below U8R.stable hb⟩⟩
theorem RowB.set {B : Nat} {w : World} {ob k : Nat} {xs : List (List Int)} (h : RowB B w ob k xs) (j : Nat) {A : Option Addr} {m c : Nat} {x : List Int} (hr : RdL U8R 1 (fun b => B ≤ b ∧ b ≠ ob) w A m x) : RowB B (w.setCell ⟨ob, j, none⟩ (.slice A m c)) ob k (xs.set j x) := by
  obtain ⟨vs, h1, h2, h3, h4⟩ := h
  refine ⟨vs.set j (.slice A m c), ?_, by simp [h2], by simp [h3], fun i v y hv hy => ?_⟩
  · have := h1.set j (.slice A m c)
    simpa using this
  · by_cases hij : j = i
    · subst hij
      have hjl : j < vs.length := by simpa using (List.getElem?_eq_some_iff.1 hv).1
      rw [List.getElem?_set_self hjl] at hv
      rw [List.getElem?_set_self (by omega)] at hy
      injection hv with hv
      injection hy with hy
      subst hv; subst hy
      exact ⟨A, m, c, rfl, hr.setCell U8R.stable (p := ⟨ob, j, none⟩) (fun h => h.2 rfl) _⟩
    · rw [List.getElem?_set_ne hij] at hv hy
      obtain ⟨A', m', c', e, hr'⟩ := h4 i v y hv hy
      exact ⟨A', m', c', e, hr'.setCell U8R.stable (p := ⟨ob, j, none⟩) (fun h => h.2 rfl) _⟩
theorem RowB.rd {B : Nat} {w : World} {ob k : Nat} {xs : List (List Int)} (h : RowB B w ob k xs) (hB : B ≤ ob) : RdL BytesR 1 (B ≤ ·) w (some ⟨ob, 0, none⟩) k xs := by
  obtain ⟨vs, h1, h2, h3, h4⟩ := h
  refine ⟨h3, fun _ => ⟨ob, 0, rfl, hB, h1.lt, fun i x hx => ?_⟩⟩
  have hi : i < vs.length := by rw [h2, ← h3]; exact (List.getElem?_eq_some_iff.1 hx).1
  obtain ⟨A, m, c, e, hr⟩ := h4 i _ x (List.getElem?_eq_getElem hi) hx
  refine ⟨[vs[i]], rfl, ⟨A, m, c, by rw [e], hr.weaken U8R.stable (fun b hb => hb.1)⟩, fun j v hj => ?_⟩
  match j, hj with
  | 0, hj =>
    simp only [List.getElem?_cons_zero, Option.some.injEq] at hj
    subst hj
    rw [h1.cell]
    simp [hi]
section
variable {U : Nat → Prop} {w : World} {a s : Nat} {v : Value} {Fs : Nat → Nat → Prop} {ps : List Nat} {sts : List DSt}
end
end Go.Proofs.YtcliejdiaohamaaGreat

set_option linter.unusedSimpArgs false
set_option linter.unusedVariables false
namespace Go.Proofs.YtcliejdiaohamaaGreat
open Go.RowKit Go.Cib
attribute [local go_sem] cell_set Later.cell Later.frozen Grw.cell Grw.frozen

theorem slPtr : SlTy Tryz.prog 153 152 (.pointer none) 1 8 := ⟨Tryz.underlying153, by kernel_rfl, rfl, by omega⟩
section
variable {U : Nat → Prop} {w : World} {a s : Nat} {v : Value} {Fs : Nat → Nat → Prop} {ps : List Nat} {sts : List DSt}
/-- One drive more. -/
theorem ArrB.push (h : ArrB U w a v Fs ps s sts) {u : World} {F : Nat → Prop} {p : Nat} {st : DSt} {vN : Value} (hD : DrvAt F w p s st) (hF : ∀ k, F k → ¬ U k) (hu : w.grownBy u v.ownBlock) (hs : w.heap.size < u.heap.size)
    (own : OwnL PtrR 152 1 0 (fun _ => False) u vN (ps.length + 1) (ps ++ [p])) (hat : vN.ownBlock = v.ownBlock ∨ vN.ownBlock = some (w.heap.size + 1)) :
    ∃ U' Fs', ArrB U' (u.setCell ⟨a, 0, none⟩ vN) a vN Fs' (ps ++ [p]) s (sts ++ [st]) ∧ (∀ k, U' k → k < w.heap.size → U k ∨ F k) ∧ Keep U w (u.setCell ⟨a, 0, none⟩ vN) := by
  have hset : ∀ k, k ≠ a → (u.setCell ⟨a, 0, none⟩ vN).heap[k]? = u.heap[k]? := fun k hk => Below.heap_setCell _ _ _ _ hk
  have hK : Keep (fun k => k = a ∨ v.ownBlock = some k) w (u.setCell ⟨a, 0, none⟩ vN) := ⟨hu.os, hu.tape, hu.output, by simpa using hu.size, fun k hk hg => (hset k (fun e => hg (.inl e))).trans (hu.block k hk (fun e => hg (.inr e.symm)))⟩
  have hla := h.lt a h.ua
  have hN : ∀ k, vN.ownBlock = some k → (v.ownBlock = some k) ∨ k = w.heap.size + 1 := fun k hk => by
    rcases hat with h | h
    · exact .inl (h ▸ hk)
    · rw [h] at hk; injection hk with hk; exact .inr hk.symm
  have hNa : vN.ownBlock ≠ some a := fun e => by
    rcases hN a e with h2 | h2
    · exact h.va h2
    · omega
  have hFlt : ∀ k, F k → k < w.heap.size := fun k hk => hD.lt hk
  refine ⟨fun k => U k ∨ F k ∨ (w.heap.size ≤ k ∧ k < u.heap.size), fun j k => if j = ps.length then F k else Fs j k, ⟨?_, ?_, by simp [h.len], ?_, ?_, hNa, ?_, .inl h.ua, ?_, ?_, ?_⟩, ?_, hK.mono (fun k hk _ => hk.elim (fun e => e ▸ h.ua) (h.uv k))⟩
  · exact (h.box.keep (hu.block a hla (fun e => h.va e.symm))).set 0 vN
  · obtain ⟨css, h1, h2, h3, h4, h5⟩ := own
    rw [show (ps ++ [p]).length = ps.length + 1 by simp]
    exact ⟨css, ownsRow_keep h1 (fun k hk => hset k (fun e => hNa (e ▸ hk))), h2, h3, h4, fun i cs x hc hx => h5 i cs x hc hx⟩
  · intro i q st' h1 h2
    by_cases hi : i = ps.length
    · subst hi
      rw [List.getElem?_append_right (Nat.le_refl _)] at h1
      rw [List.getElem?_append_right (by rw [h.len]; exact Nat.le_refl _), h.len] at h2
      simp only [Nat.sub_self, List.getElem?_cons_zero, Option.some.injEq] at h1 h2
      subst h1; subst h2
      simp only [if_true]
      exact hD.keep hK (fun k hk hg => hF k hk (hg.elim (fun e => e ▸ h.ua) (h.uv k)))
    · have hil : i < ps.length := by
        have := (List.getElem?_eq_some_iff.1 h1).1
        simp at this; omega
      rw [List.getElem?_append_left hil] at h1
      rw [List.getElem?_append_left (by rw [h.len]; exact hil)] at h2
      simp only [if_neg hi]
      exact (h.drv i q st' h1 h2).keep hK (fun k hk hg => hg.elim (h.fx i k hk).1 (h.fx i k hk).2)
  · intro i j k
    by_cases e1 : i = ps.length <;> by_cases e2 : j = ps.length <;> simp only [e1, e2, if_true, if_false]
    · intros; trivial
    · intro hf hg; exact absurd (h.uf j k hg) (hF k hf)
    · intro hf hg; exact absurd (h.uf i k hf) (hF k hg)
    · exact h.apart i j k
  · intro i k
    by_cases e1 : i = ps.length <;> simp only [e1, if_true, if_false]
    · intro hf
      refine ⟨fun e => hF k hf (e ▸ h.ua), fun e => ?_⟩
      have := hFlt k hf
      rcases hN k e with h2 | h2
      · exact hF k hf (h.uv k h2)
      · omega
    · intro hf
      refine ⟨(h.fx i k hf).1, fun e => ?_⟩
      have := h.lt k (h.uf i k hf)
      rcases hN k e with h2 | h2
      · exact (h.fx i k hf).2 h2
      · omega
  · intro k hk
    rcases hN k hk with h2 | h2
    · exact .inl (h.uv k h2)
    · have := (own.lt k hk).2
      exact .inr (.inr ⟨by omega, this⟩)
  · intro i k
    by_cases e1 : i = ps.length <;> simp only [e1, if_true, if_false]
    · intro hf; exact .inr (.inl hf)
    · intro hf; exact .inl (h.uf i k hf)
  · rintro k (hk | hk | hk)
    · have := h.lt k hk; simp; omega
    · have := hFlt k hk; simp; omega
    · simpa using hk.2
  · rintro k (hk | hk | hk) hlt
    · exact .inl hk
    · exact .inr hk
    · omega
/-- An array of no drives yet. -/
theorem ArrB.empty (w : World) (s : Nat) (T : TypeId) : ArrB (fun k => k = w.heap.size) (w.alloc (.cells #[.slice none 0 0] T)) w.heap.size (.slice none 0 0) (fun _ _ => False) [] s [] := by
  refine ⟨BoxAt.new _ _ _, OwnL.nil_, rfl, ?_, ?_, ?_, ?_, rfl, ?_, ?_, ?_⟩
  · intro i p st h1; simp at h1
  · intro i j k h; exact h.elim
  · simp [Value.ownBlock]
  · intro i k h; exact h.elim
  · intro k hk; simp [Value.ownBlock] at hk
  · intro i k h; exact h.elim
  · rintro k rfl; simp
end
set_option maxRecDepth 100000 in
set_option maxHeartbeats 4000000 in
theorem anew_any (k s : Nat) (h1 : 1 ≤ k) (h2 : k ≤ 255) (h3 : 1 ≤ s) (h4 : s ≤ 600) (w : World) :
    Calls Tryz.prog 68 #[.int .i64 k, .int .i64 s] w fun e w' => ∃ a U, e = .returned (.pointer (some ⟨a, 0, none⟩)) ∧ ArrAt U w' a s (List.replicate k (DSt.new s)) ∧ (∀ b, U b → w.heap.size ≤ b) ∧ Below w.heap.size w w' := by
  have d1 : (1 : Int) ≤ k := by omega
  have d2 : (k : Int) ≤ 255 := by omega
  have hE := ArrB.empty w s 155
  have bE : Below w.heap.size w (w.alloc (.cells #[.slice none 0 0] 155)) := (Below.refl _ _).alloc (Nat.le_refl _) _
  obtain ⟨w1, hw1⟩ : ∃ w1, w.alloc (.cells #[.slice none 0 0] 155) = w1 := ⟨_, rfl⟩
  obtain ⟨a, ha⟩ : ∃ a, w.heap.size = a := ⟨_, rfl⟩
  rw [hw1] at hE bE
  rw [ha] at hE
  have HE := Lib.hid hE
  have BE := Lib.hid bE
  have hla : w.heap.size ≤ a := by omega
  clear hE bE
  go_enter Tryz.func68, Tryz.ntmps68
  go_wp2_with fail
  clear hw1 ha
  go_loopw [16] (fun vi wr => ∃ (i : Nat) (U : Nat → Prop) (v : Value) (Fs : Nat → Nat → Prop) (ps : List Nat), i ≤ k ∧ vi = .int .i64 i ∧ Hid (ArrB U wr a v Fs ps s (List.replicate i (DSt.new s))) ∧ Hid (∀ b, U b → w.heap.size ≤ b) ∧ Hid (Below w.heap.size w wr)) (fun vi _ => k - (intOf vi).toNat)
  case atStart => exact ⟨0, _, _, _, _, Nat.zero_le _, rfl, HE, Lib.hid (by rintro b rfl; exact hla), BE⟩
  case round =>
    clear HE BE
    obtain ⟨wo, rfl⟩ : ∃ wo, wo = wr := ⟨_, rfl⟩
    obtain ⟨i, U, v, Fs, ps, hi, rfl, A, hU, K⟩ := hrel
    by_cases hlt : i < k
    · have h5 : (i : Int) < (k : Int) := by omega
      have h6 : (0 : Int) ≤ (i : Int) := Int.natCast_nonneg _
      have h7 : (i : Int) < 600 := by omega
      go_wp2_with fail
      refine (new_good s h3 h4 wo).mono ?_
      rintro e w2 ⟨p, F, rfl, D2, hF2, t2⟩
      have A2 := A.out.below t2
      have hlen := A2.len
      rw [List.length_replicate] at hlen
      obtain ⟨AA, cc, rfl, _⟩ := A2.own.form
      have c0 := A2.box.cell 0
      have z0 := A2.box.frozen 0
      have c0' : w2.cell? ⟨a, 0, none⟩ = some (.slice AA ps.length cc) := c0
      have hown := A2.own
      have hne : some a ≠ (Value.slice AA ps.length cc).ownBlock := fun e => A2.va e.symm
      have HA2 := Lib.hid A2
      have HD2 := Lib.hid D2
      have HF2 := Lib.hid hF2
      have T2 := Lib.hid t2
      clear A2 D2 hF2 t2 c0
      go_wp2_with (at_builtin; go_must (refine wpList_push1 PtrR.stable PtrR.one slPtr (by rfl) (by rfl) (base := 0) (S := fun _ => False) (cs := #[.pointer (some ⟨p, 0, none⟩)]) (y := p) (by rfl) (by rfl) hown (by rfl) (show PtrR _ _ _ p from rfl) (by unfold maxLen; omega) (by omega) (Nat.zero_le _) ?_); intro A11 c11 u11 hc11 own11 hlt11 hb11 hat11; have y0 := cell_far2 c0' u11.ok hne; have y1 := frozen_far2 c0' z0 u11.ok hne)
      obtain ⟨U', Fs', A3, hU3, hK3⟩ := HA2.out.push HD2.out (fun b hf hu => by have := HF2.out b hf; have := A.out.lt b hu; omega) u11.ok hlt11 own11 hat11
      have hsz := K.out.size
      have hs2 := T2.out.size
      refine ⟨⟨i + 1, U', _, Fs', ps ++ [p], by omega, by go_num, Lib.hid (by rw [List.replicate_succ']; exact A3), Lib.hid (fun b hb => ?_), Lib.hid (K.out.trans ((T2.out.mono hsz).trans (hK3.below (by omega) hU.out)))⟩, by simp [intOf]; omega⟩
      by_cases hblt : b < w2.heap.size
      · rcases hU3 b hb hblt with h | h
        · exact hU.out b h
        · have := HF2.out b h; omega
      · omega
    · obtain rfl : i = k := by omega
      have h5 : ¬ (i : Int) < (i : Int) := by omega
      go_wp2_with fail
      go_ret
      exact ⟨a, rfl, U, ⟨v, Fs, ps, A.out⟩, hU.out, K.out⟩
end Go.Proofs.YtcliejdiaohamaaGreat

set_option linter.unusedSimpArgs false
set_option linter.unusedVariables false
namespace Go.Proofs.YtcliejdiaohamaaGreat
open Go.RowKit Go.Cib
attribute [local go_sem] cell_set Later.cell Later.frozen Grw.cell Grw.frozen

structure Ev where
  at_ : Int
  b : List Int
  off : Int
  mask : Int
/-- An event. -/
def EvR (S : Nat → Prop) (w : World) (cs : List Value) (e : Ev) : Prop := ∃ A m c, cs = [.int .i64 e.at_, .slice A m c, .int .i64 e.off, .int .u32 e.mask] ∧ RdL U8R 1 S w A m e.b
theorem EvR.stable : Stable EvR := by
  rintro S S' w w' cs e ⟨A, m, c, rfl, h⟩ hk
  exact ⟨A, m, c, rfl, h.stable U8R.stable hk⟩
theorem EvR.one : ∀ S w cs x, EvR S w cs x → ∀ u ∈ cs, u.oneCell' = true := by
  rintro S w cs x ⟨A, m, c, rfl, _⟩ u hu
  simp at hu
  rcases hu with rfl | rfl | rfl | rfl <;> rfl
structure RSt where
  L : List Ev
  wait : List Ev
  gone : Bool

def RSt.new : RSt := ⟨[], [], false⟩
end Go.Proofs.YtcliejdiaohamaaGreat

set_option linter.unusedSimpArgs false
set_option linter.unusedVariables false
namespace Go.Proofs.YtcliejdiaohamaaGreat
open Go.RowKit Go.Cib
attribute [local go_sem] cell_set Later.cell Later.frozen Grw.cell Grw.frozen

section
variable {U : Nat → Prop} {w : World} {a s : Nat} {v : Value} {Fs : Nat → Nat → Prop} {ps : List Nat} {sts : List DSt}
end
end Go.Proofs.YtcliejdiaohamaaGreat

set_option linter.unusedSimpArgs false
set_option linter.unusedVariables false
namespace Go.Proofs.YtcliejdiaohamaaGreat
open Go.RowKit Go.Cib
attribute [local go_sem] cell_set Later.cell Later.frozen Grw.cell Grw.frozen

section
variable {U : Nat → Prop} {w : World} {a s : Nat} {v : Value} {Fs : Nat → Nat → Prop} {ps : List Nat} {sts : List DSt}
set_option maxRecDepth 100000 in
theorem asectors_any (h : Hid (ArrB U w a v Fs ps s sts)) (hk : 0 < sts.length) :
    Calls Tryz.prog 78 #[.pointer (some ⟨a, 0, none⟩)] w fun e w' => e = .returned (.int .i64 s) ∧ Below w.heap.size w w' := by
  obtain ⟨st, hst⟩ : ∃ st, sts[0]? = some st := ⟨_, List.getElem?_eq_getElem hk⟩
  obtain ⟨p, hp, hD, hd⟩ := h.out.p_at hst
  have HD := Lib.hid hD
  have HC := aat_in h 0 hd hp
  clear hD
  go_enter Tryz.func78, Tryz.ntmps78
  go_wp2_with fail
  refine HC.mono ?_
  rintro e w1 ⟨rfl, t1⟩
  have T1 := Lib.hid t1
  clear t1
  go_wp2_with fail
  obtain ⟨sb, sc, rb, rc, A, cc, mb, H⟩ := (HD.out.below T1.out).box
  refine (sectors_any H).mono ?_
  rintro e w2 ⟨rfl, t2⟩
  go_wp2_with fail
  go_ret
  exact ⟨rfl, T1.out.trans (t2.mono T1.out.size)⟩
end
end Go.Proofs.YtcliejdiaohamaaGreat

set_option linter.unusedSimpArgs false
set_option linter.unusedVariables false
namespace Go.Proofs.YtcliejdiaohamaaGreat
open Go.RowKit Go.Cib
attribute [local go_sem] cell_set Later.cell Later.frozen Grw.cell Grw.frozen

theorem once_disable (w : World) : (callFunc 292 #[]).run Tryz.prog w = .ok (.value (.tuple #[])) w := run_call_mark0 Tryz.func292 (by kernel_rfl) (by kernel_rfl) (by kernel_rfl) .disable (by kernel_rfl) w
theorem once_enable (w : World) : (callFunc 294 #[]).run Tryz.prog w = .ok (.value (.tuple #[])) w := run_call_mark0 Tryz.func294 (by kernel_rfl) (by kernel_rfl) (by kernel_rfl) .enable (by kernel_rfl) w
theorem once_acquire (a : Addr) (w : World) : (callFunc 295 #[.pointer (some a)]).run Tryz.prog w = .ok (.value (.tuple #[])) w := run_call_marked Tryz.func295 (by kernel_rfl) (by kernel_rfl) (by kernel_rfl) .acquire (by kernel_rfl) a w
theorem once_merge (a : Addr) (w : World) : (callFunc 297 #[.pointer (some a)]).run Tryz.prog w = .ok (.value (.tuple #[])) w := run_call_marked Tryz.func297 (by kernel_rfl) (by kernel_rfl) (by kernel_rfl) .releaseMerge (by kernel_rfl) a w

theorem once_load {a : Addr} {x : Int} {w : World} (h : w.cell? a = some (.int .u32 x)) : (callFunc 277 #[.pointer (some a)]).run Tryz.prog w = .ok (.value (.int .u32 x)) w :=
  run_call_load (P := Tryz.prog) Tryz.func277 (by kernel_rfl) (by kernel_rfl) (by kernel_rfl) .u32 (by kernel_rfl) h

set_option maxRecDepth 100000 in
set_option maxHeartbeats 1600000 in
/-- '(*sync/atomic.Bool).Store(true)', entered as a deferred call: the cell holds 1. -/
theorem store_deferred (a : Addr) (x : Value) (u : FrameMode) (w : World) (hc : w.cell? a = some x) (hz : w.frozen? a = false) :
    CallsD Tryz.prog 280 #[.pointer (some a), .bool true] u w fun e u' w' => u' = u ∧ (e = .returned (.tuple #[]) ∧ w' = w.drew.setCell a (.int .u32 1)) := by
  have hc' : w.drew.cell? a = some x := by go_simp
  have hz' : w.drew.frozen? a = false := by go_simp
  have hst := run_call_store (P := Tryz.prog) Tryz.func287 (by kernel_rfl) (by kernel_rfl) (by kernel_rfl) (by kernel_rfl) (k := .u32) (y := 1) hc' hz'
  go_enter_d Tryz.func280, Tryz.ntmps280
  go_wp2
  go_region_calls
  all_goals (go_end0; exact ⟨rfl, rfl⟩)

set_option maxRecDepth 100000 in
set_option maxHeartbeats 1600000 in
/-- '(*sync.Mutex).Unlock', entered as a deferred call, the lock held and nobody waiting (state 1): state 0. -/
theorem unlock_deferred (a : Addr) (u : FrameMode) (w : World) (hc : w.cell? a = some (.int .i32 1)) (hz : w.frozen? a = false) :
    CallsD Tryz.prog 279 #[.pointer (some a)] u w fun e u' w' => u' = u ∧ (e = .returned (.tuple #[]) ∧ w' = w.setCell a (.int .i32 0)) := by
  have hd := once_disable
  have he := once_enable
  have hr := once_merge
  have hadd := run_call_add (P := Tryz.prog) Tryz.func298 (by kernel_rfl) (by kernel_rfl) (by kernel_rfl) .i32 (by kernel_rfl) (y := -1) (s := 0) hc hz (by simp [go_sem]; rfl)
  have hcv := run_convert_to_unsafe (P := Tryz.prog) (src := 381) (dst := 385) Tryz.underlying381 Tryz.underlying385 (by kernel_rfl) hc
  go_enter_d Tryz.func279, Tryz.ntmps279
  go_wp2
  go_end0
  go_wp2
  go_end0
  exact ⟨rfl, rfl⟩

set_option maxRecDepth 100000 in
set_option maxHeartbeats 1600000 in
/-- '(*sync.Mutex).Lock', the lock free (state 0): state 1. -/
theorem lock_free (a : Addr) (w : World) (hc : w.cell? a = some (.int .i32 0)) (hz : w.frozen? a = false) :
    Calls Tryz.prog 278 #[.pointer (some a)] w fun e w' => e = .returned (.tuple #[]) ∧ w' = w.setCell a (.int .i32 1) := by
  have hd := once_disable
  have he := once_enable
  have ha := once_acquire
  have hcas := run_call_cas_hit (P := Tryz.prog) Tryz.func293 (by kernel_rfl) (by kernel_rfl) (by kernel_rfl) .i32 (by kernel_rfl) (y := 1) hc hz
  have hc' : (w.setCell a (.int .i32 1)).cell? a = some (.int .i32 1) := World.cell?_setCell_same w a _ hc
  have hcv := run_convert_to_unsafe (P := Tryz.prog) (src := 381) (dst := 385) Tryz.underlying381 Tryz.underlying385 (by kernel_rfl) hc'
  go_enter Tryz.func278, Tryz.ntmps278
  go_wp2
  first | go_end0 | (simp only [Exit.inBlock, Exit.then]; refine bodyPost_ret (results_none rfl _ _ _) rfl ?_) | refine bodyPost_ret (results_none rfl _ _ _) rfl ?_
  go_wp2
  go_end0
  exact ⟨rfl, rfl⟩

end Go.Proofs.YtcliejdiaohamaaGreat

set_option linter.unusedSimpArgs false
set_option linter.unusedVariables false
namespace Go.Proofs.YtcliejdiaohamaaGreat
open Go.RowKit Go.Cib
attribute [local go_sem] cell_set Later.cell Later.frozen Grw.cell Grw.frozen

/-- '(*sync/atomic.Bool).Load'. -/
theorem bool_load {a : Addr} {x : Int} {w : World} (h : w.cell? a = some (.int .u32 x)) : Calls Tryz.prog 267 #[.pointer (some a)] w fun e w' => e = .returned (.bool (x != 0)) ∧ w' = w := by
  have hl := once_load h
  go_enter Tryz.func267, Tryz.ntmps267
  go_wp2_with fail
  go_ret
  exact ⟨rfl, rfl⟩
set_option maxRecDepth 100000 in
set_option maxHeartbeats 1600000 in
/-- '(*sync.Once).doSlow', not yet done and the lock free: the function is called under the lock. -/
theorem slow_any {b : Nat} {g : FuncId} {pre : Array Value} {R : World → Prop} {w : World} (h0 : w.cell? ⟨b, 0, none⟩ = some (.int .u32 0)) (h1 : w.cell? ⟨b, 1, none⟩ = some (.int .i32 0))
    (f0 : w.frozen? ⟨b, 0, none⟩ = false) (f1 : w.frozen? ⟨b, 1, none⟩ = false) (hg : ∀ args w, (callFunc g args).run Tryz.prog w = .ok (.enter g args) w)
    (hF : Hid (Calls Tryz.prog g pre (w.setCell ⟨b, 1, none⟩ (.int .i32 1)) fun e w' => e = .returned (.tuple #[]) ∧ R w'))
    (hR : Hid (∀ w', R w' → w'.cell? ⟨b, 0, none⟩ = some (.int .u32 0) ∧ w'.cell? ⟨b, 1, none⟩ = some (.int .i32 1) ∧ w'.frozen? ⟨b, 0, none⟩ = false ∧ w'.frozen? ⟨b, 1, none⟩ = false)) :
    Calls Tryz.prog 268 #[.pointer (some ⟨b, 0, none⟩), .func (.func g) pre #[]] w fun e w' => e = .returned (.tuple #[]) ∧
      ∃ w2, R w2 ∧ w' = (w2.drew.setCell ⟨b, 0, none⟩ (.int .u32 1)).setCell ⟨b, 1, none⟩ (.int .i32 0) := by
  have hL := bool_load (w := w.setCell ⟨b, 1, none⟩ (.int .i32 1)) (a := ⟨b, 0, none⟩) (x := 0) ((World.cell?_setCell_other _ ⟨b, 1, none⟩ ⟨b, 0, none⟩ _ (by simp)).trans h0)
  have hnot : ∀ (x : Bool) (w : World), (Op.unary .not (.bool x)).run Tryz.prog w = .ok (.bool (!x)) w := fun _ _ => rfl
  go_enter_defers Tryz.func268, Tryz.ntmps268
  go_wp2_with (first | (go_at_call 278; refine (lock_free ⟨b, 1, none⟩ _ (by go_simp) (by go_simp)).mono ?_; rintro e w' ⟨rfl, rfl⟩) | (go_at_call 267; refine hL.mono ?_; rintro e w' ⟨rfl, rfl⟩))
  refine hF.out.mono ?_
  rintro e w2 ⟨rfl, hr⟩
  obtain ⟨r0, r1, r2, r3⟩ := hR.out w2 hr
  have HR := Lib.hid hr
  clear hF hR hr hL
  go_wp2_with fail
  refine leaves_cons (f := 280) (args := #[.pointer (some ⟨b, 0, none⟩), .bool true]) (by simp) (by simp [go_sem]) ?_
  refine (store_deferred ⟨b, 0, none⟩ (.int .u32 0) .returning _ r0 r2).mono ?_
  rintro e u' w'' ⟨rfl, rfl, rfl⟩
  refine leaves_cons (f := 279) (args := #[.pointer (some ⟨b, 1, none⟩)]) (by simp [settle]) (by simp [go_sem]) ?_
  refine (unlock_deferred ⟨b, 1, none⟩ _ _ ?_ (by simp [r3])).mono ?_
  · refine (World.cell?_setCell_other _ ⟨b, 0, none⟩ ⟨b, 1, none⟩ _ (by simp)).trans ?_
    rw [World.cell?_drew]; exact r1
  rintro e u' w'' ⟨rfl, rfl, rfl⟩
  have hw : ∃ w3, R w3 ∧ (w2.drew.setCell ⟨b, 0, none⟩ (.int .u32 1)).setCell ⟨b, 1, none⟩ (.int .i32 0) = (w3.drew.setCell ⟨b, 0, none⟩ (.int .u32 1)).setCell ⟨b, 1, none⟩ (.int .i32 0) := ⟨w2, HR.out, rfl⟩
  have HW := Lib.hid hw
  simp [Leaves, settle, results, Tryz.results268]
  exact HW.out
set_option maxRecDepth 100000 in
set_option maxHeartbeats 1600000 in
/-- '(*sync.Once).Do', not yet done, the lock free. -/
theorem do_first {b : Nat} {g : FuncId} {pre : Array Value} {R : World → Prop} {w : World} (h0 : w.cell? ⟨b, 0, none⟩ = some (.int .u32 0)) (h1 : w.cell? ⟨b, 1, none⟩ = some (.int .i32 0))
    (f0 : w.frozen? ⟨b, 0, none⟩ = false) (f1 : w.frozen? ⟨b, 1, none⟩ = false) (hg : ∀ args w, (callFunc g args).run Tryz.prog w = .ok (.enter g args) w)
    (hF : Hid (Calls Tryz.prog g pre (w.setCell ⟨b, 1, none⟩ (.int .i32 1)) fun e w' => e = .returned (.tuple #[]) ∧ R w'))
    (hR : Hid (∀ w', R w' → w'.cell? ⟨b, 0, none⟩ = some (.int .u32 0) ∧ w'.cell? ⟨b, 1, none⟩ = some (.int .i32 1) ∧ w'.frozen? ⟨b, 0, none⟩ = false ∧ w'.frozen? ⟨b, 1, none⟩ = false)) :
    Calls Tryz.prog 247 #[.pointer (some ⟨b, 0, none⟩), .func (.func g) pre #[]] w fun e w' => e = .returned (.tuple #[]) ∧
      ∃ w2, R w2 ∧ w' = (w2.drew.setCell ⟨b, 0, none⟩ (.int .u32 1)).setCell ⟨b, 1, none⟩ (.int .i32 0) := by
  have hL := bool_load h0
  have hS := Lib.hid (slow_any h0 h1 f0 f1 hg hF hR)
  have hnot : ∀ (x : Bool) (w : World), (Op.unary .not (.bool x)).run Tryz.prog w = .ok (.bool (!x)) w := fun _ _ => rfl
  clear hF hR hg
  go_enter Tryz.func247, Tryz.ntmps247
  go_wp2_with (first | (go_at_call 267; refine hL.mono ?_; rintro e w' ⟨rfl, rfl⟩) | (go_at_call 268; refine hS.out.mono ?_; rintro e w' ⟨rfl, hx⟩; have HX := Lib.hid hx; clear hx hS hL))
  go_end0
  exact ⟨rfl, HX.out⟩
set_option maxRecDepth 100000 in
/-- '(*sync.Once).Do', done already: the function is not called. -/
theorem do_done {a : Addr} {d : Int} (hd : ¬ d = 0) (fv : Value) {w : World} (h0 : w.cell? a = some (.int .u32 d)) :
    Calls Tryz.prog 247 #[.pointer (some a), fv] w fun e w' => e = .returned (.tuple #[]) ∧ w' = w := by
  have hL := bool_load h0
  have hnot : ∀ (x : Bool) (w : World), (Op.unary .not (.bool x)).run Tryz.prog w = .ok (.bool (!x)) w := fun _ _ => rfl
  have hd' : (d != 0) = true := by simp [hd]
  go_enter Tryz.func247, Tryz.ntmps247
  go_wp2_with (go_at_call 267; refine hL.mono ?_; rintro e w' ⟨rfl, rfl⟩)
  go_end0
  exact ⟨rfl, rfl⟩
end Go.Proofs.YtcliejdiaohamaaGreat

set_option linter.unusedSimpArgs false
set_option linter.unusedVariables false
namespace Go.Proofs.YtcliejdiaohamaaGreat
open Go.RowKit Go.Cib
attribute [local go_sem] cell_set Later.cell Later.frozen Grw.cell Grw.frozen

/-- Times x. -/
def xt (a : Nat) : Nat := if 2 * a < 256 then 2 * a else (2 * a) ^^^ 285
def xtn : Nat → Nat → Nat
  | 0, a => a
  | n + 1, a => xt (xtn n a)
def ex (i : Nat) : Nat := xtn i 1
def lgFrom (a : Nat) : Nat → Nat → Nat
  | 0, i => i
  | n + 1, i => if ex i = a then i else lgFrom a n (i + 1)
def lg (a : Nat) : Nat := lgFrom a 255 0
def gm (a b : Nat) : Nat := if a = 0 ∨ b = 0 then 0 else ex (lg a + lg b)
theorem xt_lt {a : Nat} (h : a < 256) : xt a < 256 := by
  have : ∀ a : Fin 256, xt a.1 < 256 := by decide +kernel
  exact this ⟨a, h⟩
theorem xt_xor {a b : Nat} (ha : a < 256) (hb : b < 256) : xt (a ^^^ b) = xt a ^^^ xt b := by
  have : ∀ a b : Fin 256, xt (a.1 ^^^ b.1) = xt a.1 ^^^ xt b.1 := by decide +kernel
  exact this ⟨a, ha⟩ ⟨b, hb⟩
theorem xtn_lt {a : Nat} (h : a < 256) : ∀ n, xtn n a < 256
  | 0 => h
  | n + 1 => xt_lt (xtn_lt h n)
theorem xor_lt {a b : Nat} (ha : a < 256) (hb : b < 256) : a ^^^ b < 256 := Nat.xor_lt_two_pow (n := 8) ha hb
theorem xtn_xor {a b : Nat} (ha : a < 256) (hb : b < 256) : ∀ n, xtn n (a ^^^ b) = xtn n a ^^^ xtn n b
  | 0 => rfl
  | n + 1 => by
    show xt (xtn n (a ^^^ b)) = _
    rw [xtn_xor ha hb n, xt_xor (xtn_lt ha n) (xtn_lt hb n)]; rfl
theorem xtn_add (a m : Nat) : ∀ n, xtn (n + m) a = xtn n (xtn m a)
  | 0 => by rw [Nat.zero_add]; rfl
  | n + 1 => by rw [Nat.succ_add]; show xt (xtn (n + m) a) = _; rw [xtn_add a m n]; rfl
theorem xtn_zero : ∀ n, xtn n 0 = 0
  | 0 => rfl
  | n + 1 => by show xt (xtn n 0) = 0; rw [xtn_zero n]; rfl
theorem ex_255 : ex 255 = 1 := by decide +kernel
theorem ex_lg {a : Nat} (h0 : a ≠ 0) (h : a < 256) : ex (lg a) = a ∧ lg a < 255 := by
  have : ∀ a : Fin 256, a.1 ≠ 0 → ex (lg a.1) = a.1 ∧ lg a.1 < 255 := by decide +kernel
  exact this ⟨a, h⟩ h0
theorem ex_add (i j : Nat) : ex (i + j) = xtn i (ex j) := xtn_add 1 j i
theorem ex_period (i : Nat) : ex (i + 255) = ex i := by rw [ex_add, ex_255]; rfl
theorem ex_lt (i : Nat) : ex i < 256 := xtn_lt (by decide) i
/-- Times a is so many times x. -/
theorem gm_eq {a b : Nat} (ha : a ≠ 0) (hb : b < 256) : gm a b = xtn (lg a) b := by
  unfold gm
  by_cases h : b = 0
  · subst h; rw [if_pos (.inr rfl), xtn_zero]
  · rw [if_neg (by omega), ex_add, (ex_lg h hb).1]
theorem gm_zero (a : Nat) : gm a 0 = 0 := by unfold gm; rw [if_pos (.inr rfl)]
theorem gm_comm (a b : Nat) : gm a b = gm b a := by
  unfold gm
  rw [Nat.add_comm]
  by_cases h : a = 0 ∨ b = 0
  · rw [if_pos h, if_pos h.symm]
  · rw [if_neg h, if_neg (fun h2 => h h2.symm)]
theorem gm_lt {a b : Nat} : gm a b < 256 := by
  unfold gm
  split
  · omega
  · exact ex_lt _
theorem gm_xor {a b c : Nat} (hb : b < 256) (hc : c < 256) : gm a (b ^^^ c) = gm a b ^^^ gm a c := by
  by_cases h : a = 0
  · subst h; unfold gm; simp
  · rw [gm_eq h (xor_lt hb hc), gm_eq h hb, gm_eq h hc, xtn_xor hb hc]
end Go.Proofs.YtcliejdiaohamaaGreat

set_option linter.unusedSimpArgs false
set_option linter.unusedVariables false
namespace Go.Proofs.YtcliejdiaohamaaGreat
open Go.RowKit Go.Cib
attribute [local go_sem] cell_set Later.cell Later.frozen Grw.cell Grw.frozen

theorem ex_mod (i : Nat) : ex i = ex (i % 255) := by
  have h : ∀ q r, ex (r + 255 * q) = ex r := by
    intro q
    induction q with
    | zero => intro r; rfl
    | succ q ih => intro r; rw [show r + 255 * (q + 1) = (r + 255 * q) + 255 by omega, ex_period, ih]
  have := h (i / 255) (i % 255)
  rw [show i % 255 + 255 * (i / 255) = i from Nat.mod_add_div i 255] at this
  exact this
theorem lg_ex_lt {i : Nat} (h : i < 255) : lg (ex i) = i := by
  have : ∀ i : Fin 255, lg (ex i.1) = i.1 := by decide +kernel
  exact this ⟨i, h⟩
theorem lg_ex (i : Nat) : lg (ex i) = i % 255 := by rw [ex_mod, lg_ex_lt (Nat.mod_lt _ (by decide))]
theorem ex_ne (i : Nat) : ex i ≠ 0 := by
  rw [ex_mod]
  have : ∀ i : Fin 255, ex i.1 ≠ 0 := by decide +kernel
  exact this ⟨i % 255, Nat.mod_lt _ (by decide)⟩
theorem ex_congr {i j : Nat} (h : i % 255 = j % 255) : ex i = ex j := by rw [ex_mod i, h, ← ex_mod]
theorem gm_ne {a b : Nat} (ha : a ≠ 0) (hb : b ≠ 0) : gm a b ≠ 0 := by
  unfold gm
  rw [if_neg (by omega)]
  exact ex_ne _
theorem gm_assoc (a b c : Nat) : gm (gm a b) c = gm a (gm b c) := by
  by_cases ha : a = 0
  · subst ha; simp [gm]
  by_cases hb : b = 0
  · subst hb; simp [gm]
  by_cases hc : c = 0
  · subst hc; simp [gm]
  have h1 : gm a b = ex (lg a + lg b) := by unfold gm; rw [if_neg (by omega)]
  have h2 : gm b c = ex (lg b + lg c) := by unfold gm; rw [if_neg (by omega)]
  rw [h1, h2]
  have n1 := ex_ne (lg a + lg b)
  have n2 := ex_ne (lg b + lg c)
  unfold gm
  rw [if_neg (by omega), if_neg (by omega), lg_ex, lg_ex]
  exact ex_congr (by omega)
theorem lg_one : lg 1 = 0 := by decide +kernel
theorem gm_one {b : Nat} (hb : b < 256) : gm 1 b = b := by rw [gm_eq (by decide) hb, lg_one]; rfl
/-- One by a number. -/
def inv (a : Nat) : Nat := ex (255 - lg a)
theorem gm_inv {a : Nat} (h0 : a ≠ 0) (h : a < 256) : gm a (inv a) = 1 := by
  have h1 := (ex_lg h0 h).2
  have n1 := ex_ne (255 - lg a)
  unfold gm inv
  rw [if_neg (by omega), lg_ex]
  rw [show ex (lg a + (255 - lg a) % 255) = ex 255 from ex_congr (by omega), ex_255]
theorem inv_lt (a : Nat) : inv a < 256 := ex_lt _
end Go.Proofs.YtcliejdiaohamaaGreat

set_option linter.unusedSimpArgs false
set_option linter.unusedVariables false
namespace Go.Proofs.YtcliejdiaohamaaGreat
open Go.RowKit Go.Cib
attribute [local go_sem] cell_set Later.cell Later.frozen Grw.cell Grw.frozen

/-- A field with its tables. -/
structure Fld (w : World) (b : Nat) : Prop where
  lt : b < w.heap.size
  don : w.cell? ⟨b, 0, none⟩ = some (.int .u32 1)
  made : w.cell? ⟨b, 3, none⟩ = some (.bool true)
  exp : ∀ i, i < 510 → w.cell? ⟨b, 4 + i, none⟩ = some (.int .u8 (ex i))
  log : ∀ x, x ≠ 0 → x < 256 → w.cell? ⟨b, 514 + x, none⟩ = some (.int .i64 (lg x))
theorem Fld.keep {w w' : World} {b : Nat} (h : Fld w b) (hb : w'.heap[b]? = w.heap[b]?) : Fld w' b where
  lt := Go.Cib.lt_of_block h.lt hb
  don := (World.cell?_of_block (a := ⟨b, 0, none⟩) hb).trans h.don
  made := (World.cell?_of_block (a := ⟨b, 3, none⟩) hb).trans h.made
  exp i hi := (World.cell?_of_block (a := ⟨b, 4 + i, none⟩) hb).trans (h.exp i hi)
  log x h0 hx := (World.cell?_of_block (a := ⟨b, 514 + x, none⟩) hb).trans (h.log x h0 hx)
theorem Fld.below {w w' : World} {b : Nat} (h : Fld w b) (hb : Below w.heap.size w w') : Fld w' b := h.keep (hb.block b h.lt)

/-- While they are filled: i powers are there. -/
structure FillI (w : World) (b i : Nat) (cs : Array Value) : Prop where
  box : BoxAt w b cs
  don : cs[0]? = some (.int .u32 0)
  lock : cs[1]? = some (.int .i32 1)
  made : cs[3]? = some (.bool true)
  size : cs.size = 770
  exp : ∀ j, j < i → cs[4 + j]? = some (.int .u8 (ex j)) ∧ cs[4 + (j + 255)]? = some (.int .u8 (ex j))
  log : ∀ j, j < i → cs[514 + ex j]? = some (.int .i64 j)
theorem set_ne {cs : Array Value} {o o' : Nat} {v : Value} (h : o ≠ o') : (cs.setIfInBounds o v)[o']? = cs[o']? := by rw [Array.getElem?_setIfInBounds, if_neg h]
theorem set_eq {cs : Array Value} {o : Nat} {v : Value} (h : o < cs.size) : (cs.setIfInBounds o v)[o]? = some v := by rw [Array.getElem?_setIfInBounds, if_pos rfl, if_pos h]
theorem FillI.next {w : World} {b i : Nat} {cs : Array Value} (h : FillI w b i cs) (hi : i < 255) :
    FillI (((w.setCell ⟨b, 4 + i, none⟩ (.int .u8 (ex i))).setCell ⟨b, 4 + (i + 255), none⟩ (.int .u8 (ex i))).setCell ⟨b, 514 + ex i, none⟩ (.int .i64 i)) b (i + 1)
      (((cs.setIfInBounds (4 + i) (.int .u8 (ex i))).setIfInBounds (4 + (i + 255)) (.int .u8 (ex i))).setIfInBounds (514 + ex i) (.int .i64 i)) := by
  have he := ex_lt i
  have hs := h.size
  refine ⟨((h.box.set _ _).set _ _).set _ _, ?_, ?_, ?_, ?_, fun j hj => ?_, fun j hj => ?_⟩
  · rw [set_ne (by omega), set_ne (by omega), set_ne (by omega)]; exact h.don
  · rw [set_ne (by omega), set_ne (by omega), set_ne (by omega)]; exact h.lock
  · rw [set_ne (by omega), set_ne (by omega), set_ne (by omega)]; exact h.made
  · simp [hs]
  · rw [set_ne (by omega), set_ne (o := 514 + ex i) (by omega)]
    by_cases e : j = i
    · subst e
      refine ⟨?_, ?_⟩
      · rw [set_ne (by omega), set_eq (by omega)]
      · rw [set_eq (by simp [hs]; omega)]
    · obtain ⟨h1, h2⟩ := h.exp j (by omega)
      refine ⟨?_, ?_⟩
      · rw [set_ne (by omega), set_ne (by omega)]; exact h1
      · rw [set_ne (by omega), set_ne (by omega)]; exact h2
  · by_cases e : j = i
    · subst e
      rw [set_eq (by simp [hs]; omega)]
    · have hne : ex i ≠ ex j := fun h2 => e (by
        have h3 := congrArg lg h2
        rw [lg_ex_lt hi, lg_ex_lt (by omega)] at h3
        exact h3.symm)
      have hj2 := ex_lt j
      rw [set_ne (by omega), set_ne (by omega), set_ne (by omega)]
      exact h.log j (by omega)

theorem FillI.drew {w : World} {b i : Nat} {cs : Array Value} (h : FillI w b i cs) : FillI w.drew b i cs := ⟨h.box.keep rfl, h.don, h.lock, h.made, h.size, h.exp, h.log⟩
theorem keep_drew {F : Nat → Prop} {a w : World} (h : Keep F a w) : Keep F a w.drew := h.trans (G := fun _ => False) (Keep.of_below ((Below.refl _ _).drew)) (fun _ h => h.elim)
theorem xt_bits {a : Nat} (h : ¬ 2 * a < 256) (ha : a < 256) : bits .xor .i64 ((a : Int) * 2) 285 = (xt a : Int) := by
  have : ∀ a : Fin 256, ¬ 2 * a.1 < 256 → bits .xor .i64 ((a.1 : Int) * 2) 285 = (xt a.1 : Int) := by decide +kernel
  exact this ⟨a, ha⟩ h
set_option maxRecDepth 100000 in
set_option maxHeartbeats 4000000 in
theorem fill_any {w : World} {b : Nat} {cs : Array Value} (h : FillI w b 0 cs) :
    Calls Tryz.prog 248 #[.pointer (some ⟨b, 0, none⟩)] w fun e w' => e = .returned (.tuple #[]) ∧ (∃ cs', FillI w' b 255 cs') ∧ Keep (· = b) w w' := by
  have HI := Lib.hid h
  clear h
  go_enter Tryz.func248, Tryz.ntmps248
  go_wp2_with fail
  go_loopw [2, 4] (fun x vi wr => ∃ (k : Nat) (cs' : Array Value), k ≤ 255 ∧ vi = .int .i64 k ∧ x = .int .i64 (ex k) ∧ Hid (FillI wr b k cs') ∧ Hid (Keep (· = b) w wr)) (fun _ vi _ => 255 - (intOf vi).toNat)
  case atStart => exact ⟨0, cs, by omega, rfl, rfl, HI, Lib.hid (Keep.refl _ _)⟩
  case round =>
    obtain ⟨k, cs', hk, rfl, rfl, HF, HK⟩ := hrel
    by_cases hlt : k < 255
    · have q1 : (k : Int) < 255 := by omega
      have q2 : (0 : Int) ≤ k := Int.natCast_nonneg _
      have he := ex_lt k
      have q3 : IntKind.u8.wrap (ex k : Int) = (ex k : Int) := by rw [IntKind.wrap_u8]; omega
      have q4 : (0 : Int) ≤ (ex k : Int) := Int.natCast_nonneg _
      have q5 : (ex k : Int) < 256 := by omega
      have q6 : IntKind.i64.wrap ((k : Int) + 255) = (k : Int) + 255 := by rw [IntKind.wrap_i64]; omega
      have q7 : ((k : Int) + 255).toNat = k + 255 := by omega
      have hs := HF.out.size
      obtain ⟨v1, hv1⟩ : ∃ v1, cs'[4 + k]? = some v1 := ⟨_, Array.getElem?_eq_getElem (by omega)⟩
      obtain ⟨v2, hv2⟩ : ∃ v2, cs'[4 + (k + 255)]? = some v2 := ⟨_, Array.getElem?_eq_getElem (by omega)⟩
      obtain ⟨v3, hv3⟩ : ∃ v3, cs'[514 + ex k]? = some v3 := ⟨_, Array.getElem?_eq_getElem (by omega)⟩
      have c1 := (HF.out.box.cell (4 + k)).trans hv1
      have c2 := (HF.out.box.cell (4 + (k + 255))).trans hv2
      have c3 := (HF.out.box.cell (514 + ex k)).trans hv3
      have f1 := HF.out.box.frozen (4 + k)
      have f2 := HF.out.box.frozen (4 + (k + 255))
      have f3 := HF.out.box.frozen (514 + ex k)
      clear hs hv1 hv2 hv3
      go_wp2_with fail
      have r1 : (k : Int) < 510 := by omega
      have r2 : (k : Int) + 255 < 510 := by omega
      have r3 : (0 : Int) ≤ (k : Int) + 255 := by omega
      go_region_held3 (fun w' => True) (trivial) (fail)
      clear r1 r2 r3
      have r4 : IntKind.i64.wrap ((ex k : Int) * 2) = (ex k : Int) * 2 := by rw [IntKind.wrap_i64]; omega
      by_cases hx : 2 * ex k < 256
      · have r5 : ¬ (ex k : Int) * 2 ≥ 256 := by omega
        have r6 : (ex k : Int) * 2 = (ex (k + 1) : Int) := by
          show _ = ((xt (ex k) : Nat) : Int)
          unfold xt
          rw [if_pos hx]; omega
        have HX := Lib.hid r6
        clear r6
        go_wp2_with fail
        exact ⟨⟨k + 1, _, by omega, by go_num, by rw [HX.out], Lib.hid (HF.out.next hlt).drew, Lib.hid (keep_drew (((HK.out.setCell (fun _ => rfl) _).setCell (fun _ => rfl) _).setCell (fun _ => rfl) _))⟩, by simp [intOf]; omega⟩
      · have r5 : (ex k : Int) * 2 ≥ 256 := by omega
        have r6 : bits .xor .i64 ((ex k : Int) * 2) 285 = (ex (k + 1) : Int) := xt_bits hx he
        have HX := Lib.hid r6
        clear r6
        go_wp2_with fail
        exact ⟨⟨k + 1, _, by omega, by go_num, by rw [HX.out], Lib.hid (HF.out.next hlt).drew, Lib.hid (keep_drew (((HK.out.setCell (fun _ => rfl) _).setCell (fun _ => rfl) _).setCell (fun _ => rfl) _))⟩, by simp [intOf]; omega⟩
    · obtain rfl : k = 255 := by omega
      go_wp2_with fail
      go_end0
      exact ⟨rfl, ⟨_, HF.out⟩, HK.out⟩

/-- A field at its beginning. -/
structure FldNew (w : World) (b : Nat) : Prop where
  ex : ∃ cs : Array Value, BoxAt w b cs ∧ cs.size = 770 ∧ cs[0]? = some (.int .u32 0) ∧ cs[1]? = some (.int .i32 0) ∧ cs[3]? = some (.bool true)
theorem FldNew.fill {w : World} {b : Nat} (h : FldNew w b) : ∃ cs, FillI (w.setCell ⟨b, 1, none⟩ (.int .i32 1)) b 0 cs := by
  obtain ⟨cs, hb, h1, h2, h3, h4⟩ := h.ex
  exact ⟨_, BoxAt.set hb 1 _, by rw [set_ne (by omega)]; exact h2, set_eq (by omega), by rw [set_ne (by omega)]; exact h4, by rw [Array.size_setIfInBounds, h1], fun _ h => absurd h (Nat.not_lt_zero _), fun _ h => absurd h (Nat.not_lt_zero _)⟩
theorem FillI.done {w : World} {b : Nat} {cs : Array Value} (h : FillI w b 255 cs) : Fld ((w.drew.setCell ⟨b, 0, none⟩ (.int .u32 1)).setCell ⟨b, 1, none⟩ (.int .i32 0)) b := by
  have hb := (h.drew.box.set 0 (.int .u32 1)).set 1 (.int .i32 0)
  have hs := h.size
  refine ⟨hb.lt, (hb.cell 0).trans ?_, (hb.cell 3).trans ?_, fun i hi => (hb.cell _).trans ?_, fun x h0 hx => (hb.cell _).trans ?_⟩
  · rw [set_ne (by omega), set_eq (by omega)]
  · rw [set_ne (by omega), set_ne (by omega)]; exact h.made
  · rw [set_ne (by omega), set_ne (by omega)]
    by_cases e : i < 255
    · exact (h.exp i e).1
    · have := (h.exp (i - 255) (by omega)).2
      rw [show i - 255 + 255 = i by omega] at this
      rw [this, ← ex_period (i - 255), show i - 255 + 255 = i by omega]
  · rw [set_ne (by omega), set_ne (by omega)]
    obtain ⟨h1, h2⟩ := ex_lg h0 hx
    have := h.log (lg x) h2
    rwa [h1] at this
theorem call_fill (args : Array Value) (w : World) : (callFunc 248 args).run Tryz.prog w = .ok (.enter 248 args) w := by go_simp
set_option maxRecDepth 100000 in
/-- The first use of a field. -/
theorem ready_new {w : World} {b : Nat} (h : FldNew w b) :
    Calls Tryz.prog 214 #[.pointer (some ⟨b, 0, none⟩)] w fun e w' => e = .returned (.bool true) ∧ Fld w' b ∧ Keep (· = b) w w' := by
  obtain ⟨cs, hc⟩ := h.fill
  obtain ⟨c0, hb, _, h0, h1, h3⟩ := h.ex
  have hF := Lib.hid (fill_any hc)
  have k3 : w.cell? ⟨b, 3, none⟩ = some (.bool true) := (BoxAt.cell hb 3).trans h3
  have hD := Lib.hid (do_first (w := w) (b := b) (pre := #[.pointer (some ⟨b, 0, none⟩)]) (R := fun w' => (∃ cs', FillI w' b 255 cs') ∧ Keep (· = b) (w.setCell ⟨b, 1, none⟩ (.int .i32 1)) w') ((BoxAt.cell hb 0).trans h0) ((BoxAt.cell hb 1).trans h1) (BoxAt.frozen hb 0) (BoxAt.frozen hb 1) call_fill (Lib.hid hF.out)
    (Lib.hid fun w' hw => by
      obtain ⟨⟨cs', h1⟩, _⟩ := hw
      exact ⟨(h1.box.cell 0).trans h1.don, (h1.box.cell 1).trans h1.lock, h1.box.frozen 0, h1.box.frozen 1⟩))
  have HN := Lib.hid h
  clear hF h hc hb h0 h1 h3
  go_enter Tryz.func214, Tryz.ntmps214
  go_wp2_with (go_at_call 247; refine hD.out.mono ?_; rintro e w' ⟨rfl, w2, ⟨⟨cs', h1⟩, h2⟩, rfl⟩; have H1 := Lib.hid h1; have H2 := Lib.hid h2; clear h1 h2 hD)
  go_ret
  exact ⟨rfl, H1.out.done, (keep_drew (((Keep.refl (· = b) w).setCell (fun _ => rfl) _).trans H2.out (fun k hk _ => hk))).setCell (fun _ => rfl) _ |>.setCell (fun _ => rfl) _⟩
set_option maxRecDepth 100000 in
theorem ready_any {w : World} {b : Nat} (h : Fld w b) :
    Calls Tryz.prog 214 #[.pointer (some ⟨b, 0, none⟩)] w fun e w' => e = .returned (.bool true) ∧ w' = w := by
  have k3 := h.made
  have hD := fun fv => do_done (a := ⟨b, 0, none⟩) (d := 1) (by decide) fv h.don
  clear h
  go_enter Tryz.func214, Tryz.ntmps214
  go_wp2_with (go_at_call 247; refine (hD _).mono ?_; rintro e w' ⟨rfl, rfl⟩)
  go_ret
  exact ⟨rfl, rfl⟩
set_option maxRecDepth 100000 in
theorem fldnew_any {w : World} :
    Calls Tryz.prog 30 #[] w fun e w' => e = .returned (.pointer (some ⟨w.heap.size, 0, none⟩)) ∧ FldNew w' w.heap.size ∧ Below w.heap.size w w' := by
  go_enter Tryz.func30, Tryz.ntmps30
  go_wp2_with fail
  go_ret
  exact ⟨rfl, ⟨_, BoxAt.new w _ _, by kernel_rfl, by kernel_rfl, by kernel_rfl, by kernel_rfl⟩, (Below.refl _ _).alloc (Nat.le_refl _) _⟩
end Go.Proofs.YtcliejdiaohamaaGreat
