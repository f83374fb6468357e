/-
  Full, and the small questions about a drive.
-/
import Derived.Test.YtolmpopjonkfgaaRows
import Derived.Test.YtolmpopjonkfgaaLib3
import Derived.Deep.OwnRows
set_option linter.unusedSimpArgs false
set_option linter.unusedVariables false
namespace Go.Proofs.Ytolmpopjonkfgaa
open Go.RowKit Go.Cib
attribute [local go_sem] cell_set Later.cell Later.frozen Grw.cell Grw.frozen

theorem ret_bool2 {a b : Bool} (h : a = b) : Ending.returned (.bool a) = .returned (.bool b) := by rw [h]
theorem make64 (w : World) : (Instr.makeSlice 27 (.int .i64 64) (.int .i64 64)).run Try.prog w = .ok (.slice (some ⟨w.heap.size, 0, none⟩) 64 64) (w.alloc (.cells ((List.replicate 64 (0 : Int)).map (Value.int .u8)).toArray 5)) := by
  have h := run_make_row' (P := Try.prog) 27 5 (.int .u8 0) 1 (by kernel_rfl) (by kernel_rfl) rfl .i64 .i64 64 (by decide) (by decide) w
  rw [show madeCells #[Value.int .u8 0] 64 = ((List.replicate 64 (0 : Int)).map (Value.int .u8)).toArray from by kernel_rfl] at h
  exact h

/-- The first k bytes are z. -/
def fillTo (z : Int) (k : Nat) : List Int := List.replicate k z ++ List.replicate (64 - k) 0
theorem fillTo_set (z : Int) {k : Nat} (hk : k < 64) : (((fillTo z k).map (Value.int .u8)).toArray).setIfInBounds k (.int .u8 z) = ((fillTo z (k + 1)).map (Value.int .u8)).toArray := by
  apply Array.ext
  · simp [fillTo]; omega
  · intro i h1 h2
    simp only [fillTo, Array.getElem_setIfInBounds, List.getElem_toArray, List.getElem_map, List.getElem_append, List.length_replicate, List.getElem_replicate]
    by_cases h : k = i
    · subst h; simp
    · by_cases h3 : i < k
      · simp [h, h3, show i < k + 1 by omega]
      · simp [h, h3, show ¬ i < k + 1 by omega, List.getElem_append, List.getElem_set]; omega

set_option maxRecDepth 100000 in
set_option maxHeartbeats 1000000 in
theorem full_any (z : Int) (w : World) :
    Calls Try.prog 13 #[.int .u8 z] w fun e w' => ∃ A, e = .returned (.slice A 64 64) ∧ RdL U8R 1 (w.heap.size ≤ ·) w' A 64 (List.replicate 64 z) ∧ Below w.heap.size w w' := by
  go_enter Try.func13, Try.ntmps13
  have hmk := make64 w
  have b0 := BoxAt.new w ((List.replicate 64 (0 : Int)).map (Value.int .u8)).toArray 5
  obtain ⟨w1, hw1⟩ : ∃ w1, w.alloc (.cells ((List.replicate 64 (0 : Int)).map (Value.int .u8)).toArray 5) = w1 := ⟨_, rfl⟩
  have h1 : Below w.heap.size w w1 := by rw [← hw1]; exact (Below.refl _ _).alloc (Nat.le_refl _) _
  rw [hw1] at hmk b0
  have B0 := Lib.hid b0; clear b0 hw1
  go_wp2_with fail
  clear hmk
  go_loopw [4] (fun vi wr => ∃ k : Nat, k ≤ 64 ∧ vi = .int .i64 k ∧ Below w.heap.size w wr ∧ Hid (BoxAt wr w.heap.size ((fillTo z k).map (Value.int .u8)).toArray)) (fun vi _ => 64 - (intOf vi).toNat)
  case atStart => exact ⟨0, Nat.zero_le _, rfl, h1, B0⟩
  case round =>
    obtain ⟨k, hk, rfl, hb, hbox⟩ := hrel
    by_cases hlt : k < 64
    · have k0 : wr.cell? ⟨w.heap.size, k, none⟩ = some (.int .u8 ((fillTo z k)[k]'(by simp [fillTo]; omega))) := by rw [hbox.out.cell]; simp [show k < (fillTo z k).length by simp [fillTo]; omega]
      have k1 := hbox.out.frozen k
      go_wp2_with fail
      refine ⟨⟨k + 1, by omega, by go_num, hb.setCell (Nat.le_refl _) _, Lib.hid ?_⟩, by simp [intOf]; omega⟩
      rw [← fillTo_set z hlt]
      exact hbox.out.set k _
    · obtain rfl : k = 64 := by omega
      go_wp2_with fail
      go_ret
      have h2 := hbox.out.bytes (xs := fillTo z 64) (S := (w.heap.size ≤ ·)) (Nat.le_refl _)
      have e : fillTo z 64 = List.replicate 64 z := by simp [fillTo]
      rw [e] at h2
      exact ⟨_, rfl, by simpa using h2, hb⟩
end Go.Proofs.Ytolmpopjonkfgaa
