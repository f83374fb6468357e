/-
  The example that the laws on chains end with; what bounds their arguments.
-/
import Derived.Test.YtnceaimhhfjmdaaPlain22
set_option linter.unusedSimpArgs false
set_option linter.unusedVariables false
namespace Go.Proofs.Ytnceaimhhfjmdaa
open Go.RowKit Go.Cib
attribute [local go_sem] cell_set Later.cell Later.frozen Grw.cell Grw.frozen

def l0 : List Ver := [⟨9, false, ⟨[], 0, 0⟩⟩, ⟨5, false, ⟨[], 0, 3⟩⟩, ⟨2, false, ⟨[], 0, 0⟩⟩]

theorem rd_l0 (w : World) : RdL VerR 5 (fun _ => True) (w.alloc (.cells #[.int .u64 9, .bool false, .slice none 0 0, .int .u64 0, .int .i64 0, .int .u64 5, .bool false, .slice none 0 0, .int .u64 0, .int .i64 3, .int .u64 2, .bool false, .slice none 0 0, .int .u64 0, .int .i64 0] 46)) (some ⟨w.heap.size, 0, none⟩) 3 l0 := by
  refine ⟨rfl, fun _ => ⟨w.heap.size, 0, rfl, trivial, by simp, fun i x hx => ?_⟩⟩
  have hcell : ∀ j, (w.alloc (.cells #[.int .u64 9, .bool false, .slice none 0 0, .int .u64 0, .int .i64 0, .int .u64 5, .bool false, .slice none 0 0, .int .u64 0, .int .i64 3, .int .u64 2, .bool false, .slice none 0 0, .int .u64 0, .int .i64 0] 46)).cell? ⟨w.heap.size, j, none⟩ = _ := fun j => cell_of_row _ w.heap.size j _ _ (0, 0) (heap_alloc_new w _)
  match i, hx with
  | 0, hx =>
    simp only [l0, List.getElem?_cons_zero, Option.some.injEq] at hx
    subst hx
    refine ⟨_, rfl, ⟨none, 0, 0, rfl, Nat.le_refl _, RdL.nil⟩, fun j v hj => ?_⟩
    rw [hcell]
    match j, hj with
    | 0, hj | 1, hj | 2, hj | 3, hj | 4, hj => simpa using hj
  | 1, hx =>
    simp only [l0, List.getElem?_cons_succ, List.getElem?_cons_zero, Option.some.injEq] at hx
    subst hx
    refine ⟨_, rfl, ⟨none, 0, 0, rfl, Nat.le_refl _, RdL.nil⟩, fun j v hj => ?_⟩
    rw [hcell]
    match j, hj with
    | 0, hj | 1, hj | 2, hj | 3, hj | 4, hj => simpa using hj
  | 2, hx =>
    simp only [l0, List.getElem?_cons_succ, List.getElem?_cons_zero, Option.some.injEq] at hx
    subst hx
    refine ⟨_, rfl, ⟨none, 0, 0, rfl, Nat.le_refl _, RdL.nil⟩, fun j v hj => ?_⟩
    rw [hcell]
    match j, hj with
    | 0, hj | 1, hj | 2, hj | 3, hj | 4, hj => simpa using hj

theorem small_l0 : Small l0 := by
  intro v hv
  simp only [l0, List.mem_cons, List.not_mem_nil, or_false] at hv
  rcases hv with rfl | rfl | rfl <;> simp

theorem rd_u64 (w : World) (x : Int) : RdL U64R 1 (fun _ => True) (w.alloc (.cells #[.int .u64 x] 41)) (some ⟨w.heap.size, 0, none⟩) 1 [x] := by
  refine ⟨rfl, fun _ => ⟨w.heap.size, 0, rfl, trivial, by simp, fun i y hy => ?_⟩⟩
  match i, hy with
  | 0, hy =>
    simp only [List.getElem?_cons_zero, Option.some.injEq] at hy
    subst hy
    refine ⟨_, rfl, rfl, fun j v hj => ?_⟩
    have hcell : (w.alloc (.cells #[.int .u64 x] 41)).cell? ⟨w.heap.size, 0 + 0 * 1 + j, none⟩ = _ := cell_of_row _ w.heap.size _ _ _ (0, 0) (heap_alloc_new w _)
    rw [hcell]
    match j, hj with
    | 0, hj => simpa using hj

theorem ex_prune1 : sel (keepP l0 [6]) 0 l0 = [⟨9, false, ⟨[], 0, 0⟩⟩, ⟨5, false, ⟨[], 0, 3⟩⟩] := by kernel_rfl
theorem ex_prune2 : sel (fun i => !keepP l0 [6] i) 0 l0 = [⟨2, false, ⟨[], 0, 0⟩⟩] := by kernel_rfl
theorem ex_at : atL l0 8 = some ⟨5, false, ⟨[], 0, 3⟩⟩ := by kernel_rfl
theorem ex_value : valueL l0 5 = some ⟨[], 0, 3⟩ := by kernel_rfl
theorem ex_add1 : addL l0 ⟨9, false, ⟨[], 0, 0⟩⟩ = none := by kernel_rfl
theorem ex_add1e : addE l0 ⟨9, false, ⟨[], 0, 0⟩⟩ = 2 := by kernel_rfl
theorem ex_add2 : addL l0 ⟨10, true, ⟨[], 0, 0⟩⟩ = some (⟨10, true, ⟨[], 0, 0⟩⟩ :: l0) := by kernel_rfl
theorem ex_add2e : addE l0 ⟨10, true, ⟨[], 0, 0⟩⟩ = 0 := by kernel_rfl
theorem ex_right : rightL (⟨10, true, ⟨[], 0, 0⟩⟩ :: l0) = true := by kernel_rfl
theorem small_l1 : Small (⟨10, true, ⟨[], 0, 0⟩⟩ :: l0) := by
  intro v hv
  rcases List.mem_cons.1 hv with rfl | hv
  · simp
  · exact small_l0 v hv

set_option maxRecDepth 100000 in
set_option maxHeartbeats 2000000 in
theorem chains_any (w : World) : Calls Try.prog 21 #[] w fun e w' => e = .returned (.bool true) ∧ Below w.heap.size w w' := by
  have b1 : Below w.heap.size w ((w.alloc (.cells #[.int .u64 9, .bool false, .slice none 0 0, .int .u64 0, .int .i64 0, .int .u64 5, .bool false, .slice none 0 0, .int .u64 0, .int .i64 3, .int .u64 2, .bool false, .slice none 0 0, .int .u64 0, .int .i64 0] 46)).alloc (.cells #[.int .u64 6] 41)) := (by repeat (first | (with_reducible exact Below.refl _ _) | (with_reducible assumption) | (with_reducible refine Below.drew ?_) | (with_reducible refine Below.setCell ?_ ?_ _) | (with_reducible refine Below.alloc ?_ ?_ _) | (with_reducible refine Below.later ?_ ?_ _) | (first | (with_reducible exact Nat.le_refl _) | omega | (simp only [World.size_alloc, World.size_setCell, World.size_drew] <;> omega))))
  have hl := (rd_l0 w).alloc VerR.stable (.cells #[.int .u64 6] 41)
  have hs := rd_u64 (w.alloc (.cells #[.int .u64 9, .bool false, .slice none 0 0, .int .u64 0, .int .i64 0, .int .u64 5, .bool false, .slice none 0 0, .int .u64 0, .int .i64 3, .int .u64 2, .bool false, .slice none 0 0, .int .u64 0, .int .i64 0] 46)) 6
  simp only [World.size_alloc] at hs
  go_enter Try.func21, Try.ntmps21
  go_wp2_with fail
  refine (prune_any (starts := [6]) _ _ 3 3 1 1 _ (by omega) (by omega) (Lib.hid hl) small_l0 (Lib.hid hs)).mono ?_
  rintro e w3 ⟨A3, n3, c3, A4, n4, c4, rfl, r3, _, r4, _, b3⟩
  rw [ex_prune1] at r3
  rw [ex_prune2] at r4
  obtain rfl : n3 = 2 := r3.1.symm
  obtain rfl : n4 = 1 := r4.1.symm
  have b3' := b1.trans (b3.mono b1.size)
  have hl3 := hl.below VerR.stable b3
  clear b1 b3 hl hs
  go_wp2_with fail
  refine (at_any _ 3 3 8 _ (by omega) (Lib.hid hl3) small_l0).mono ?_
  rw [ex_at]
  rintro e w4 ⟨_, rfl, ⟨A5, n5, c5, rfl, _, r5⟩, b4⟩
  simp only [Option.getD_some, Option.isSome_some]
  have b4' := b3'.trans (b4.mono b3'.size)
  have hl4 := hl3.below VerR.stable b4
  have r34 := r3.below VerR.stable b4
  have r44 := r4.below VerR.stable b4
  clear b3' b4 r3 r4 hl3 r5
  have x4 : ∀ o, (w4.alloc (.cells #[.int .u64 5, .bool false, .slice A5 n5 c5, .int .u64 0, .int .i64 3] 46)).cell? ⟨w4.heap.size, o, none⟩ = (#[.int .u64 5, .bool false, .slice A5 n5 c5, .int .u64 0, .int .i64 3] : Array Value)[o]? := fun o => cell_of_row _ w4.heap.size o _ _ (0, 0) (heap_alloc_new w4 _)
  have X4 := Lib.hid x4; clear x4
  go_wp2_with fail
  have s4 := b4'.size
  have b5 : Below w.heap.size w (w4.alloc (.cells #[.int .u64 5, .bool false, .slice A5 n5 c5, .int .u64 0, .int .i64 3] 46)) := (by repeat (first | (with_reducible exact Below.refl _ _) | (with_reducible assumption) | (with_reducible refine Below.drew ?_) | (with_reducible refine Below.setCell ?_ ?_ _) | (with_reducible refine Below.alloc ?_ ?_ _) | (with_reducible refine Below.later ?_ ?_ _) | (first | (with_reducible exact Nat.le_refl _) | omega | (simp only [World.size_alloc, World.size_setCell, World.size_drew] <;> omega))))
  refine (value_any _ 3 3 5 _ (by omega) (Lib.hid (hl4.alloc VerR.stable _)) small_l0).mono ?_
  rw [ex_value]
  rintro e w5 ⟨_, rfl, ⟨A6, n6, c6, rfl, _, r6⟩, b6⟩
  simp only [Option.getD_some, Option.isSome_some]
  have b5' := b5.trans (b6.mono b5.size)
  have hl5 := (hl4.alloc VerR.stable _).below VerR.stable b6
  have r35 := (r34.alloc VerR.stable _).below VerR.stable b6
  have r45 := (r44.alloc VerR.stable _).below VerR.stable b6
  have X5 := Lib.hid fun o => (b6.cell (p := ⟨w4.heap.size, o, none⟩) (by simp)).trans (X4.out o)
  have g4 : w4.heap.size < w5.heap.size := by have := b6.size; simp at this; omega
  clear b4' b5 b6 s4 r34 r44 hl4 r6 X4
  have x6 : ∀ o, (w5.alloc (.cells #[.slice A6 n6 c6, .int .u64 0, .int .i64 3] 44)).cell? ⟨w5.heap.size, o, none⟩ = (#[.slice A6 n6 c6, .int .u64 0, .int .i64 3] : Array Value)[o]? := fun o => cell_of_row _ w5.heap.size o _ _ (0, 0) (heap_alloc_new w5 _)
  have X6 := Lib.hid x6; clear x6
  go_wp2_with fail
  have s5 := b5'.size
  have b7 : Below w.heap.size w (w5.alloc (.cells #[.slice A6 n6 c6, .int .u64 0, .int .i64 3] 44)) := (by repeat (first | (with_reducible exact Below.refl _ _) | (with_reducible assumption) | (with_reducible refine Below.drew ?_) | (with_reducible refine Below.setCell ?_ ?_ _) | (with_reducible refine Below.alloc ?_ ?_ _) | (with_reducible refine Below.later ?_ ?_ _) | (first | (with_reducible exact Nat.le_refl _) | omega | (simp only [World.size_alloc, World.size_setCell, World.size_drew] <;> omega))))
  refine (add_any (x := ⟨9, false, ⟨[], 0, 0⟩⟩) _ none 3 3 0 0 _ (by omega) (Lib.hid (hl5.alloc VerR.stable _)) small_l0 (Lib.hid RdL.nil) (by omega)).mono ?_
  rw [ex_add1, ex_add1e]
  rintro e w6 ⟨A7, n7, c7, rfl, r7, _, b8⟩
  have b7' := b7.trans (b8.mono b7.size)
  have hl6 := (hl5.alloc VerR.stable _).below VerR.stable b8
  have r36 := (r35.alloc VerR.stable _).below VerR.stable b8
  have r46 := (r45.alloc VerR.stable _).below VerR.stable b8
  have X52 := Lib.hid fun o => ((b8.cell (p := ⟨w4.heap.size, o, none⟩) (by simp; omega)).trans (World.cell?_alloc_lt _ _ _ g4)).trans (X5.out o)
  have X62 := Lib.hid fun o => (b8.cell (p := ⟨w5.heap.size, o, none⟩) (by simp)).trans (X6.out o)
  have g5 : w5.heap.size < w6.heap.size := by have := b8.size; simp at this; omega
  clear b7 b8 r35 r45 hl5 r7 X5 X6 b5'
  go_wp2_with fail
  refine (add_any (x := ⟨10, true, ⟨[], 0, 0⟩⟩) _ none 3 3 0 0 _ (by omega) (Lib.hid hl6) small_l0 (Lib.hid RdL.nil) (by omega)).mono ?_
  rw [ex_add2, ex_add2e]
  rintro e w7 ⟨A8, n8, c8, rfl, r8, _, b9⟩
  obtain rfl : n8 = 4 := r8.1.symm
  have b9' := b7'.trans (b9.mono b7'.size)
  have r37 := r36.below VerR.stable b9
  have r47 := r46.below VerR.stable b9
  have y4 := fun o => (b9.cell (p := ⟨w4.heap.size, o, none⟩) (by show w4.heap.size < _; omega)).trans (X52.out o)
  have y5 := fun o => (b9.cell (p := ⟨w5.heap.size, o, none⟩) (by show w5.heap.size < _; omega)).trans (X62.out o)
  have y40 := y4 0
  have y52 := y5 2
  simp at y40 y52
  clear y4 y5 r36 r46 X52 X62 hl6 b9 b7'
  obtain ⟨b3, o3, rfl, _, hb3⟩ := r37.addr (show 0 < 2 by omega)
  obtain ⟨b4, o4, rfl, _, hb4⟩ := r47.addr (show 0 < 1 by omega)
  obtain ⟨v0, _, _, _, hv0, _, _, z0, _⟩ := vers_at r37 (show 0 < 2 by omega)
  obtain ⟨v1, _, _, _, hv1, _, _, z1, _⟩ := vers_at r37 (show 1 < 2 by omega)
  obtain ⟨v2, _, _, _, hv2, _, _, z2, _⟩ := vers_at r47 (show 0 < 1 by omega)
  simp only [List.getElem?_cons_zero, List.getElem?_cons_succ, Option.some.injEq] at hv0 hv1 hv2
  subst hv0; subst hv1; subst hv2
  simp only [Nat.zero_mul, Nat.one_mul, Nat.add_zero] at z0 z1 z2
  clear r37 r47 hb3 hb4 g4 g5
  go_wp2_with (go_at_call 24; refine (right_any _ 4 c8 _ (by omega) (Lib.hid r8)).mono ?_; simp only [Option.getD_some]; rw [ex_right]; rintro e w8 ⟨rfl, b10⟩)
  go_ret
  exact ⟨rfl, b9'.trans (b10.mono b9'.size)⟩
end Go.Proofs.Ytnceaimhhfjmdaa
