/-
  How a shard comes of the data.
-/
import Derived.Test.YthhljmlpjnkfgaaGreatCod1
set_option linter.unusedSimpArgs false
set_option linter.unusedVariables false
namespace Go.Proofs.YthhljmlpjnkfgaaGreat
open Go.RowKit Go.Cib
attribute [local go_sem] cell_set Later.cell Later.frozen Grw.cell Grw.frozen
set_option maxRecDepth 100000 in
set_option maxHeartbeats 4000000 in
theorem crow_any {w : World} {cb b k m : Nat} (H : CodAt w cb b k m) {i : Nat} (hi : i < k + m) :
    Calls Tryz.prog 56 #[.pointer (some ⟨cb, 0, none⟩), .int .i64 (i : Int)] w fun e w' => ∃ g, e = .returned (.slice (some ⟨g, 0, none⟩) k k) ∧ RdL ByR 1 (fun j => w.heap.size ≤ j) w' (some ⟨g, 0, none⟩) k (rowF k i) ∧ Below w.heap.size w w' := by
  have HC := Lib.hid H
  have hk1 := H.k1
  have hm1 := H.m1
  have hkm := H.km
  have hN := none_any H
  have hH := has_ok H hi
  have q0 : (0 : Int) ≤ (i : Int) := Int.natCast_nonneg _
  have q1 : (i : Int) < ((k + m : Nat) : Int) := by omega
  have q2 : (0 : Int) ≤ (k : Int) := Int.natCast_nonneg _
  have q3 : (k : Int) ≤ 255 := by omega
  clear H
  go_enter Tryz.func56, Tryz.ntmps56
  go_wp2_with (first | (go_at_call 43; refine hN.mono ?_; rintro e w9 ⟨rfl, hw9⟩; rw [hw9]; clear hw9 hN))
  refine hH.mono ?_
  rintro e w2 ⟨rfl, hb⟩
  have hC2 := HC.out.below hb
  obtain ⟨A, c, hbx, hc, hrd⟩ := hC2.box
  have k0 := hbx.cell 0
  have hmk := makeBy k (by omega) w2
  have hz := RowIn.made w2 k 5
  have hbz : Below w2.heap.size w2 (w2.alloc (.cells (Array.replicate k (.int .u8 0)) 5)) := (Below.refl _ _).alloc (Nat.le_refl _) _
  obtain ⟨w5, hw5⟩ : ∃ w5, w2.alloc (.cells (Array.replicate k (.int .u8 0)) 5) = w5 := ⟨_, rfl⟩
  rw [hw5] at hmk hz hbz
  obtain ⟨g, hg⟩ : ∃ g, w2.heap.size = g := ⟨_, rfl⟩
  rw [hg] at hmk hz
  have hgs : w.heap.size ≤ g := by have := hb.size; omega
  have hb5 : Below w.heap.size w w5 := hb.trans (hbz.mono hb.size)
  have HZ := Lib.hid hz
  have HB5 := Lib.hid hb5
  have hbx5 := hbx.below hbz
  have x0 := hbx5.cell 0
  have HC5 := Lib.hid (hC2.below hbz)
  clear hH hb hbx hrd hC2 hbz hb5 hw5 hg
  by_cases hik : i < k
  · have p1 : (i : Int) < (k : Int) := by omega
    have c1 := hz.cell (i := i) (by rw [List.length_replicate]; exact hik)
    have f1 := hz.frozen i
    clear hz
    go_wp2_with fail
    go_ret
    refine ⟨g, rfl, ?_, HB5.out.setCell (by exact hgs) _⟩
    have := (HZ.out.set (i := i) (x := 1) (by rw [List.length_replicate]; exact hik) (by decide)).rd (S := fun j => w.heap.size ≤ j) hgs
    rw [unit_row hik, rowF_len] at this
    exact this
  · have p1 : ¬ (i : Int) < (k : Int) := by omega
    have hz0 : RowIn w5 g (Array.replicate k (.int .u8 0)) (rowP k i 0) := by rw [rowP_zero]; exact hz
    have HZ0 := Lib.hid hz0
    clear hz hz0 HZ
    go_wp2_with fail
    clear hmk x0 k0
    go_loopw [36] (fun vi wr => ∃ (j : Nat) (cur : Array Value), j ≤ k ∧ vi = .int .i64 j ∧ Hid (RowIn wr g cur (rowP k i j)) ∧ Hid (Below w.heap.size w wr)) (fun vi _ => k - (intOf vi).toNat)
    case atStart => exact ⟨0, _, Nat.zero_le _, rfl, HZ0, HB5⟩
    case round =>
      clear HZ0 HB5 HC5 hbx5
      obtain ⟨j, cur, hj, rfl, RW, HB⟩ := hrel
      have p0 : (0 : Int) ≤ (j : Int) := Int.natCast_nonneg _
      by_cases hlt : j < k
      · have p2 : (j : Int) < (k : Int) := by omega
        have hC := (HC.out.below HB.out).below (w' := wr.drew) (Below.refl _ _).drew
        obtain ⟨A, c, hbx, hc, hrd⟩ := hC.box
        have hat := at_any (w := wr.drew) hm1 (by omega) hk1 (by omega) hrd hc (i := i - k) (j := j) (by omega) hlt
        rw [cau_gt (by omega) hlt, show k + (i - k) = i by omega] at hat
        have p3 : IntKind.i64.wrap ((i : Int) - (k : Int)) = ((i - k : Nat) : Int) := by rw [IntKind.wrap_i64]; omega
        have p4 : (i : Int) - (k : Int) = ((i - k : Nat) : Int) := by omega
        have p5 : IntKind.i64.wrap ((i - k : Nat) : Int) = ((i - k : Nat) : Int) := by rw [IntKind.wrap_i64]; omega
        have s1 : wr.drew.cell? ⟨cb, 0, none⟩ = some (.int .i64 k) ∧ wr.drew.cell? ⟨cb, 3, none⟩ = some (.int .i64 m) ∧ wr.drew.cell? ⟨cb, 4, none⟩ = some (.int .i64 k) ∧ wr.drew.cell? ⟨cb, 5, none⟩ = some (.slice A (m * k) c) := ⟨hbx.cell 0, hbx.cell 3, hbx.cell 4, hbx.cell 5⟩
        have hcl := hbx.lt
        have hll := rowP_len (i := i) hj
        clear hC hbx hrd
        go_wp2_with fail
        refine wp_region_L (S := fun w' => w'.cell? ⟨cb, 0, none⟩ = some (.int .i64 k) ∧ w'.cell? ⟨cb, 3, none⟩ = some (.int .i64 m) ∧ w'.cell? ⟨cb, 4, none⟩ = some (.int .i64 k) ∧ w'.cell? ⟨cb, 5, none⟩ = some (.slice A (m * k) c)) [16] (by kernel_rfl) (by first | exact s1 | exact s2) (fun hHeld => ?_)
        refine wpAnyL_take (i := 0) (v := ?_) rfl (by kernel_rfl) (by kernel_rfl) (by kernel_rfl) (by kernel_rfl) (fun _ _ _ h => h) (Or.inl ⟨by first | kernel_rfl | rfl, ?_⟩) (by assumption) ?_
        rotate_left
        · (intro wq0 hSw; (try dsimp only at hSw); (try simp (maxSteps := 2000000) only [List.getElem_toArray, List.getElem_cons_succ, List.getElem_cons_zero]); go_simp); try with_reducible rfl
        try simp (maxSteps := 2000000) only [List.getElem_toArray, List.getElem_cons_succ, List.getElem_cons_zero, Act.put, List.setIfInBounds_toArray, List.set_cons_zero, List.set_cons_succ]
        refine wpAnyL_take (i := 1) (v := ?_) rfl (by kernel_rfl) (by kernel_rfl) (by kernel_rfl) (by kernel_rfl) (fun _ _ _ h => h) (Or.inl ⟨by first | kernel_rfl | rfl, ?_⟩) (by assumption) ?_
        rotate_left
        · (intro wq0 hSw; (try dsimp only at hSw); (try simp (maxSteps := 2000000) only [List.getElem_toArray, List.getElem_cons_succ, List.getElem_cons_zero]); go_simp); try with_reducible rfl
        try simp (maxSteps := 2000000) only [List.getElem_toArray, List.getElem_cons_succ, List.getElem_cons_zero, Act.put, List.setIfInBounds_toArray, List.set_cons_zero, List.set_cons_succ]
        refine wpAnyL_take (i := 2) (v := ?_) rfl (by kernel_rfl) (by kernel_rfl) (by kernel_rfl) (by kernel_rfl) (fun _ _ _ h => h) (Or.inl ⟨by first | kernel_rfl | rfl, ?_⟩) (by assumption) ?_
        rotate_left
        · (intro wq0 hSw; (try dsimp only at hSw); (try simp (maxSteps := 2000000) only [List.getElem_toArray, List.getElem_cons_succ, List.getElem_cons_zero]); go_simp); try with_reducible rfl
        try simp (maxSteps := 2000000) only [List.getElem_toArray, List.getElem_cons_succ, List.getElem_cons_zero, Act.put, List.setIfInBounds_toArray, List.set_cons_zero, List.set_cons_succ]
        refine wpAnyL_take (i := 3) (v := ?_) rfl (by kernel_rfl) (by kernel_rfl) (by kernel_rfl) (by kernel_rfl) (fun _ _ _ h => h) (Or.inl ⟨by first | kernel_rfl | rfl, ?_⟩) (by assumption) ?_
        rotate_left
        · (intro wq0 hSw; (try dsimp only at hSw); (try simp (maxSteps := 2000000) only [List.getElem_toArray, List.getElem_cons_succ, List.getElem_cons_zero]); go_simp); try with_reducible rfl
        try simp (maxSteps := 2000000) only [List.getElem_toArray, List.getElem_cons_succ, List.getElem_cons_zero, Act.put, List.setIfInBounds_toArray, List.set_cons_zero, List.set_cons_succ]
        refine wpAnyL_take (i := 4) (v := ?_) rfl (by kernel_rfl) (by kernel_rfl) (by kernel_rfl) (by kernel_rfl) (fun _ _ _ h => h) (Or.inl ⟨by first | kernel_rfl | rfl, ?_⟩) (by assumption) ?_
        rotate_left
        · (intro wq0 hSw; (try dsimp only at hSw); (try simp (maxSteps := 2000000) only [List.getElem_toArray, List.getElem_cons_succ, List.getElem_cons_zero]); go_simp); try with_reducible rfl
        try simp (maxSteps := 2000000) only [List.getElem_toArray, List.getElem_cons_succ, List.getElem_cons_zero, Act.put, List.setIfInBounds_toArray, List.set_cons_zero, List.set_cons_succ]
        refine wpAnyL_take (i := 5) (v := ?_) rfl (by kernel_rfl) (by kernel_rfl) (by kernel_rfl) (by kernel_rfl) (fun _ _ _ h => h) (Or.inl ⟨by first | kernel_rfl | rfl, ?_⟩) (by assumption) ?_
        rotate_left
        · (intro wq0 hSw; (try dsimp only at hSw); (try simp (maxSteps := 2000000) only [List.getElem_toArray, List.getElem_cons_succ, List.getElem_cons_zero]); go_simp); try with_reducible rfl
        try simp (maxSteps := 2000000) only [List.getElem_toArray, List.getElem_cons_succ, List.getElem_cons_zero, Act.put, List.setIfInBounds_toArray, List.set_cons_zero, List.set_cons_succ]
        refine wpAnyL_take (i := 6) (v := ?_) rfl (by kernel_rfl) (by kernel_rfl) (by kernel_rfl) (by kernel_rfl) (fun _ _ _ h => h) (Or.inl ⟨by first | kernel_rfl | rfl, ?_⟩) (by assumption) ?_
        rotate_left
        · (intro wq0 hSw; (try dsimp only at hSw); (try simp (maxSteps := 2000000) only [List.getElem_toArray, List.getElem_cons_succ, List.getElem_cons_zero]); go_simp); try with_reducible rfl
        try simp (maxSteps := 2000000) only [List.getElem_toArray, List.getElem_cons_succ, List.getElem_cons_zero, Act.put, List.setIfInBounds_toArray, List.set_cons_zero, List.set_cons_succ]
        refine wpAnyL_take (i := 7) (v := ?_) rfl (by kernel_rfl) (by kernel_rfl) (by kernel_rfl) (by kernel_rfl) (fun _ _ _ h => h) (Or.inl ⟨by first | kernel_rfl | rfl, ?_⟩) (by assumption) ?_
        rotate_left
        · (intro wq0 hSw; (try dsimp only at hSw); (try simp (maxSteps := 2000000) only [List.getElem_toArray, List.getElem_cons_succ, List.getElem_cons_zero]); go_simp); try with_reducible rfl
        try simp (maxSteps := 2000000) only [List.getElem_toArray, List.getElem_cons_succ, List.getElem_cons_zero, Act.put, List.setIfInBounds_toArray, List.set_cons_zero, List.set_cons_succ]
        refine wpAnyL_take (i := 8) (v := ?_) rfl (by kernel_rfl) (by kernel_rfl) (by kernel_rfl) (by kernel_rfl) (fun _ _ _ h => h) (Or.inl ⟨by first | kernel_rfl | rfl, ?_⟩) (by assumption) ?_
        rotate_left
        · (intro wq0 hSw; (try dsimp only at hSw); (try simp (maxSteps := 2000000) only [List.getElem_toArray, List.getElem_cons_succ, List.getElem_cons_zero]); go_simp); try with_reducible rfl
        try simp (maxSteps := 2000000) only [List.getElem_toArray, List.getElem_cons_succ, List.getElem_cons_zero, Act.put, List.setIfInBounds_toArray, List.set_cons_zero, List.set_cons_succ]
        refine wpAnyL_take (i := 9) (v := ?_) rfl (by kernel_rfl) (by kernel_rfl) (by kernel_rfl) (by kernel_rfl) (fun _ _ _ h => h) (Or.inl ⟨by first | kernel_rfl | rfl, ?_⟩) (by assumption) ?_
        rotate_left
        · (intro wq0 hSw; (try dsimp only at hSw); (try simp (maxSteps := 2000000) only [List.getElem_toArray, List.getElem_cons_succ, List.getElem_cons_zero]); go_simp); try with_reducible rfl
        try simp (maxSteps := 2000000) only [List.getElem_toArray, List.getElem_cons_succ, List.getElem_cons_zero, Act.put, List.setIfInBounds_toArray, List.set_cons_zero, List.set_cons_succ]
        refine wpAnyL_take (i := 10) (v := ?_) rfl (by kernel_rfl) (by kernel_rfl) (by kernel_rfl) (by kernel_rfl) (fun _ _ _ h => h) (Or.inl ⟨by first | kernel_rfl | rfl, ?_⟩) (by assumption) ?_
        rotate_left
        · (intro wq0 hSw; (try dsimp only at hSw); (try simp (maxSteps := 2000000) only [List.getElem_toArray, List.getElem_cons_succ, List.getElem_cons_zero]); go_simp); try with_reducible rfl
        try simp (maxSteps := 2000000) only [List.getElem_toArray, List.getElem_cons_succ, List.getElem_cons_zero, Act.put, List.setIfInBounds_toArray, List.set_cons_zero, List.set_cons_succ]
        refine wpAnyL_take (i := 11) (v := ?_) rfl (by kernel_rfl) (by kernel_rfl) (by kernel_rfl) (by kernel_rfl) (fun _ _ _ h => h) (Or.inl ⟨by first | kernel_rfl | rfl, ?_⟩) (by assumption) ?_
        rotate_left
        · (intro wq0 hSw; (try dsimp only at hSw); (try simp (maxSteps := 2000000) only [List.getElem_toArray, List.getElem_cons_succ, List.getElem_cons_zero]); go_simp); try with_reducible rfl
        try simp (maxSteps := 2000000) only [List.getElem_toArray, List.getElem_cons_succ, List.getElem_cons_zero, Act.put, List.setIfInBounds_toArray, List.set_cons_zero, List.set_cons_succ]
        refine wpAnyL_take (i := 12) (v := ?_) rfl (by kernel_rfl) (by kernel_rfl) (by kernel_rfl) (by kernel_rfl) (fun _ _ _ h => h) (Or.inl ⟨by first | kernel_rfl | rfl, ?_⟩) (by assumption) ?_
        rotate_left
        · (intro wq0 hSw; (try dsimp only at hSw); (try simp (maxSteps := 2000000) only [List.getElem_toArray, List.getElem_cons_succ, List.getElem_cons_zero]); go_simp); try with_reducible rfl
        try simp (maxSteps := 2000000) only [List.getElem_toArray, List.getElem_cons_succ, List.getElem_cons_zero, Act.put, List.setIfInBounds_toArray, List.set_cons_zero, List.set_cons_succ]
        refine wpAnyL_take (i := 13) (v := ?_) rfl (by kernel_rfl) (by kernel_rfl) (by kernel_rfl) (by kernel_rfl) (fun _ _ _ h => h) (Or.inl ⟨by first | kernel_rfl | rfl, ?_⟩) (by assumption) ?_
        rotate_left
        · (intro wq0 hSw; (try dsimp only at hSw); (try simp (maxSteps := 2000000) only [List.getElem_toArray, List.getElem_cons_succ, List.getElem_cons_zero]); go_simp); try with_reducible rfl
        try simp (maxSteps := 2000000) only [List.getElem_toArray, List.getElem_cons_succ, List.getElem_cons_zero, Act.put, List.setIfInBounds_toArray, List.set_cons_zero, List.set_cons_succ]
        refine wpAnyL_ready (rs := [14]) (by kernel_rfl) (by simp) ?_
        refine AllReadyL.cons rfl (fun K hK => ?_) AllReadyL.nil
        try simp (maxSteps := 2000000) only [List.getElem_toArray, List.getElem_cons_succ, List.getElem_cons_zero]
        go_simp
        go_at_call 74
        refine hat.mono ?_
        rintro e w6 ⟨rfl, hb6⟩
        have s2 : w6.cell? ⟨cb, 0, none⟩ = some (.int .i64 k) ∧ w6.cell? ⟨cb, 3, none⟩ = some (.int .i64 m) ∧ w6.cell? ⟨cb, 4, none⟩ = some (.int .i64 k) ∧ w6.cell? ⟨cb, 5, none⟩ = some (.slice A (m * k) c) := ⟨(hb6.cell (p := ⟨cb, 0, none⟩) hcl).trans s1.1, (hb6.cell (p := ⟨cb, 3, none⟩) hcl).trans s1.2.1, (hb6.cell (p := ⟨cb, 4, none⟩) hcl).trans s1.2.2.1, (hb6.cell (p := ⟨cb, 5, none⟩) hcl).trans s1.2.2.2⟩
        have c2 := (RW.out.drew.below hb6).cell (i := j) (by omega)
        have f2 := (RW.out.drew.below hb6).frozen j
        have HB6 := Lib.hid hb6
        clear hat hb6
        try (go_wp2_with fail)
        refine hK.out _ _ (by first | exact s1 | exact s2) (fun hHeld => ?_)
        clear hK K
        try simp (maxSteps := 2000000) only [List.getElem_toArray, List.getElem_cons_succ, List.getElem_cons_zero, Act.put, List.setIfInBounds_toArray, List.set_cons_zero, List.set_cons_succ]
        refine wpAnyL_take (i := 15) (v := ?_) rfl (by kernel_rfl) (by kernel_rfl) (by kernel_rfl) (by kernel_rfl) (fun _ _ _ h => h) (Or.inl ⟨by first | kernel_rfl | rfl, ?_⟩) (by assumption) ?_
        rotate_left
        · (intro wq0 hSw; (try dsimp only at hSw); (try simp (maxSteps := 2000000) only [List.getElem_toArray, List.getElem_cons_succ, List.getElem_cons_zero]); go_simp); try with_reducible rfl
        try simp (maxSteps := 2000000) only [List.getElem_toArray, List.getElem_cons_succ, List.getElem_cons_zero, Act.put, List.setIfInBounds_toArray, List.set_cons_zero, List.set_cons_succ]
        refine wpAnyL_ready (rs := [16]) (by kernel_rfl) (by simp) ?_
        refine AllReadyL.last rfl (by decide) (fun K hK => ?_) AllReadyL.nil
        try simp (maxSteps := 2000000) only [List.getElem_toArray, List.getElem_cons_succ, List.getElem_cons_zero]
        go_simp
        refine hK.out _ _ ?_
        clear hK K
        try simp (maxSteps := 2000000) only [List.getElem_toArray, List.getElem_cons_succ, List.getElem_cons_zero, Act.put, List.setIfInBounds_toArray, List.set_cons_zero, List.set_cons_succ]
        refine wpAnyL_done (by kernel_rfl) ?_ _
        have r5 := (RW.out.drew.below HB6.out).set (i := j) (x := fac k i j) (by omega) (fac_lt _ _ _)
        rw [rowP_next hlt] at r5
        have b5 := (HB.out.drew.trans (HB6.out.mono HB.out.size)).setCell (p := ⟨g, j, none⟩) hgs (.int .u8 (fac k i j : Int))
        have R5 := Lib.hid r5
        have B5 := Lib.hid b5
        clear r5 b5 s1 s2 hHeld c2 f2
        go_wp2_with fail
        exact ⟨⟨j + 1, _, by omega, by go_num, R5, B5⟩, by simp [intOf]; omega⟩
      · have p2 : ¬ (j : Int) < (k : Int) := by omega
        obtain rfl : j = k := by omega
        go_wp2_with fail
        go_ret
        refine ⟨g, rfl, ?_, HB.out⟩
        have := RW.out.rd (S := fun i => w.heap.size ≤ i) hgs
        rw [rowP_end, rowF_len] at this
        exact this
end Go.Proofs.YthhljmlpjnkfgaaGreat
