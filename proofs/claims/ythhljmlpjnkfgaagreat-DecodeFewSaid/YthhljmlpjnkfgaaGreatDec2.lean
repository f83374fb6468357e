/-
  The factors by which a shard is the sum of k others.
-/
import Derived.Test.YthhljmlpjnkfgaaGreatDec1
set_option linter.unusedSimpArgs false
set_option linter.unusedVariables false
namespace Go.Proofs.YthhljmlpjnkfgaaGreat
open Go.RowKit Go.Cib
attribute [local go_sem] cell_set Later.cell Later.frozen Grw.cell Grw.frozen

def planF (k : Nat) (us : List Nat) (want : Nat) : List Nat := combF (rowF k want) (mkF (invE (useF k us) k) k k) (List.replicate k 0)
theorem inv_shp {k : Nat} {us : List Nat} (hl : us.length = k) (hI : Inj k (useF k us)) : Shp k k (mkF (invE (useF k us) k) k k) := mkF_shp fun i j hi hj => gt_lt ((eliR_ok (useF_shp hl) hI).2.1.shp.row hi).2 _
set_option maxRecDepth 100000 in
set_option maxHeartbeats 8000000 in
theorem plan_any {w : World} {cb b k m c : Nat} {A : Option Addr} {S : Nat → Prop} {us : List Nat} (H : CodAt w cb b k m) (R : RdL NatR 1 S w A k us) (hus : ∀ u ∈ us, u < k + m) (hI : Inj k (useF k us)) {want : Nat} (hw : want < k + m) :
    Calls Tryz.prog 34 #[.pointer (some ⟨cb, 0, none⟩), .slice A k c, .int .i64 (want : Int)] w fun e w' => ∃ A' c', e = .returned (.tuple #[.slice A' k c', .int .i64 0]) ∧ k ≤ c' ∧
      RdL ByR 1 (fun j => w.heap.size ≤ j) w' A' k (planF k us want) ∧ Below w.heap.size w w' := by
  have HC := Lib.hid H
  have HR := Lib.hid R
  have hul := R.1
  have hk1 := H.k1
  have hm1 := H.m1
  have hkm := H.km
  have q0 : (0 : Int) ≤ (k : Int) := Int.natCast_nonneg _
  have q1 : (k : Int) ≤ 255 := by omega
  have hiv := inverse_any (c := c) H R hus hI
  clear H R
  go_enter Tryz.func34, Tryz.ntmps34
  go_wp2_with fail
  refine hiv.mono ?_
  rintro e w1 ⟨A1, c1, rfl, hc1, hr1, hb1⟩
  have hbe : Below w1.heap.size w1 (w1.alloc (.cells #[.int .i64 (k : Int), .int .i64 (k : Int), .slice A1 (k * k) c1] 55)) := (Below.refl _ _).alloc (Nat.le_refl _) _
  have hbx := BoxAt.new w1 #[.int .i64 (k : Int), .int .i64 (k : Int), .slice A1 (k * k) c1] 55
  have hs1 := hb1.size
  go_wp2_with fail
  generalize w1.alloc (.cells #[.int .i64 (k : Int), .int .i64 (k : Int), .slice A1 (k * k) c1] 55) = w2 at *
  obtain ⟨xb, hxb⟩ : ∃ xb, w1.heap.size = xb := ⟨_, rfl⟩
  have hbw2 := hb1.trans (hbe.mono hs1)
  have hr2 := hr1.below ByR.stable hbe
  refine (crow_any (HC.out.below hbw2) hw).mono ?_
  rintro e w3 ⟨g, rfl, hr3, hb3⟩
  have hbw3 := hbw2.trans (hb3.mono hbw2.size)
  have hx3 := hbx.below hb3
  have hr4 := hr2.below ByR.stable hb3
  rw [hxb] at hx3 ⊢
  have hC3 := HC.out.below hbw3
  have hF := cfield_any hC3
  have hmu := fun w' (hb : Below w3.heap.size w3 w') => mmul_any (w := w') (r := 1) (c1 := k) (c2 := c1) (S := fun _ => True) (hC3.below hb).fld (U := [rowF k want]) (B := mkF (invE (useF k us) k) k k) (n := k) (m := k) ⟨rfl, fun r hr => by rw [List.mem_singleton.1 hr]; exact ⟨rowF_len _ _, rowF_byt _ _⟩⟩ (inv_shp hul hI) (Nat.le_refl _) (by decide) hk1 (by omega) hk1 (by omega)
    (A1 := some ⟨g, 0, none⟩) (by rw [Nat.one_mul, List.flatten_cons, List.flatten_nil, List.append_nil]; exact (hr3.below ByR.stable hb).weaken ByR.stable fun _ _ => trivial) ((hr4.below ByR.stable hb).weaken ByR.stable fun _ _ => trivial) (by omega) hc1
  have hone : (mulF [rowF k want] (mkF (invE (useF k us) k) k k) k).flatten = planF k us want := by unfold mulF planF; simp
  rw [hone] at hmu
  simp only [Nat.one_mul] at hmu
  have hcast : ((1 : Nat) : Int) = 1 := rfl
  rw [hcast] at hmu
  have hxl : xb < w3.heap.size := hx3.lt
  have hw3s := hbw3.size
  have hwx : w.heap.size ≤ xb := by omega
  have keepB : ∀ w', Below w3.heap.size w3 w' → w'.cell? ⟨xb, 0, none⟩ = some (.int .i64 k) ∧ w'.cell? ⟨xb, 1, none⟩ = some (.int .i64 k) ∧ w'.cell? ⟨xb, 2, none⟩ = some (.slice A1 (k * k) c1) := fun w' h => ⟨(hx3.below h).cell 0, (hx3.below h).cell 1, (hx3.below h).cell 2⟩
  have KB := Lib.hid keepB
  have s1 := keepB w3.drew (Below.refl _ _).drew
  have hb3d : Below w3.heap.size w3 w3.drew := (Below.refl _ _).drew
  have HM := Lib.hid hmu
  have HBW := Lib.hid hbw3
  have hF2 := fun w' (hb : Below w3.heap.size w3 w') => cfield_any ((HC.out.below hbw3).below hb)
  have HF2 := Lib.hid hF2
  have hal3 : Below w3.heap.size w3 (w3.alloc (.cells #[.int .i64 0, .int .i64 0, .slice none 0 0] 55)) := (Below.refl _ _).alloc (Nat.le_refl _) _
  clear keepB hmu hC3 hF hF2 hr1 hr2 hr3 hr4 hb1 hb3 hbe hbx hx3 hbw2 hbw3 hiv
  go_wp2_with fail
  refine wp_region_held_drew (S := fun w' => w'.cell? ⟨xb, 0, none⟩ = some (.int .i64 k) ∧ w'.cell? ⟨xb, 1, none⟩ = some (.int .i64 k) ∧ w'.cell? ⟨xb, 2, none⟩ = some (.slice A1 (k * k) c1)) (by kernel_rfl) (by first | exact s1 | exact KB.out _ (by assumption)) (fun hHeld => ?_)
  refine wpAnyH_take (i := 0) (v := ?_) rfl (by kernel_rfl) (by kernel_rfl) (by kernel_rfl) (fun _ _ _ h => h) (Or.inl ⟨by first | kernel_rfl | rfl, ?_⟩) (by assumption) ?_
  rotate_left
  · (intro wq hSw; (try dsimp only at hSw); (try simp (maxSteps := 2000000) only [List.getElem_toArray, List.getElem_cons_succ, List.getElem_cons_zero]); go_simp); try with_reducible rfl
  try simp (maxSteps := 2000000) only [List.getElem_toArray, List.getElem_cons_succ, List.getElem_cons_zero, Act.put, List.setIfInBounds_toArray, List.set_cons_zero, List.set_cons_succ]
  refine wpAnyH_take (i := 2) (v := ?_) rfl (by kernel_rfl) (by kernel_rfl) (by kernel_rfl) (fun _ _ _ h => h) (Or.inl ⟨by first | kernel_rfl | rfl, ?_⟩) (by assumption) ?_
  rotate_left
  · (intro wq hSw; (try dsimp only at hSw); (try simp (maxSteps := 2000000) only [List.getElem_toArray, List.getElem_cons_succ, List.getElem_cons_zero]); go_simp); try with_reducible rfl
  try simp (maxSteps := 2000000) only [List.getElem_toArray, List.getElem_cons_succ, List.getElem_cons_zero, Act.put, List.setIfInBounds_toArray, List.set_cons_zero, List.set_cons_succ]
  refine wpAnyH_take (i := 3) (v := ?_) rfl (by kernel_rfl) (by kernel_rfl) (by kernel_rfl) (fun _ _ _ h => h) (Or.inl ⟨by first | kernel_rfl | rfl, ?_⟩) (by assumption) ?_
  rotate_left
  · (intro wq hSw; (try dsimp only at hSw); (try simp (maxSteps := 2000000) only [List.getElem_toArray, List.getElem_cons_succ, List.getElem_cons_zero]); go_simp); try with_reducible rfl
  try simp (maxSteps := 2000000) only [List.getElem_toArray, List.getElem_cons_succ, List.getElem_cons_zero, Act.put, List.setIfInBounds_toArray, List.set_cons_zero, List.set_cons_succ]
  refine wpAnyH_take (i := 4) (v := ?_) rfl (by kernel_rfl) (by kernel_rfl) (by kernel_rfl) (fun _ _ _ h => h) (Or.inl ⟨by first | kernel_rfl | rfl, ?_⟩) (by assumption) ?_
  rotate_left
  · (intro wq hSw; (try dsimp only at hSw); (try simp (maxSteps := 2000000) only [List.getElem_toArray, List.getElem_cons_succ, List.getElem_cons_zero]); go_simp); try with_reducible rfl
  try simp (maxSteps := 2000000) only [List.getElem_toArray, List.getElem_cons_succ, List.getElem_cons_zero, Act.put, List.setIfInBounds_toArray, List.set_cons_zero, List.set_cons_succ]
  refine wpAnyH_take (i := 5) (v := ?_) rfl (by kernel_rfl) (by kernel_rfl) (by kernel_rfl) (fun _ _ _ h => h) (Or.inl ⟨by first | kernel_rfl | rfl, ?_⟩) (by assumption) ?_
  rotate_left
  · (intro wq hSw; (try dsimp only at hSw); (try simp (maxSteps := 2000000) only [List.getElem_toArray, List.getElem_cons_succ, List.getElem_cons_zero]); go_simp); try with_reducible rfl
  try simp (maxSteps := 2000000) only [List.getElem_toArray, List.getElem_cons_succ, List.getElem_cons_zero, Act.put, List.setIfInBounds_toArray, List.set_cons_zero, List.set_cons_succ]
  refine wpAnyH_take (i := 6) (v := ?_) rfl (by kernel_rfl) (by kernel_rfl) (by kernel_rfl) (fun _ _ _ h => h) (Or.inl ⟨by first | kernel_rfl | rfl, ?_⟩) (by assumption) ?_
  rotate_left
  · (intro wq hSw; (try dsimp only at hSw); (try simp (maxSteps := 2000000) only [List.getElem_toArray, List.getElem_cons_succ, List.getElem_cons_zero]); go_simp); try with_reducible rfl
  try simp (maxSteps := 2000000) only [List.getElem_toArray, List.getElem_cons_succ, List.getElem_cons_zero, Act.put, List.setIfInBounds_toArray, List.set_cons_zero, List.set_cons_succ]
  refine wpAnyH_ready (rs := [1, 11]) (by kernel_rfl) (by simp) ?_
  refine AllReadyH.cons rfl (fun K hK => ?_) (AllReadyH.cons rfl (fun K hK => ?_) AllReadyH.nil)
  · try simp (maxSteps := 2000000) only [List.getElem_toArray, List.getElem_cons_succ, List.getElem_cons_zero]
    go_simp
    go_at_call 58
    refine (HF2.out _ hb3d).mono ?_
    rintro e w9 ⟨rfl, hw9⟩
    rw [hw9]
    clear hw9
    try (go_wp2_with fail)
    refine hK.out _ _ (KB.out _ hb3d) (fun hHeld => ?_)
    clear hK K
    try simp (maxSteps := 2000000) only [List.getElem_toArray, List.getElem_cons_succ, List.getElem_cons_zero, Act.put, List.setIfInBounds_toArray, List.set_cons_zero, List.set_cons_succ]
    refine wpAnyH_ready (rs := [7, 11]) (by kernel_rfl) (by simp) ?_
    refine AllReadyH.cons rfl (fun K hK => ?_) (AllReadyH.cons rfl (fun K hK => ?_) AllReadyH.nil)
    · try simp (maxSteps := 2000000) only [List.getElem_toArray, List.getElem_cons_succ, List.getElem_cons_zero]
      go_simp
      go_at_call 57
      refine (HM.out _ hb3d).mono ?_
      rintro e w5 ⟨A5, c5, rfl, hc5, hr5, hb5⟩
      have hs5 := hb5.size
      have hb35 : Below w3.heap.size w3 w5 := Below.trans hb3d (hb5.mono (Below.size hb3d))
      try (go_wp2_with fail)
      refine hK.out _ _ (KB.out _ hb35) (fun hHeld => ?_)
      clear hK K
      try simp (maxSteps := 2000000) only [List.getElem_toArray, List.getElem_cons_succ, List.getElem_cons_zero, Act.put, List.setIfInBounds_toArray, List.set_cons_zero, List.set_cons_succ]
      refine wpAnyH_take (i := 8) (v := ?_) rfl (by kernel_rfl) (by kernel_rfl) (by kernel_rfl) (fun _ _ _ h => h) (Or.inl ⟨by first | kernel_rfl | rfl, ?_⟩) (by assumption) ?_
      rotate_left
      · (intro wq hSw; (try dsimp only at hSw); (try simp (maxSteps := 2000000) only [List.getElem_toArray, List.getElem_cons_succ, List.getElem_cons_zero]); go_simp); try with_reducible rfl
      try simp (maxSteps := 2000000) only [List.getElem_toArray, List.getElem_cons_succ, List.getElem_cons_zero, Act.put, List.setIfInBounds_toArray, List.set_cons_zero, List.set_cons_succ]
      refine wpAnyH_take (i := 9) (v := ?_) rfl (by kernel_rfl) (by kernel_rfl) (by kernel_rfl) (fun _ _ _ h => h) (Or.inl ⟨by first | kernel_rfl | rfl, ?_⟩) (by assumption) ?_
      rotate_left
      · (intro wq hSw; (try dsimp only at hSw); (try simp (maxSteps := 2000000) only [List.getElem_toArray, List.getElem_cons_succ, List.getElem_cons_zero]); go_simp); try with_reducible rfl
      try simp (maxSteps := 2000000) only [List.getElem_toArray, List.getElem_cons_succ, List.getElem_cons_zero, Act.put, List.setIfInBounds_toArray, List.set_cons_zero, List.set_cons_succ]
      refine wpAnyH_take (i := 10) (v := ?_) rfl (by kernel_rfl) (by kernel_rfl) (by kernel_rfl) (fun _ _ _ h => h) (Or.inl ⟨by first | kernel_rfl | rfl, ?_⟩) (by assumption) ?_
      rotate_left
      · (intro wq hSw; (try dsimp only at hSw); (try simp (maxSteps := 2000000) only [List.getElem_toArray, List.getElem_cons_succ, List.getElem_cons_zero]); go_simp); try with_reducible rfl
      try simp (maxSteps := 2000000) only [List.getElem_toArray, List.getElem_cons_succ, List.getElem_cons_zero, Act.put, List.setIfInBounds_toArray, List.set_cons_zero, List.set_cons_succ]
      refine wpAnyH_ready (rs := [11]) (by kernel_rfl) (by simp) ?_
      refine AllReadyH.cons rfl (fun K hK => ?_) AllReadyH.nil
      try simp (maxSteps := 2000000) only [List.getElem_toArray, List.getElem_cons_succ, List.getElem_cons_zero]
      go_simp
      refine hK.out _ _ (KB.out _ (hb35.alloc hb35.size _)) (fun hHeld => ?_)
      clear hK K
      try simp (maxSteps := 2000000) only [List.getElem_toArray, List.getElem_cons_succ, List.getElem_cons_zero, Act.put, List.setIfInBounds_toArray, List.set_cons_zero, List.set_cons_succ]
      refine wpAnyH_ready (rs := [12]) (by kernel_rfl) (by simp) ?_
      refine AllReadyH.cons rfl (fun K hK => ?_) AllReadyH.nil
      try simp (maxSteps := 2000000) only [List.getElem_toArray, List.getElem_cons_succ, List.getElem_cons_zero]
      go_simp
      refine hK.out _ _ (KB.out _ (hb35.alloc hb35.size _)) (fun hHeld => ?_)
      clear hK K
      try simp (maxSteps := 2000000) only [List.getElem_toArray, List.getElem_cons_succ, List.getElem_cons_zero, Act.put, List.setIfInBounds_toArray, List.set_cons_zero, List.set_cons_succ]
      refine wpAnyH_ready (rs := [13]) (by kernel_rfl) (by simp) ?_
      refine AllReadyH.cons rfl (fun K hK => ?_) AllReadyH.nil
      try simp (maxSteps := 2000000) only [List.getElem_toArray, List.getElem_cons_succ, List.getElem_cons_zero]
      go_simp
      refine hK.out _ _ (KB.out _ (hb35.alloc hb35.size _)) (fun hHeld => ?_)
      clear hK K
      try simp (maxSteps := 2000000) only [List.getElem_toArray, List.getElem_cons_succ, List.getElem_cons_zero, Act.put, List.setIfInBounds_toArray, List.set_cons_zero, List.set_cons_succ]
      refine wpAnyH_done (by kernel_rfl) ?_ _
      go_wp2_with fail
      go_ret2
      exact ⟨A5, c5, rfl, hc5, (RdL.alloc ByR.stable (hr5.weaken ByR.stable (S' := fun j => w.heap.size ≤ j) fun j hj => Nat.le_trans hw3s hj) _), (HBW.out.trans (hb35.mono hw3s)).alloc (by have := hb35.size; omega) _⟩
    · try simp (maxSteps := 2000000) only [List.getElem_toArray, List.getElem_cons_succ, List.getElem_cons_zero]
      go_simp
      refine hK.out _ _ (KB.out _ (show Below w3.heap.size w3 ((w3.alloc (.cells #[.int .i64 0, .int .i64 0, .slice none 0 0] 55)).drew) from hal3.drew)) (fun hHeld => ?_)
      clear hK K
      try simp (maxSteps := 2000000) only [List.getElem_toArray, List.getElem_cons_succ, List.getElem_cons_zero, Act.put, List.setIfInBounds_toArray, List.set_cons_zero, List.set_cons_succ]
      refine wpAnyH_ready (rs := [7]) (by kernel_rfl) (by simp) ?_
      refine AllReadyH.cons rfl (fun K hK => ?_) AllReadyH.nil
      try simp (maxSteps := 2000000) only [List.getElem_toArray, List.getElem_cons_succ, List.getElem_cons_zero]
      go_simp
      go_at_call 57
      refine (HM.out _ (show Below w3.heap.size w3 ((w3.alloc (.cells #[.int .i64 0, .int .i64 0, .slice none 0 0] 55)).drew) from hal3.drew)).mono ?_
      rintro e w5 ⟨A5, c5, rfl, hc5, hr5, hb5⟩
      have hs5 := hb5.size
      have hb35 : Below w3.heap.size w3 w5 := Below.trans (show Below w3.heap.size w3 ((w3.alloc (.cells #[.int .i64 0, .int .i64 0, .slice none 0 0] 55)).drew) from hal3.drew) (hb5.mono (Below.size (show Below w3.heap.size w3 ((w3.alloc (.cells #[.int .i64 0, .int .i64 0, .slice none 0 0] 55)).drew) from hal3.drew)))
      try (go_wp2_with fail)
      refine hK.out _ _ (KB.out _ hb35) (fun hHeld => ?_)
      clear hK K
      try simp (maxSteps := 2000000) only [List.getElem_toArray, List.getElem_cons_succ, List.getElem_cons_zero, Act.put, List.setIfInBounds_toArray, List.set_cons_zero, List.set_cons_succ]
      have hpb := ((BoxAt.new w3 #[.int .i64 0, .int .i64 0, .slice none 0 0] 55).below (w' := (w3.alloc (.cells #[.int .i64 0, .int .i64 0, .slice none 0 0] 55)).drew) (Below.refl _ _).drew).below hb5
      have g0 := hpb.cell 0
      have g1 := hpb.cell 1
      have g2 := hpb.cell 2
      have f0 := hpb.frozen 0
      have f1 := hpb.frozen 1
      have f2 := hpb.frozen 2
      refine wpAnyH_take (i := 8) (v := ?_) rfl (by kernel_rfl) (by kernel_rfl) (by kernel_rfl) (fun _ _ _ h => h) (Or.inl ⟨by first | kernel_rfl | rfl, ?_⟩) (by assumption) ?_
      rotate_left
      · (intro wq hSw; (try dsimp only at hSw); (try simp (maxSteps := 2000000) only [List.getElem_toArray, List.getElem_cons_succ, List.getElem_cons_zero]); go_simp); try with_reducible rfl
      try simp (maxSteps := 2000000) only [List.getElem_toArray, List.getElem_cons_succ, List.getElem_cons_zero, Act.put, List.setIfInBounds_toArray, List.set_cons_zero, List.set_cons_succ]
      refine wpAnyH_take (i := 9) (v := ?_) rfl (by kernel_rfl) (by kernel_rfl) (by kernel_rfl) (fun _ _ _ h => h) (Or.inl ⟨by first | kernel_rfl | rfl, ?_⟩) (by assumption) ?_
      rotate_left
      · (intro wq hSw; (try dsimp only at hSw); (try simp (maxSteps := 2000000) only [List.getElem_toArray, List.getElem_cons_succ, List.getElem_cons_zero]); go_simp); try with_reducible rfl
      try simp (maxSteps := 2000000) only [List.getElem_toArray, List.getElem_cons_succ, List.getElem_cons_zero, Act.put, List.setIfInBounds_toArray, List.set_cons_zero, List.set_cons_succ]
      refine wpAnyH_take (i := 10) (v := ?_) rfl (by kernel_rfl) (by kernel_rfl) (by kernel_rfl) (fun _ _ _ h => h) (Or.inl ⟨by first | kernel_rfl | rfl, ?_⟩) (by assumption) ?_
      rotate_left
      · (intro wq hSw; (try dsimp only at hSw); (try simp (maxSteps := 2000000) only [List.getElem_toArray, List.getElem_cons_succ, List.getElem_cons_zero]); go_simp); try with_reducible rfl
      try simp (maxSteps := 2000000) only [List.getElem_toArray, List.getElem_cons_succ, List.getElem_cons_zero, Act.put, List.setIfInBounds_toArray, List.set_cons_zero, List.set_cons_succ]
      refine wpAnyH_ready (rs := [12]) (by kernel_rfl) (by simp) ?_
      refine AllReadyH.cons rfl (fun K hK => ?_) AllReadyH.nil
      try simp (maxSteps := 2000000) only [List.getElem_toArray, List.getElem_cons_succ, List.getElem_cons_zero]
      go_simp
      refine hK.out _ _ (KB.out _ (((hb35.setCell (by exact Nat.le_refl _) _).setCell (by exact Nat.le_refl _) _).setCell (by exact Nat.le_refl _) _)) (fun hHeld => ?_)
      clear hK K
      try simp (maxSteps := 2000000) only [List.getElem_toArray, List.getElem_cons_succ, List.getElem_cons_zero, Act.put, List.setIfInBounds_toArray, List.set_cons_zero, List.set_cons_succ]
      refine wpAnyH_ready (rs := [13]) (by kernel_rfl) (by simp) ?_
      refine AllReadyH.cons rfl (fun K hK => ?_) AllReadyH.nil
      try simp (maxSteps := 2000000) only [List.getElem_toArray, List.getElem_cons_succ, List.getElem_cons_zero]
      go_simp
      refine hK.out _ _ (KB.out _ (((hb35.setCell (by exact Nat.le_refl _) _).setCell (by exact Nat.le_refl _) _).setCell (by exact Nat.le_refl _) _)) (fun hHeld => ?_)
      clear hK K
      try simp (maxSteps := 2000000) only [List.getElem_toArray, List.getElem_cons_succ, List.getElem_cons_zero, Act.put, List.setIfInBounds_toArray, List.set_cons_zero, List.set_cons_succ]
      refine wpAnyH_done (by kernel_rfl) ?_ _
      go_wp2_with fail
      go_ret2
      have hsz : w3.heap.size < w5.heap.size := by have := hs5; have e := World.size_alloc w3 (.cells #[.int .i64 0, .int .i64 0, .slice none 0 0] 55); simp only [World.size_drew] at this; omega
      refine ⟨A5, c5, rfl, hc5, RdL.weaken ByR.stable (S := fun j => (w3.alloc (.cells #[.int .i64 0, .int .i64 0, .slice none 0 0] 55)).heap.size ≤ j) ?_ (fun j hj => Nat.le_trans hw3s (Nat.le_trans hal3.size hj)), ?_⟩
      · repeat (first | exact hr5 | refine RdL.setCell ByR.stable ?_ (show ¬ _ ≤ _ by rw [World.size_alloc]; dsimp only; omega) _)
      · repeat (first | exact HBW.out.trans (hb35.mono hw3s) | refine Below.setCell ?_ (by dsimp only; omega) _)
  · try simp (maxSteps := 2000000) only [List.getElem_toArray, List.getElem_cons_succ, List.getElem_cons_zero]
    go_simp
    refine hK.out _ _ (KB.out _ (show Below w3.heap.size w3 ((w3.alloc (.cells #[.int .i64 0, .int .i64 0, .slice none 0 0] 55)).drew) from hal3.drew)) (fun hHeld => ?_)
    clear hK K
    try simp (maxSteps := 2000000) only [List.getElem_toArray, List.getElem_cons_succ, List.getElem_cons_zero, Act.put, List.setIfInBounds_toArray, List.set_cons_zero, List.set_cons_succ]
    refine wpAnyH_ready (rs := [1]) (by kernel_rfl) (by simp) ?_
    refine AllReadyH.cons rfl (fun K hK => ?_) AllReadyH.nil
    try simp (maxSteps := 2000000) only [List.getElem_toArray, List.getElem_cons_succ, List.getElem_cons_zero]
    go_simp
    go_at_call 58
    refine (HF2.out _ (show Below w3.heap.size w3 ((w3.alloc (.cells #[.int .i64 0, .int .i64 0, .slice none 0 0] 55)).drew) from hal3.drew)).mono ?_
    rintro e w9 ⟨rfl, hw9⟩
    rw [hw9]
    clear hw9
    try (go_wp2_with fail)
    refine hK.out _ _ (KB.out _ (show Below w3.heap.size w3 ((w3.alloc (.cells #[.int .i64 0, .int .i64 0, .slice none 0 0] 55)).drew) from hal3.drew)) (fun hHeld => ?_)
    clear hK K
    try simp (maxSteps := 2000000) only [List.getElem_toArray, List.getElem_cons_succ, List.getElem_cons_zero, Act.put, List.setIfInBounds_toArray, List.set_cons_zero, List.set_cons_succ]
    refine wpAnyH_ready (rs := [7]) (by kernel_rfl) (by simp) ?_
    refine AllReadyH.cons rfl (fun K hK => ?_) AllReadyH.nil
    try simp (maxSteps := 2000000) only [List.getElem_toArray, List.getElem_cons_succ, List.getElem_cons_zero]
    go_simp
    go_at_call 57
    refine (HM.out _ (show Below w3.heap.size w3 ((w3.alloc (.cells #[.int .i64 0, .int .i64 0, .slice none 0 0] 55)).drew) from hal3.drew)).mono ?_
    rintro e w5 ⟨A5, c5, rfl, hc5, hr5, hb5⟩
    have hs5 := hb5.size
    have hb35 : Below w3.heap.size w3 w5 := Below.trans (show Below w3.heap.size w3 ((w3.alloc (.cells #[.int .i64 0, .int .i64 0, .slice none 0 0] 55)).drew) from hal3.drew) (hb5.mono (Below.size (show Below w3.heap.size w3 ((w3.alloc (.cells #[.int .i64 0, .int .i64 0, .slice none 0 0] 55)).drew) from hal3.drew)))
    try (go_wp2_with fail)
    refine hK.out _ _ (KB.out _ hb35) (fun hHeld => ?_)
    clear hK K
    try simp (maxSteps := 2000000) only [List.getElem_toArray, List.getElem_cons_succ, List.getElem_cons_zero, Act.put, List.setIfInBounds_toArray, List.set_cons_zero, List.set_cons_succ]
    have hpb := ((BoxAt.new w3 #[.int .i64 0, .int .i64 0, .slice none 0 0] 55).below (w' := (w3.alloc (.cells #[.int .i64 0, .int .i64 0, .slice none 0 0] 55)).drew) (Below.refl _ _).drew).below hb5
    have g0 := hpb.cell 0
    have g1 := hpb.cell 1
    have g2 := hpb.cell 2
    have f0 := hpb.frozen 0
    have f1 := hpb.frozen 1
    have f2 := hpb.frozen 2
    refine wpAnyH_take (i := 8) (v := ?_) rfl (by kernel_rfl) (by kernel_rfl) (by kernel_rfl) (fun _ _ _ h => h) (Or.inl ⟨by first | kernel_rfl | rfl, ?_⟩) (by assumption) ?_
    rotate_left
    · (intro wq hSw; (try dsimp only at hSw); (try simp (maxSteps := 2000000) only [List.getElem_toArray, List.getElem_cons_succ, List.getElem_cons_zero]); go_simp); try with_reducible rfl
    try simp (maxSteps := 2000000) only [List.getElem_toArray, List.getElem_cons_succ, List.getElem_cons_zero, Act.put, List.setIfInBounds_toArray, List.set_cons_zero, List.set_cons_succ]
    refine wpAnyH_take (i := 9) (v := ?_) rfl (by kernel_rfl) (by kernel_rfl) (by kernel_rfl) (fun _ _ _ h => h) (Or.inl ⟨by first | kernel_rfl | rfl, ?_⟩) (by assumption) ?_
    rotate_left
    · (intro wq hSw; (try dsimp only at hSw); (try simp (maxSteps := 2000000) only [List.getElem_toArray, List.getElem_cons_succ, List.getElem_cons_zero]); go_simp); try with_reducible rfl
    try simp (maxSteps := 2000000) only [List.getElem_toArray, List.getElem_cons_succ, List.getElem_cons_zero, Act.put, List.setIfInBounds_toArray, List.set_cons_zero, List.set_cons_succ]
    refine wpAnyH_take (i := 10) (v := ?_) rfl (by kernel_rfl) (by kernel_rfl) (by kernel_rfl) (fun _ _ _ h => h) (Or.inl ⟨by first | kernel_rfl | rfl, ?_⟩) (by assumption) ?_
    rotate_left
    · (intro wq hSw; (try dsimp only at hSw); (try simp (maxSteps := 2000000) only [List.getElem_toArray, List.getElem_cons_succ, List.getElem_cons_zero]); go_simp); try with_reducible rfl
    try simp (maxSteps := 2000000) only [List.getElem_toArray, List.getElem_cons_succ, List.getElem_cons_zero, Act.put, List.setIfInBounds_toArray, List.set_cons_zero, List.set_cons_succ]
    refine wpAnyH_ready (rs := [12]) (by kernel_rfl) (by simp) ?_
    refine AllReadyH.cons rfl (fun K hK => ?_) AllReadyH.nil
    try simp (maxSteps := 2000000) only [List.getElem_toArray, List.getElem_cons_succ, List.getElem_cons_zero]
    go_simp
    refine hK.out _ _ (KB.out _ (((hb35.setCell (by exact Nat.le_refl _) _).setCell (by exact Nat.le_refl _) _).setCell (by exact Nat.le_refl _) _)) (fun hHeld => ?_)
    clear hK K
    try simp (maxSteps := 2000000) only [List.getElem_toArray, List.getElem_cons_succ, List.getElem_cons_zero, Act.put, List.setIfInBounds_toArray, List.set_cons_zero, List.set_cons_succ]
    refine wpAnyH_ready (rs := [13]) (by kernel_rfl) (by simp) ?_
    refine AllReadyH.cons rfl (fun K hK => ?_) AllReadyH.nil
    try simp (maxSteps := 2000000) only [List.getElem_toArray, List.getElem_cons_succ, List.getElem_cons_zero]
    go_simp
    refine hK.out _ _ (KB.out _ (((hb35.setCell (by exact Nat.le_refl _) _).setCell (by exact Nat.le_refl _) _).setCell (by exact Nat.le_refl _) _)) (fun hHeld => ?_)
    clear hK K
    try simp (maxSteps := 2000000) only [List.getElem_toArray, List.getElem_cons_succ, List.getElem_cons_zero, Act.put, List.setIfInBounds_toArray, List.set_cons_zero, List.set_cons_succ]
    refine wpAnyH_done (by kernel_rfl) ?_ _
    go_wp2_with fail
    go_ret2
    have hsz : w3.heap.size < w5.heap.size := by have := hs5; have e := World.size_alloc w3 (.cells #[.int .i64 0, .int .i64 0, .slice none 0 0] 55); simp only [World.size_drew] at this; omega
    refine ⟨A5, c5, rfl, hc5, RdL.weaken ByR.stable (S := fun j => (w3.alloc (.cells #[.int .i64 0, .int .i64 0, .slice none 0 0] 55)).heap.size ≤ j) ?_ (fun j hj => Nat.le_trans hw3s (Nat.le_trans hal3.size hj)), ?_⟩
    · repeat (first | exact hr5 | refine RdL.setCell ByR.stable ?_ (show ¬ _ ≤ _ by rw [World.size_alloc]; dsimp only; omega) _)
    · repeat (first | exact HBW.out.trans (hb35.mono hw3s) | refine Below.setCell ?_ (by dsimp only; omega) _)
end Go.Proofs.YthhljmlpjnkfgaaGreat
