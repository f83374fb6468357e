/-
  What must come at any rate.
-/
import Derived.Test.YthhljmlpjnkfgaaGreatDcd1
set_option linter.unusedSimpArgs false
set_option linter.unusedVariables false
namespace Go.Proofs.YthhljmlpjnkfgaaGreat
open Go.RowKit Go.Cib
attribute [local go_sem] cell_set Later.cell Later.frozen Grw.cell Grw.frozen

/-- Two rows side by side as a slice of slices. -/
theorem rows_mk {w : World} {g : Nat} {n : Nat} {cs : Array Value} {ls : Rws} {S : Nat → Prop} (hb : BoxAt w g cs) (hl : ls.length = n) (hS : S g) (h : ∀ i, i < n → ∃ A m c, cs[i]? = some (.slice A m c) ∧ m ≤ c ∧ RdL ByR 1 S w A m (ra ls i)) : RdL RowR 1 S w (some ⟨g, 0, none⟩) n ls := by
  refine ⟨hl, fun _ => ⟨g, 0, rfl, hS, hb.lt, fun i x hx => ?_⟩⟩
  have hi : i < n := by rw [← hl]; exact (List.getElem?_eq_some_iff.1 hx).1
  obtain ⟨A, m, c, e1, e2, e3⟩ := h i hi
  rw [ra_some hx] at e3
  refine ⟨[.slice A m c], rfl, ⟨A, m, c, rfl, e2, e3⟩, fun j v hj => ?_⟩
  rcases j with _ | j
  · simp at hj; subst hj
    rw [show 0 + i * 1 + 0 = i by omega]
    exact (hb.cell i).trans e1
  · simp at hj
theorem one_by (w : World) (x : Nat) (hx : x < 256) (t : TypeId) : RdL ByR 1 (fun _ => True) (w.alloc (.cells #[.int .u8 (x : Int)] t)) (some ⟨w.heap.size, 0, none⟩) 1 [x] :=
  by_mk rfl (fun y hy => by rw [List.mem_singleton.1 hy]; exact hx) trivial (by rw [World.size_alloc]; omega) (fun k hk => by
    obtain rfl : k = 0 := by omega
    exact (BoxAt.new w _ t).cell 0)
theorem par_len : par1.length = 1 := by decide +kernel
theorem len3 : ∀ i, lenF [[], [9], par1] i ≤ 1000000 := fun i => by
  rcases i with _ | _ | _ | i
  · show 0 ≤ _; omega
  · show 1 ≤ _; omega
  · show par1.length ≤ _; rw [par_len]; omega
  · show 0 ≤ _; omega
set_option maxRecDepth 100000 in
set_option maxHeartbeats 16000000 in
theorem decodes_any {w : World} : Calls Tryz.prog 11 #[] w fun e w' => e = .returned (.bool true) ∧ Below w.heap.size w w' := by
  go_enter Tryz.func11, Tryz.ntmps11
  go_wp2_with fail
  refine fldnew_any.mono ?_
  rintro e w1 ⟨rfl, hF, hb1⟩
  have hs1 := hb1.size
  have hnew := new_any (k := 2) (m := 1) hF (by omega) (by omega) (by omega)
  have hc2 : ((2 : Nat) : Int) = 2 := rfl
  have hc1 : ((1 : Nat) : Int) = 1 := rfl
  rw [hc2, hc1] at hnew
  go_wp2_with fail
  refine hnew.mono ?_
  rintro e w2 ⟨cb, rfl, hC, hk⟩
  have hb2 : Below w.heap.size w w2 := hb1.trans (Keep.below hk hb1.size (fun k hk => by rw [hk]; exact Nat.le_refl _))
  have HC := Lib.hid hC
  have HB2 := Lib.hid hb2
  clear hF hb1 hnew hC hk hb2
  -- the two rows
  have hr5 := (one_by w2 5 (by decide) 5)
  have hr9 := (one_by (w2.alloc (.cells #[.int .u8 5] 5)) 9 (by decide) 5)
  have hba : Below w2.heap.size w2 (((w2.alloc (.cells #[.int .u8 5] 5)).alloc (.cells #[.int .u8 9] 5)).alloc (.cells #[.slice (some ⟨w2.heap.size, 0, none⟩) 1 1, .slice (some ⟨w2.heap.size + 1, 0, none⟩) 1 1] 29)) := (by repeat (first | (with_reducible exact Below.refl _ _) | (with_reducible assumption) | (with_reducible refine Below.drew ?_) | (with_reducible refine Below.setCell ?_ ?_ _) | (with_reducible refine Below.alloc ?_ ?_ _) | (with_reducible refine Below.later ?_ ?_ _) | (first | (with_reducible exact Nat.le_refl _) | omega | (simp only [World.size_alloc, World.size_setCell, World.size_drew] <;> omega))))
  have hbx := BoxAt.new ((w2.alloc (.cells #[.int .u8 5] 5)).alloc (.cells #[.int .u8 9] 5)) #[.slice (some ⟨w2.heap.size, 0, none⟩) 1 1, .slice (some ⟨w2.heap.size + 1, 0, none⟩) 1 1] 29
  replace hr5 := (hr5.alloc ByR.stable (.cells #[.int .u8 9] 5)).alloc ByR.stable (.cells #[.slice (some ⟨w2.heap.size, 0, none⟩) 1 1, .slice (some ⟨w2.heap.size + 1, 0, none⟩) 1 1] 29)
  replace hr9 := hr9.alloc ByR.stable (.cells #[.slice (some ⟨w2.heap.size, 0, none⟩) 1 1, .slice (some ⟨w2.heap.size + 1, 0, none⟩) 1 1] 29)
  simp only [World.size_alloc] at hbx hr9
  go_wp2_with fail
  generalize (((w2.alloc (.cells #[.int .u8 5] 5)).alloc (.cells #[.int .u8 9] 5)).alloc (.cells #[.slice (some ⟨w2.heap.size, 0, none⟩) 1 1, .slice (some ⟨w2.heap.size + 1, 0, none⟩) 1 1] 29)) = w3 at *
  have hls : RdL RowR 1 (fun _ => True) w3 (some ⟨w2.heap.size + 1 + 1, 0, none⟩) 2 [[5], [9]] := rows_mk hbx rfl trivial fun i hi => by
    rcases i with _ | _ | i
    · exact ⟨_, 1, 1, rfl, Nat.le_refl _, hr5⟩
    · exact ⟨_, 1, 1, rfl, Nat.le_refl _, hr9⟩
    · omega
  have hB3 := HB2.out.trans (hba.mono HB2.out.size)
  have hcall := call2_any (cs := 2) (HC.out.below hba) hls (by omega) (fun i => by
    rcases i with _ | _ | i
    · show 1 ≤ _; omega
    · show 1 ≤ _; omega
    · show 0 ≤ _; omega)
  have HB3 := Lib.hid hB3
  have HC3 := Lib.hid (HC.out.below hba)
  clear hbx hr5 hr9 hls hba hB3
  refine hcall.mono ?_
  rintro e w4 ⟨hb4, ⟨hG, _⟩ | ⟨_, A4, c4, rfl, hc4, hr4⟩⟩
  · exact absurd hG (by decide)
  have hB4 := HB3.out.trans (hb4.mono HB3.out.size)
  have hC4 := HC3.out.below hb4
  have hr4' : RdL RowR 1 (fun j => w3.heap.size ≤ j) w4 A4 3 [[5], [9], par1] := hr4
  have HB4 := Lib.hid hB4
  have HC4 := Lib.hid hC4
  have HR4 := Lib.hid hr4'
  obtain ⟨b4, o4, rfl, _, l4⟩ := hr4'.addr (k := 1) (by omega)
  obtain ⟨A1, m1, cc1, v1, hm1, r1⟩ := row_at hr4' (k := 1) (by omega)
  obtain ⟨A2, m2, cc2, v2, hm2, r2⟩ := row_at hr4' (k := 2) (by omega)
  obtain rfl : m1 = 1 := r1.1.symm
  obtain rfl : m2 = 1 := r2.1.symm.trans par_len
  have R1 : Hid (RdL ByR 1 (fun _ => True) w4 A1 1 [9]) := Lib.hid (r1.weaken ByR.stable fun _ _ => trivial)
  have R2 : Hid (RdL ByR 1 (fun _ => True) w4 A2 1 par1) := Lib.hid (r2.weaken ByR.stable fun _ _ => trivial)
  have h3 : ((2 : Nat) + 1) = 3 := rfl
  clear hcall hb4 hr4 hr4' r1 r2 hB4 hC4
  go_wp2_with fail
  have hal : Below w4.heap.size w4 (w4.alloc (.cells #[.slice none 0 0, .slice A1 1 cc1, .slice A2 1 cc2] 29)).drew := ((Below.refl _ _).alloc (Nat.le_refl _) _).drew
  have hbx := BoxAt.new w4 #[.slice none 0 0, .slice A1 1 cc1, .slice A2 1 cc2] 29
  have hls : RdL RowR 1 (fun _ => True) (w4.alloc (.cells #[.slice none 0 0, .slice A1 1 cc1, .slice A2 1 cc2] 29)).drew (some ⟨w4.heap.size, 0, none⟩) 3 [[], [9], par1] := rows_mk (cs := #[.slice none 0 0, .slice A1 1 cc1, .slice A2 1 cc2]) (hbx.keep rfl) rfl trivial fun i hi => by
    rcases i with _ | _ | _ | i
    · exact ⟨none, 0, 0, rfl, Nat.le_refl _, RdL.nil⟩
    · exact ⟨A1, 1, cc1, rfl, hm1, R1.out.below ByR.stable hal⟩
    · exact ⟨A2, 1, cc2, rfl, hm2, R2.out.below ByR.stable hal⟩
    · omega
  have hda := ddata_any (cs := 3) (HC4.out.below hal) hls (by omega) len3 (Lib.hid fun h1 h2 => inj_useT h1 h2 (by omega) (by omega))
  have HAL := Lib.hid hal
  have s1 : w4.drew.cell? ⟨b4, o4 + 1, none⟩ = some (.slice A1 1 cc1) ∧ w4.drew.cell? ⟨b4, o4 + 2, none⟩ = some (.slice A2 1 cc2) := ⟨v1, v2⟩
  have keepS : ∀ w', Below w4.drew.heap.size w4.drew w' → w'.cell? ⟨b4, o4 + 1, none⟩ = some (.slice A1 1 cc1) ∧ w'.cell? ⟨b4, o4 + 2, none⟩ = some (.slice A2 1 cc2) := fun w' h => ⟨(h.cell (p := ⟨b4, o4 + 1, none⟩) l4).trans v1, (h.cell (p := ⟨b4, o4 + 2, none⟩) l4).trans v2⟩
  have KS := Lib.hid keepS
  clear hal hbx hls keepS
  refine wp_region_held_drew (S := fun w' => w'.cell? ⟨b4, o4 + 1, none⟩ = some (.slice A1 1 cc1) ∧ w'.cell? ⟨b4, o4 + 2, none⟩ = some (.slice A2 1 cc2)) (by kernel_rfl) (by first | exact s1 | exact s2 | exact KS.out _ ((Below.refl _ _).alloc (Nat.le_refl _) _)) (fun hHeld => ?_)
  refine wpAnyH_take (i := 0) (v := ?_) rfl (by kernel_rfl) (by kernel_rfl) (by kernel_rfl) (fun _ _ _ h => h) (Or.inl ⟨by first | kernel_rfl | rfl, ?_⟩) (by assumption) ?_
  rotate_left
  · (intro wq hSw; (try dsimp only at hSw); (try simp (maxSteps := 2000000) only [List.getElem_toArray, List.getElem_cons_succ, List.getElem_cons_zero]); go_simp); try with_reducible rfl
  try simp (maxSteps := 2000000) only [List.getElem_toArray, List.getElem_cons_succ, List.getElem_cons_zero, Act.put, List.setIfInBounds_toArray, List.set_cons_zero, List.set_cons_succ]
  refine wpAnyH_take (i := 1) (v := ?_) rfl (by kernel_rfl) (by kernel_rfl) (by kernel_rfl) (fun _ _ _ h => h) (Or.inl ⟨by first | kernel_rfl | rfl, ?_⟩) (by assumption) ?_
  rotate_left
  · (intro wq hSw; (try dsimp only at hSw); (try simp (maxSteps := 2000000) only [List.getElem_toArray, List.getElem_cons_succ, List.getElem_cons_zero]); go_simp); try with_reducible rfl
  try simp (maxSteps := 2000000) only [List.getElem_toArray, List.getElem_cons_succ, List.getElem_cons_zero, Act.put, List.setIfInBounds_toArray, List.set_cons_zero, List.set_cons_succ]
  refine wpAnyH_take (i := 2) (v := ?_) rfl (by kernel_rfl) (by kernel_rfl) (by kernel_rfl) (fun _ _ _ h => h) (Or.inl ⟨by first | kernel_rfl | rfl, ?_⟩) (by assumption) ?_
  rotate_left
  · (intro wq hSw; (try dsimp only at hSw); (try simp (maxSteps := 2000000) only [List.getElem_toArray, List.getElem_cons_succ, List.getElem_cons_zero]); go_simp); try with_reducible rfl
  try simp (maxSteps := 2000000) only [List.getElem_toArray, List.getElem_cons_succ, List.getElem_cons_zero, Act.put, List.setIfInBounds_toArray, List.set_cons_zero, List.set_cons_succ]
  refine wpAnyH_take (i := 3) (v := ?_) rfl (by kernel_rfl) (by kernel_rfl) (by kernel_rfl) (fun _ _ _ h => h) (Or.inl ⟨by first | kernel_rfl | rfl, ?_⟩) (by assumption) ?_
  rotate_left
  · (intro wq hSw; (try dsimp only at hSw); (try simp (maxSteps := 2000000) only [List.getElem_toArray, List.getElem_cons_succ, List.getElem_cons_zero]); go_simp); try with_reducible rfl
  try simp (maxSteps := 2000000) only [List.getElem_toArray, List.getElem_cons_succ, List.getElem_cons_zero, Act.put, List.setIfInBounds_toArray, List.set_cons_zero, List.set_cons_succ]
  refine wpAnyH_take (i := 4) (v := ?_) rfl (by kernel_rfl) (by kernel_rfl) (by kernel_rfl) (fun _ _ _ h => h) (Or.inl ⟨by first | kernel_rfl | rfl, ?_⟩) (by assumption) ?_
  rotate_left
  · (intro wq hSw; (try dsimp only at hSw); (try simp (maxSteps := 2000000) only [List.getElem_toArray, List.getElem_cons_succ, List.getElem_cons_zero]); go_simp); try with_reducible rfl
  try simp (maxSteps := 2000000) only [List.getElem_toArray, List.getElem_cons_succ, List.getElem_cons_zero, Act.put, List.setIfInBounds_toArray, List.set_cons_zero, List.set_cons_succ]
  refine wpAnyH_take (i := 5) (v := ?_) rfl (by kernel_rfl) (by kernel_rfl) (by kernel_rfl) (fun _ _ _ h => h) (Or.inl ⟨by first | kernel_rfl | rfl, ?_⟩) (by assumption) ?_
  rotate_left
  · (intro wq hSw; (try dsimp only at hSw); (try simp (maxSteps := 2000000) only [List.getElem_toArray, List.getElem_cons_succ, List.getElem_cons_zero]); go_simp); try with_reducible rfl
  try simp (maxSteps := 2000000) only [List.getElem_toArray, List.getElem_cons_succ, List.getElem_cons_zero, Act.put, List.setIfInBounds_toArray, List.set_cons_zero, List.set_cons_succ]
  refine wpAnyH_take (i := 6) (v := ?_) rfl (by kernel_rfl) (by kernel_rfl) (by kernel_rfl) (fun _ _ _ h => h) (Or.inl ⟨by first | kernel_rfl | rfl, ?_⟩) (by assumption) ?_
  rotate_left
  · (intro wq hSw; (try dsimp only at hSw); (try simp (maxSteps := 2000000) only [List.getElem_toArray, List.getElem_cons_succ, List.getElem_cons_zero]); go_simp); try with_reducible rfl
  try simp (maxSteps := 2000000) only [List.getElem_toArray, List.getElem_cons_succ, List.getElem_cons_zero, Act.put, List.setIfInBounds_toArray, List.set_cons_zero, List.set_cons_succ]
  refine wpAnyH_ready (rs := [7]) (by kernel_rfl) (by simp) ?_
  refine AllReadyH.cons rfl (fun K hK => ?_) AllReadyH.nil
  try simp (maxSteps := 2000000) only [List.getElem_toArray, List.getElem_cons_succ, List.getElem_cons_zero]
  go_simp
  refine hK.out _ _ (by first | exact s1 | exact s2 | exact KS.out _ ((Below.refl _ _).alloc (Nat.le_refl _) _)) (fun hHeld => ?_)
  clear hK K
  try simp (maxSteps := 2000000) only [List.getElem_toArray, List.getElem_cons_succ, List.getElem_cons_zero, Act.put, List.setIfInBounds_toArray, List.set_cons_zero, List.set_cons_succ]
  refine wpAnyH_ready (rs := [8]) (by kernel_rfl) (by simp) ?_
  refine AllReadyH.cons rfl (fun K hK => ?_) AllReadyH.nil
  try simp (maxSteps := 2000000) only [List.getElem_toArray, List.getElem_cons_succ, List.getElem_cons_zero]
  go_simp
  go_at_call 17
  refine hda.mono ?_
  rintro e w5 ⟨hb5, ⟨hG, _⟩ | ⟨_, hF, _⟩ | ⟨_, _, g5, rfl, hr5⟩⟩
  · exact absurd (hG.symm.trans bad1) (by decide)
  · exact absurd hF (by rw [th1]; decide)
  rw [out1] at hr5
  have hb45 := HAL.out.trans (hb5.mono HAL.out.size)
  have s2 := KS.out w5 ((Below.refl w4.drew.heap.size w4).drew |> fun _ => ⟨hb45.os, hb45.tape, hb45.output, hb45.size, hb45.block⟩)
  have HB5 := Lib.hid (HB4.out.trans (hb45.mono HB4.out.size))
  have HC5 := Lib.hid (HC4.out.below hb45)
  have HR5 := Lib.hid (hr5.weaken RowR.stable (S' := fun _ => True) fun _ _ => trivial)
  have H45 := Lib.hid hb45
  clear hda hb5 hr5 hb45
  try (go_wp2_with fail)
  refine hK.out _ _ (by first | exact s1 | exact s2 | exact KS.out _ ((Below.refl _ _).alloc (Nat.le_refl _) _)) (fun hHeld => ?_)
  clear hK K
  try simp (maxSteps := 2000000) only [List.getElem_toArray, List.getElem_cons_succ, List.getElem_cons_zero, Act.put, List.setIfInBounds_toArray, List.set_cons_zero, List.set_cons_succ]
  refine wpAnyH_take (i := 9) (v := ?_) rfl (by kernel_rfl) (by kernel_rfl) (by kernel_rfl) (fun _ _ _ h => h) (Or.inl ⟨by first | kernel_rfl | rfl, ?_⟩) (by assumption) ?_
  rotate_left
  · (intro wq hSw; (try dsimp only at hSw); (try simp (maxSteps := 2000000) only [List.getElem_toArray, List.getElem_cons_succ, List.getElem_cons_zero]); go_simp); try with_reducible rfl
  try simp (maxSteps := 2000000) only [List.getElem_toArray, List.getElem_cons_succ, List.getElem_cons_zero, Act.put, List.setIfInBounds_toArray, List.set_cons_zero, List.set_cons_succ]
  refine wpAnyH_take (i := 10) (v := ?_) rfl (by kernel_rfl) (by kernel_rfl) (by kernel_rfl) (fun _ _ _ h => h) (Or.inl ⟨by first | kernel_rfl | rfl, ?_⟩) (by assumption) ?_
  rotate_left
  · (intro wq hSw; (try dsimp only at hSw); (try simp (maxSteps := 2000000) only [List.getElem_toArray, List.getElem_cons_succ, List.getElem_cons_zero]); go_simp); try with_reducible rfl
  try simp (maxSteps := 2000000) only [List.getElem_toArray, List.getElem_cons_succ, List.getElem_cons_zero, Act.put, List.setIfInBounds_toArray, List.set_cons_zero, List.set_cons_succ]
  refine wpAnyH_take (i := 11) (v := ?_) rfl (by kernel_rfl) (by kernel_rfl) (by kernel_rfl) (fun _ _ _ h => h) (Or.inl ⟨by first | kernel_rfl | rfl, ?_⟩) (by assumption) ?_
  rotate_left
  · (intro wq hSw; (try dsimp only at hSw); (try simp (maxSteps := 2000000) only [List.getElem_toArray, List.getElem_cons_succ, List.getElem_cons_zero]); go_simp); try with_reducible rfl
  try simp (maxSteps := 2000000) only [List.getElem_toArray, List.getElem_cons_succ, List.getElem_cons_zero, Act.put, List.setIfInBounds_toArray, List.set_cons_zero, List.set_cons_succ]
  refine wpAnyH_take (i := 12) (v := ?_) rfl (by kernel_rfl) (by kernel_rfl) (by kernel_rfl) (fun _ _ _ h => h) (Or.inl ⟨by first | kernel_rfl | rfl, ?_⟩) (by assumption) ?_
  rotate_left
  · (intro wq hSw; (try dsimp only at hSw); (try simp (maxSteps := 2000000) only [List.getElem_toArray, List.getElem_cons_succ, List.getElem_cons_zero]); go_simp); try with_reducible rfl
  try simp (maxSteps := 2000000) only [List.getElem_toArray, List.getElem_cons_succ, List.getElem_cons_zero, Act.put, List.setIfInBounds_toArray, List.set_cons_zero, List.set_cons_succ]
  refine wpAnyH_take (i := 13) (v := ?_) rfl (by kernel_rfl) (by kernel_rfl) (by kernel_rfl) (fun _ _ _ h => h) (Or.inl ⟨by first | kernel_rfl | rfl, ?_⟩) (by assumption) ?_
  rotate_left
  · (intro wq hSw; (try dsimp only at hSw); (try simp (maxSteps := 2000000) only [List.getElem_toArray, List.getElem_cons_succ, List.getElem_cons_zero]); go_simp); try with_reducible rfl
  try simp (maxSteps := 2000000) only [List.getElem_toArray, List.getElem_cons_succ, List.getElem_cons_zero, Act.put, List.setIfInBounds_toArray, List.set_cons_zero, List.set_cons_succ]
  refine wpAnyH_done (by kernel_rfl) ?_ _
  have v5 := hHeld.1
  have hbx := BoxAt.new w5 #[.slice none 0 0, .slice A1 1 cc1, .slice none 0 0] 29
  have hal : Below w5.heap.size w5 (w5.alloc (.cells #[.slice none 0 0, .slice A1 1 cc1, .slice none 0 0] 29)) := (Below.refl _ _).alloc (Nat.le_refl _) _
  clear hHeld s1 s2
  go_wp2_with fail
  generalize (w5.alloc (.cells #[.slice none 0 0, .slice A1 1 cc1, .slice none 0 0] 29)) = w6 at *
  have hls : RdL RowR 1 (fun _ => True) w6 (some ⟨w5.heap.size, 0, none⟩) 3 [[], [9], []] := rows_mk hbx rfl trivial fun i hi => by
    rcases i with _ | _ | _ | i
    · exact ⟨none, 0, 0, rfl, Nat.le_refl _, RdL.nil⟩
    · exact ⟨A1, 1, cc1, rfl, hm1, (R1.out.below ByR.stable H45.out).below ByR.stable hal⟩
    · exact ⟨none, 0, 0, rfl, Nat.le_refl _, RdL.nil⟩
    · omega
  have hda := ddata_any (cs := 3) (HC5.out.below hal) hls (by omega) (fun i => by
    rcases i with _ | _ | _ | i
    · show 0 ≤ _; omega
    · show 1 ≤ _; omega
    · show 0 ≤ _; omega
    · show 0 ≤ _; omega) (Lib.hid fun h1 h2 => inj_useT h1 h2 (by omega) (by omega))
  have HAL2 := Lib.hid hal
  clear hbx hal hls v5
  refine hda.mono ?_
  rintro e w7 ⟨hb7, ⟨hG, _⟩ | ⟨_, _, rfl⟩ | ⟨_, hF, _⟩⟩
  · exact absurd (hG.symm.trans bad2) (by decide)
  rotate_left
  · exact absurd (show (thU [[], [9], []] 3).length < 2 by rw [th2]; decide) hF
  have hb57 := HAL2.out.trans (hb7.mono HAL2.out.size)
  have HB7 := Lib.hid (HB5.out.trans (hb57.mono HB5.out.size))
  have HC7 := Lib.hid (HC5.out.below hb57)
  have HR7 := Lib.hid (HR5.out.below RowR.stable hb57)
  clear hda hb7 hb57
  have hbi := BoxAt.new w7 #[.int .i64 2, .int .i64 1] 3
  have hal : Below w7.heap.size w7 (w7.alloc (.cells #[.int .i64 2, .int .i64 1] 3)) := (Below.refl _ _).alloc (Nat.le_refl _) _
  go_wp2_with fail
  generalize (w7.alloc (.cells #[.int .i64 2, .int .i64 1] 3)) = w8 at *
  have hli : RdL IntR 1 (fun _ => True) w8 (some ⟨w7.heap.size, 0, none⟩) 2 [2, 1] := ⟨rfl, fun _ => ⟨w7.heap.size, 0, rfl, trivial, hbi.lt, fun i x hx => by
    rcases i with _ | _ | i
    · simp at hx; subst hx
      refine ⟨[.int .i64 2], rfl, rfl, fun j v hj => ?_⟩
      rcases j with _ | j
      · simp at hj; subst hj; exact hbi.cell 0
      · simp at hj
    · simp at hx; subst hx
      refine ⟨[.int .i64 1], rfl, rfl, fun j v hj => ?_⟩
      rcases j with _ | j
      · simp at hj; subst hj; exact hbi.cell 1
      · simp at hj
    · simp at hx⟩⟩
  have hnb : ¬ badP 2 1 [2, 1] 1 := by decide
  have hdp := dplan_any (c := 2) (want := 1) (HC7.out.below hal) hli (by omega) (Lib.hid fun h1 h2 => inj_usN (m := 1) (Classical.byContradiction fun h3 => h1 (.inr (.inr h3))) (by show 2 ≤ 2; omega) (by omega))
  have HAL3 := Lib.hid hal
  clear hbi hal hli
  refine hdp.mono ?_
  rintro e w9 ⟨hb9, ⟨hG, _⟩ | ⟨_, hF, _⟩ | ⟨_, _, A9, c9, A10, c10, rfl, hr9, hr10⟩⟩
  · exact absurd hG hnb
  · exact absurd hF (by omega)
  rw [us1] at hr9
  have hpl : planF 2 (usN 2 [2, 1]) (1 : Int).toNat = [1, 0] := by rw [us1]; exact pl1
  rw [hpl] at hr10
  have hb79 := HAL3.out.trans (hb9.mono HAL3.out.size)
  have HB9 := Lib.hid (HB7.out.trans (hb79.mono HB7.out.size))
  have hr7 := HR7.out.below RowR.stable hb79
  obtain ⟨D0, m0, cd0, d0, _, t0⟩ := row_at hr7 (k := 0) (by omega)
  obtain ⟨D1, n1, cd1, d1, _, t1⟩ := row_at hr7 (k := 1) (by omega)
  rw [Nat.zero_add] at d0 d1
  have x0 := text_run (c := cd0) (show RdL ByR 1 (fun _ => True) w9 D0 m0 [5] from t0)
  have x1 := text_run (c := cd1) (show RdL ByR 1 (fun _ => True) w9 D1 n1 [9] from t1)
  have x10 := text_run (c := c10) hr10
  rw [tx5] at x0
  rw [tx9] at x1
  rw [tx10] at x10
  obtain ⟨b9, o9, rfl, _, _⟩ := hr9.addr (k := 0) (by omega)
  have e0 := nat_at hr9 (k := 0) (by omega)
  have e1 := nat_at hr9 (k := 1) (by omega)
  rw [Nat.add_zero] at e0
  replace e0 : w9.cell? ⟨b9, o9, none⟩ = some (.int .i64 1) := e0
  replace e1 : w9.cell? ⟨b9, o9 + 1, none⟩ = some (.int .i64 2) := e1
  clear hdp hb9 hr9 hr10 hb79 hr7 t0 t1 hpl hnb
  go_wp2_with fail
  go_ret
  exact ⟨by simp, HB9.out⟩
end Go.Proofs.YthhljmlpjnkfgaaGreat
