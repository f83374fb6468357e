/-
  Of any k rows comes data of which the coder makes these rows.
  Arguments as readings; the last step of a law's proof.
  Bytes, numbers and rows of bytes among the arguments.
  Rows of bytes among the arguments.
-/
import Derived.Test.YthhljmlpjnkfgaaGreatDo7
import Derived.Test.YthhljmlpjnkfgaaGreatDo1
import Derived.ProofKit
import Derived.OpenShut
import Derived.Deep.Slices
import Derived.Deep.Fields
import Derived.Carry
import Derived.ChangeSame
import Derived.Test.YthhljmlpjnkfgaaGreatDo2
import Derived.Test.YthhljmlpjnkfgaaGreatDo5
set_option linter.unusedSimpArgs false
set_option linter.unusedVariables false
namespace Go.Proofs.YthhljmlpjnkfgaaGreat
open Go.RowKit Go.Cib
attribute [local go_sem] cell_set Later.cell Later.frozen Grw.cell Grw.frozen
theorem rows_byt {S : Nat → Prop} {w : World} {A : Option Addr} {n : Nat} {ss : Rws} (R : RdL RowR 1 S w A n ss) (u : Nat) : Byt (ra ss u) := by
  by_cases h : u < n
  · obtain ⟨b, o, rfl, _, _⟩ := R.addr h
    obtain ⟨A1, m1, c1, _, _, r1⟩ := row_at R h
    exact by_byt r1
  · unfold ra
    rw [List.getD_eq_getElem?_getD, List.getElem?_eq_none (by rw [R.1]; omega)]
    intro x hx
    simp at hx

set_option maxRecDepth 100000 in
set_option maxHeartbeats 16000000 in
theorem one_any {w : World} {z0 z1 : Int} {A2 : Option Addr} {n2 c2 : Nat} {ss : Rws} (R2 : RdL RowR 1 (fun _ => True) w A2 n2 ss) :
    Calls Tryz.prog 6 #[.int .i64 z0, .int .i64 z1, .slice A2 n2 c2] w fun e w' => e = .returned (.bool true) ∧ Below w.heap.size w w' := by
  have H2 := Lib.hid R2
  have hrl := R2.1
  clear R2
  go_enter Tryz.func6, Tryz.ntmps6
  go_wp2_with fail
  refine fldnew_any.mono ?_
  rintro e w1 ⟨rfl, hF, hb1⟩
  have hs1 := hb1.size
  by_cases hok : 1 ≤ z0 ∧ 1 ≤ z1 ∧ z0 ≤ 255 ∧ z1 ≤ 255 - z0
  · obtain ⟨k, rfl⟩ : ∃ k : Nat, z0 = (k : Int) := ⟨z0.toNat, by omega⟩
    obtain ⟨m, rfl⟩ : ∃ m : Nat, z1 = (m : Int) := ⟨z1.toNat, by omega⟩
    have k1 : 1 ≤ k := by omega
    have m1 : 1 ≤ m := by omega
    have km : k + m ≤ 255 := by omega
    have hnew := new_any (k := k) (m := m) hF k1 m1 km
    clear hok
    go_wp2_with fail
    refine hnew.mono ?_
    rintro e w2 ⟨cb, rfl, hC, hk⟩
    have hb2 : Below w.heap.size w w2 := hb1.trans (Keep.below hk hb1.size (fun k hk => by rw [hk]; exact Nat.le_refl _))
    have HC := Lib.hid hC
    have HB2 := Lib.hid hb2
    clear hF hb1 hnew hC hk hb2
    have q0 : (0 : Int) ≤ (k : Int) := Int.natCast_nonneg _
    have q1 : (0 : Int) ≤ (m : Int) := Int.natCast_nonneg _
    have q2 : (k : Int) + (m : Int) ≤ 255 := by omega
    have hdc := decodes_any (w := w2)
    by_cases hbig : (k : Int) + (m : Int) > 16
    · go_wp2_with fail
      refine hdc.mono ?_
      rintro e w3 ⟨rfl, hb3⟩
      go_wp2_with fail
      go_ret
      exact ⟨rfl, HB2.out.trans (hb3.mono HB2.out.size)⟩
    · have hN : k + m ≤ 16 := by omega
      have h22 := H2.out.below RowR.stable HB2.out
      have hfw := looksFew_any (c := c2) h22 0
      obtain ⟨B, hB⟩ : ∃ B, fewB ss n2 = B := ⟨_, rfl⟩
      rw [hB] at hfw
      have HBB := Lib.hid hB
      have H22 := Lib.hid h22
      clear hB h22
      cases B with
      | false =>
        go_wp2_with fail
        refine hfw.mono ?_
        rintro e w3 ⟨rfl, hw3⟩
        rw [hw3]
        clear hw3 hfw
        go_wp2_with fail
        refine hdc.mono ?_
        rintro e w3 ⟨rfl, hb3⟩
        go_wp2_with fail
        go_ret
        exact ⟨rfl, HB2.out.trans (hb3.mono HB2.out.size)⟩
      | true =>
        clear hdc
        obtain ⟨hn2, hlen⟩ := fewB_ok hrl HBB.out
        have hlen2 : ∀ i, lenF ss i ≤ 1000000 := fun i => Nat.le_trans (hlen i) (by omega)
        have HL2 := Lib.hid hlen2
        have hdl := dall_any (cs := c2) HC.out H22.out (by omega) hlen2 (Lib.hid fun h1 h2 => by
          obtain rfl := (use_ok h1 h2 k1).1
          exact inj_useT h1 h2 k1 km)
        clear hlen hlen2 HBB
        go_wp2_with fail
        refine hfw.mono ?_
        rintro e w3 ⟨rfl, hw3⟩
        rw [hw3]
        clear hw3 hfw
        go_wp2_with fail
        refine hdl.mono ?_
        clear hdl
        rintro e w3 ⟨hb3, ⟨_, rfl⟩ | ⟨_, _, rfl⟩ | ⟨hG1, hG2, g3, rfl, hr3⟩⟩
        · have hth := rthere_any (c := c2) (H22.out.below RowR.stable hb3) (by omega)
          go_wp2_with fail
          refine hth.mono ?_
          rintro e w4 ⟨A4, c4, rfl, hc4, hr4, hb4⟩
          clear hth
          have HB4 := Lib.hid (HB2.out.trans ((hb3.trans (hb4.mono hb3.size)).mono HB2.out.size))
          clear hb3 hb4
          have hdc := decodes_any (w := w4)
          go_wp2_with fail
          refine hdc.mono ?_
          rintro e w5 ⟨rfl, hb5⟩
          go_wp2_with fail
          go_ret
          exact ⟨rfl, HB4.out.trans (hb5.mono HB4.out.size)⟩
        · have hth := rthere_any (c := c2) (H22.out.below RowR.stable hb3) (by omega)
          go_wp2_with fail
          refine hth.mono ?_
          rintro e w4 ⟨A4, c4, rfl, hc4, hr4, hb4⟩
          clear hth
          have HB4 := Lib.hid (HB2.out.trans ((hb3.trans (hb4.mono hb3.size)).mono HB2.out.size))
          clear hb3 hb4
          have hdc := decodes_any (w := w4)
          go_wp2_with fail
          refine hdc.mono ?_
          rintro e w5 ⟨rfl, hb5⟩
          go_wp2_with fail
          go_ret
          exact ⟨rfl, HB4.out.trans (hb5.mono HB4.out.size)⟩
        · obtain rfl := (use_ok hG1 hG2 k1).1
          have hth := rthere_any (c := c2) (H22.out.below RowR.stable hb3) (by omega)
          have HG1 := Lib.hid hG1
          have hul := thU_len ss (k + m)
          have hge : k ≤ (thU ss (k + m)).length := by omega
          have HR3 := Lib.hid hr3
          have HB3 := Lib.hid hb3
          clear hG1 hG2 hr3 hb3
          push_cast at hth
          go_wp2_with fail
          refine hth.mono ?_
          rintro e w4 ⟨A4, c4, rfl, hc4, hr4, hb4⟩
          clear hth
          have HB4 := Lib.hid (HB2.out.trans ((HB3.out.trans (hb4.mono HB3.out.size)).mono HB2.out.size))
          obtain ⟨t, ht⟩ : ∃ t, (thU ss (k + m)).length = t := ⟨_, rfl⟩
          rw [ht] at hr4 hc4 hge hul ⊢
          have HT := Lib.hid ht
          have HR4 := Lib.hid hr4
          have HR34 := Lib.hid (HR3.out.below RowR.stable hb4)
          have HC4 := Lib.hid (HC.out.below (HB3.out.trans (hb4.mono HB3.out.size)))
          have HB24 := Lib.hid (HB3.out.trans (hb4.mono HB3.out.size))
          clear ht hr4 hb4 HR3 HC
          by_cases htk : t = k
          · obtain rfl : k = t := htk.symm
            clear htk hge
            obtain ⟨hD, hAll⟩ := one_out HG1.out HT.out k1 km (rows_byt H22.out)
            obtain ⟨d, hd⟩ : ∃ d, lenF ss (gt (useT k (k + m) ss) 0) = d := ⟨_, rfl⟩
            have hd3 : d ≤ 1000000 := by rw [← hd]; exact HL2.out _
            rw [hd] at hD hAll
            have hne : ∀ i, i < k → (ra (outF k (k + m) k ss) i).length = d := fun i hi => (hD.row hi).1
            have hl0 : lenF0 (outF k (k + m) k ss) = d := hne 0 (by omega)
            have hev : evB (outF k (k + m) k ss) = true := by
              unfold evB
              rw [List.all_eq_true]
              intro r hr
              have h1 := (hD.2 r hr).1
              have h2 := hne 0 (by omega)
              simp [h1, h2]
            have hgo : goodB k k (outF k (k + m) k ss) = true := by unfold goodB; rw [decide_eq_true rfl, hev]; rfl
            have hrk := RdL.take HR34.out (k := k) (by omega)
            rw [out_take (by omega)] at hrk
            have hcl := call2_any (cs := k + m) HC4.out hrk (by omega) (fun i => by
              by_cases hi : i < k
              · rw [hne i hi]; omega
              · unfold ra
                rw [List.getD_eq_getElem?_getD, List.getElem?_eq_none (by rw [hD.1]; omega)]
                exact Nat.zero_le _)
            have hpp := fun w => piece_pre sl_rows (A := some ⟨g3, 0, none⟩) (N := k + m) (c := k + m) (k := k) (by omega) w
            push_cast at hpp hcl
            have HD := Lib.hid hD
            have HALL := Lib.hid hAll
            have HGO := Lib.hid hgo
            have HL0 := Lib.hid hl0
            have q7 : ((k : Int) != (k : Int)) = false := by simp
            have q8 : (((k : Int) + (m : Int)) != ((k : Int) + (m : Int))) = false := by simp
            clear hd hd3 hne hev hgo hl0 hrk hD hAll
            go_wp2_with fail
            refine hcl.mono ?_
            clear hcl
            rintro e w5 ⟨hb5, ⟨hG, _⟩ | ⟨_, A5, c5, rfl, hc5, hr5⟩⟩
            · exact absurd hG (by rw [HGO.out]; simp)
            · rw [HL0.out, allR_enc HD.out, ← HALL.out] at hr5
              have HB5 := Lib.hid (HB4.out.trans (hb5.mono HB4.out.size))
              have HB25 := Lib.hid (HB24.out.trans (hb5.mono HB24.out.size))
              have HR35 := Lib.hid (HR34.out.below RowR.stable hb5)
              have HR45 := Lib.hid (HR4.out.below NatR.stable hb5)
              have hsa := same5_any (ca := c5) (cb := k + m) hr5 HR35.out (by omega)
              push_cast at hsa
              clear HB4 HB24 HR34 HR4 hb5 hr5 HC4 HALL HGO HL0 HL2 hpp
              go_wp2_with fail
              refine hsa.mono ?_
              clear hsa
              rintro e w6 ⟨rfl, hb6⟩
              have HB6 := Lib.hid (HB5.out.trans (hb6.mono HB5.out.size))
              have HB26 := Lib.hid (HB25.out.trans (hb6.mono HB25.out.size))
              have HR36 := Lib.hid (HR35.out.below RowR.stable hb6)
              have HR46 := Lib.hid (HR45.out.below NatR.stable hb6)
              have HR26 := Lib.hid (H22.out.below RowR.stable HB26.out)
              clear HB5 HB25 HR35 HR45 hb6
              go_wp2_with fail
              go_loopw [13] (fun vi wr => ∃ i : Nat, i ≤ k ∧ vi = .int .i64 i ∧ Hid (Below w6.heap.size w6 wr)) (fun vi _ => k - (intOf vi).toNat)
              case atStart => exact ⟨0, Nat.zero_le _, rfl, Lib.hid (Below.refl _ _)⟩
              case round =>
                obtain ⟨wq, rfl⟩ : ∃ wq, wq = wr := ⟨_, rfl⟩
                obtain ⟨i, hi, rfl, HB⟩ := hrel
                have p0 : (0 : Int) ≤ (i : Int) := Int.natCast_nonneg _
                by_cases hlt : i < k
                · have p1 : (i : Int) < (k : Int) := by omega
                  obtain ⟨b4, o4, rfl, _, hb4⟩ := HR46.out.addr hlt
                  have v4 := nat_at HR46.out hlt
                  obtain ⟨u, hu⟩ : ∃ u, gt (thU ss (k + m)) i = u := ⟨_, rfl⟩
                  obtain ⟨hu1, hu2⟩ := thU_mem (gt_mem (l := thU ss (k + m)) (i := i) (by rw [HT.out]; exact hlt))
                  rw [hu] at v4 hu1 hu2
                  have p2 : (0 : Int) ≤ (u : Int) := Int.natCast_nonneg _
                  have p3 : (u : Int) < (k : Int) + (m : Int) := by omega
                  have p4 : (u : Int) < ((k + m : Nat) : Int) := by omega
                  obtain ⟨ba, oa, rfl, _, hba⟩ := HR26.out.addr hu1
                  obtain ⟨A1, m1, c1, v1, _, r1⟩ := row_at HR26.out hu1
                  obtain ⟨A7, m7, c7, v7, _, r7⟩ := row_at HR36.out hu1
                  have hb3 : g3 < w6.heap.size := (HR36.out.addr hu1).elim fun b h => h.elim fun o h => by obtain ⟨e, _, h⟩ := h; injection e with e; injection e with e; rw [e]; exact h
                  rw [out_there hu1 hu2] at r7
                  rw [Nat.zero_add] at v7
                  have u4 := fun w' (h : Below wq.heap.size wq w') => ((HB.out.trans (h.mono HB.out.size)).cell (p := ⟨b4, o4 + i, none⟩) hb4).trans v4
                  have u1 := fun w' (h : Below wq.heap.size wq w') => ((HB.out.trans (h.mono HB.out.size)).cell (p := ⟨ba, oa + u, none⟩) hba).trans v1
                  have u7 := fun w' (h : Below wq.heap.size wq w') => ((HB.out.trans (h.mono HB.out.size)).cell (p := ⟨g3, u, none⟩) hb3).trans v7
                  have t1 := fun w' (h : Below wq.heap.size wq w') => text_run (c := c1) (r1.below ByR.stable (HB.out.trans (h.mono HB.out.size)))
                  have t2 := fun w' (h : Below wq.heap.size wq w') => text_run (c := c7) (r7.below ByR.stable (HB.out.trans (h.mono HB.out.size)))
                  obtain ⟨tx, htx⟩ : ∃ tx, textB (ra ss u) = tx := ⟨_, rfl⟩
                  rw [htx] at t1 t2
                  have q9 : (tx != tx) = false := by rw [bne, bytes_beq]; simp
                  clear v1 v4 v7 r1 r7 htx hlt hu hu1 hu2 hb3
                  go_wp2_with fail
                  refine wp_region_held_drew (S := fun w' => Below wq.heap.size wq w') (by kernel_rfl) (by first | assumption | exact Below.refl _ _ | exact (Below.refl _ _).drew) (fun hHeld => ?_)
                  refine wpAnyH_take (i := 0) (v := ?_) rfl (by kernel_rfl) (by kernel_rfl) (by kernel_rfl) (fun _ _ _ h => h) (Or.inl ⟨by first | kernel_rfl | rfl, ?_⟩) (by assumption) ?_
                  rotate_left
                  · (intro wq hSw; (try dsimp only at hSw); (try simp (maxSteps := 2000000) only [List.getElem_toArray, List.getElem_cons_succ, List.getElem_cons_zero]); go_simp); try with_reducible rfl
                  try simp (maxSteps := 2000000) only [List.getElem_toArray, List.getElem_cons_succ, List.getElem_cons_zero, Act.put, List.setIfInBounds_toArray, List.set_cons_zero, List.set_cons_succ]
                  refine wpAnyH_take (i := 1) (v := ?_) rfl (by kernel_rfl) (by kernel_rfl) (by kernel_rfl) (fun _ _ _ h => h) (Or.inl ⟨by first | kernel_rfl | rfl, ?_⟩) (by assumption) ?_
                  rotate_left
                  · (intro wq hSw; (try dsimp only at hSw); (try simp (maxSteps := 2000000) only [List.getElem_toArray, List.getElem_cons_succ, List.getElem_cons_zero]); go_simp); try with_reducible rfl
                  try simp (maxSteps := 2000000) only [List.getElem_toArray, List.getElem_cons_succ, List.getElem_cons_zero, Act.put, List.setIfInBounds_toArray, List.set_cons_zero, List.set_cons_succ]
                  refine wpAnyH_take (i := 2) (v := ?_) rfl (by kernel_rfl) (by kernel_rfl) (by kernel_rfl) (fun _ _ _ h => h) (Or.inl ⟨by first | kernel_rfl | rfl, ?_⟩) (by assumption) ?_
                  rotate_left
                  · (intro wq hSw; (try dsimp only at hSw); (try simp (maxSteps := 2000000) only [List.getElem_toArray, List.getElem_cons_succ, List.getElem_cons_zero]); go_simp); try with_reducible rfl
                  try simp (maxSteps := 2000000) only [List.getElem_toArray, List.getElem_cons_succ, List.getElem_cons_zero, Act.put, List.setIfInBounds_toArray, List.set_cons_zero, List.set_cons_succ]
                  refine wpAnyH_take (i := 3) (v := ?_) rfl (by kernel_rfl) (by kernel_rfl) (by kernel_rfl) (fun _ _ _ h => h) (Or.inl ⟨by first | kernel_rfl | rfl, ?_⟩) (by assumption) ?_
                  rotate_left
                  · (intro wq hSw; (try dsimp only at hSw); (try simp (maxSteps := 2000000) only [List.getElem_toArray, List.getElem_cons_succ, List.getElem_cons_zero]); go_simp); try with_reducible rfl
                  try simp (maxSteps := 2000000) only [List.getElem_toArray, List.getElem_cons_succ, List.getElem_cons_zero, Act.put, List.setIfInBounds_toArray, List.set_cons_zero, List.set_cons_succ]
                  refine wpAnyH_take (i := 4) (v := ?_) rfl (by kernel_rfl) (by kernel_rfl) (by kernel_rfl) (fun _ _ _ h => h) (Or.inl ⟨by first | kernel_rfl | rfl, ?_⟩) (by assumption) ?_
                  rotate_left
                  · (intro wq hSw; (try dsimp only at hSw); (try simp (maxSteps := 2000000) only [List.getElem_toArray, List.getElem_cons_succ, List.getElem_cons_zero]); go_simp); try with_reducible rfl
                  try simp (maxSteps := 2000000) only [List.getElem_toArray, List.getElem_cons_succ, List.getElem_cons_zero, Act.put, List.setIfInBounds_toArray, List.set_cons_zero, List.set_cons_succ]
                  refine wpAnyH_take (i := 5) (v := ?_) rfl (by kernel_rfl) (by kernel_rfl) (by kernel_rfl) (fun _ _ _ h => h) (Or.inl ⟨by first | kernel_rfl | rfl, ?_⟩) (by assumption) ?_
                  rotate_left
                  · (intro wq hSw; (try dsimp only at hSw); (try simp (maxSteps := 2000000) only [List.getElem_toArray, List.getElem_cons_succ, List.getElem_cons_zero]); go_simp); try with_reducible rfl
                  try simp (maxSteps := 2000000) only [List.getElem_toArray, List.getElem_cons_succ, List.getElem_cons_zero, Act.put, List.setIfInBounds_toArray, List.set_cons_zero, List.set_cons_succ]
                  refine wpAnyH_take (i := 6) (v := ?_) rfl (by kernel_rfl) (by kernel_rfl) (by kernel_rfl) (fun _ _ _ h => h) (Or.inl ⟨by first | kernel_rfl | rfl, ?_⟩) (by assumption) ?_
                  rotate_left
                  · (intro wq hSw; (try dsimp only at hSw); (try simp (maxSteps := 2000000) only [List.getElem_toArray, List.getElem_cons_succ, List.getElem_cons_zero]); go_simp); try with_reducible rfl
                  try simp (maxSteps := 2000000) only [List.getElem_toArray, List.getElem_cons_succ, List.getElem_cons_zero, Act.put, List.setIfInBounds_toArray, List.set_cons_zero, List.set_cons_succ]
                  refine wpAnyH_take (i := 7) (v := ?_) rfl (by kernel_rfl) (by kernel_rfl) (by kernel_rfl) (fun _ _ _ h => h) (Or.inl ⟨by first | kernel_rfl | rfl, ?_⟩) (by assumption) ?_
                  rotate_left
                  · (intro wq hSw; (try dsimp only at hSw); (try simp (maxSteps := 2000000) only [List.getElem_toArray, List.getElem_cons_succ, List.getElem_cons_zero]); go_simp); try with_reducible rfl
                  try simp (maxSteps := 2000000) only [List.getElem_toArray, List.getElem_cons_succ, List.getElem_cons_zero, Act.put, List.setIfInBounds_toArray, List.set_cons_zero, List.set_cons_succ]
                  refine wpAnyH_take (i := 8) (v := ?_) rfl (by kernel_rfl) (by kernel_rfl) (by kernel_rfl) (fun _ _ _ h => h) (Or.inl ⟨by first | kernel_rfl | rfl, ?_⟩) (by assumption) ?_
                  rotate_left
                  · (intro wq hSw; (try dsimp only at hSw); (try simp (maxSteps := 2000000) only [List.getElem_toArray, List.getElem_cons_succ, List.getElem_cons_zero]); go_simp); try with_reducible rfl
                  try simp (maxSteps := 2000000) only [List.getElem_toArray, List.getElem_cons_succ, List.getElem_cons_zero, Act.put, List.setIfInBounds_toArray, List.set_cons_zero, List.set_cons_succ]
                  refine wpAnyH_take (i := 9) (v := ?_) rfl (by kernel_rfl) (by kernel_rfl) (by kernel_rfl) (fun _ _ _ h => h) (Or.inl ⟨by first | kernel_rfl | rfl, ?_⟩) (by assumption) ?_
                  rotate_left
                  · (intro wq hSw; (try dsimp only at hSw); (try simp (maxSteps := 2000000) only [List.getElem_toArray, List.getElem_cons_succ, List.getElem_cons_zero]); go_simp); try with_reducible rfl
                  try simp (maxSteps := 2000000) only [List.getElem_toArray, List.getElem_cons_succ, List.getElem_cons_zero, Act.put, List.setIfInBounds_toArray, List.set_cons_zero, List.set_cons_succ]
                  refine wpAnyH_take (i := 10) (v := ?_) rfl (by kernel_rfl) (by kernel_rfl) (by kernel_rfl) (fun _ _ _ h => h) (Or.inl ⟨by first | kernel_rfl | rfl, ?_⟩) (by assumption) ?_
                  rotate_left
                  · (intro wq hSw; (try dsimp only at hSw); (try simp (maxSteps := 2000000) only [List.getElem_toArray, List.getElem_cons_succ, List.getElem_cons_zero]); go_simp); try with_reducible rfl
                  try simp (maxSteps := 2000000) only [List.getElem_toArray, List.getElem_cons_succ, List.getElem_cons_zero, Act.put, List.setIfInBounds_toArray, List.set_cons_zero, List.set_cons_succ]
                  refine wpAnyH_take (i := 11) (v := ?_) rfl (by kernel_rfl) (by kernel_rfl) (by kernel_rfl) (fun _ _ _ h => h) (Or.inl ⟨by first | kernel_rfl | rfl, ?_⟩) (by assumption) ?_
                  rotate_left
                  · (intro wq hSw; (try dsimp only at hSw); (try simp (maxSteps := 2000000) only [List.getElem_toArray, List.getElem_cons_succ, List.getElem_cons_zero]); go_simp); try with_reducible rfl
                  try simp (maxSteps := 2000000) only [List.getElem_toArray, List.getElem_cons_succ, List.getElem_cons_zero, Act.put, List.setIfInBounds_toArray, List.set_cons_zero, List.set_cons_succ]
                  refine wpAnyH_take (i := 12) (v := ?_) rfl (by kernel_rfl) (by kernel_rfl) (by kernel_rfl) (fun _ _ _ h => h) (Or.inl ⟨by first | kernel_rfl | rfl, ?_⟩) (by assumption) ?_
                  rotate_left
                  · (intro wq hSw; (try dsimp only at hSw); (try simp (maxSteps := 2000000) only [List.getElem_toArray, List.getElem_cons_succ, List.getElem_cons_zero]); go_simp); try with_reducible rfl
                  try simp (maxSteps := 2000000) only [List.getElem_toArray, List.getElem_cons_succ, List.getElem_cons_zero, Act.put, List.setIfInBounds_toArray, List.set_cons_zero, List.set_cons_succ]
                  refine wpAnyH_take (i := 13) (v := ?_) rfl (by kernel_rfl) (by kernel_rfl) (by kernel_rfl) (fun _ _ _ h => h) (Or.inl ⟨by first | kernel_rfl | rfl, ?_⟩) (by assumption) ?_
                  rotate_left
                  · (intro wq hSw; (try dsimp only at hSw); (try simp (maxSteps := 2000000) only [List.getElem_toArray, List.getElem_cons_succ, List.getElem_cons_zero]); go_simp); try with_reducible rfl
                  try simp (maxSteps := 2000000) only [List.getElem_toArray, List.getElem_cons_succ, List.getElem_cons_zero, Act.put, List.setIfInBounds_toArray, List.set_cons_zero, List.set_cons_succ]
                  refine wpAnyH_take (i := 14) (v := ?_) rfl (by kernel_rfl) (by kernel_rfl) (by kernel_rfl) (fun _ _ _ h => h) (Or.inl ⟨by first | kernel_rfl | rfl, ?_⟩) (by assumption) ?_
                  rotate_left
                  · (intro wq hSw; (try dsimp only at hSw); (try simp (maxSteps := 2000000) only [List.getElem_toArray, List.getElem_cons_succ, List.getElem_cons_zero]); go_simp); try with_reducible rfl
                  try simp (maxSteps := 2000000) only [List.getElem_toArray, List.getElem_cons_succ, List.getElem_cons_zero, Act.put, List.setIfInBounds_toArray, List.set_cons_zero, List.set_cons_succ]
                  refine wpAnyH_take (i := 15) (v := ?_) rfl (by kernel_rfl) (by kernel_rfl) (by kernel_rfl) (fun _ _ _ h => h) (Or.inl ⟨by first | kernel_rfl | rfl, ?_⟩) (by assumption) ?_
                  rotate_left
                  · (intro wq hSw; (try dsimp only at hSw); (try simp (maxSteps := 2000000) only [List.getElem_toArray, List.getElem_cons_succ, List.getElem_cons_zero]); go_simp); try with_reducible rfl
                  try simp (maxSteps := 2000000) only [List.getElem_toArray, List.getElem_cons_succ, List.getElem_cons_zero, Act.put, List.setIfInBounds_toArray, List.set_cons_zero, List.set_cons_succ]
                  refine wpAnyH_take (i := 16) (v := ?_) rfl (by kernel_rfl) (by kernel_rfl) (by kernel_rfl) (fun _ _ _ h => h) (Or.inl ⟨by first | kernel_rfl | rfl, ?_⟩) (by assumption) ?_
                  rotate_left
                  · (intro wq hSw; (try dsimp only at hSw); (try simp (maxSteps := 2000000) only [List.getElem_toArray, List.getElem_cons_succ, List.getElem_cons_zero]); go_simp); try with_reducible rfl
                  try simp (maxSteps := 2000000) only [List.getElem_toArray, List.getElem_cons_succ, List.getElem_cons_zero, Act.put, List.setIfInBounds_toArray, List.set_cons_zero, List.set_cons_succ]
                  refine wpAnyH_done (by kernel_rfl) ?_ _
                  go_wp2_with fail
                  exact ⟨⟨i + 1, by omega, by go_num, Lib.hid (HB.out.trans ((Below.refl _ _).drew.mono HB.out.size))⟩, by simp [intOf]; omega⟩
                · have p1 : ¬ (i : Int) < (k : Int) := by omega
                  obtain rfl : i = k := by omega
                  have hdn := ddata_nil (w := wq) (A := A2) (n := i + m) (c := c2)
                  push_cast at hdn
                  go_wp2_with fail
                  refine hdn.mono ?_
                  clear hdn
                  rintro e w7 ⟨rfl, hb7⟩
                  have hpn := dplan_nil (w := w7) (A := A4) (n := i) (c := c4) (v2 := .int .i64 0)
                  go_wp2_with fail
                  refine hpn.mono ?_
                  clear hpn
                  rintro e w8 ⟨rfl, hb8⟩
                  have hdc := decodes_any (w := w8)
                  go_wp2_with fail
                  refine hdc.mono ?_
                  rintro e w9 ⟨rfl, hb9⟩
                  go_wp2_with fail
                  go_ret
                  have hb := HB.out.trans ((hb7.trans ((hb8.trans (hb9.mono hb8.size)).mono hb7.size)).mono HB.out.size)
                  exact ⟨by simp, HB6.out.trans (hb.mono HB6.out.size)⟩
          · have q5 : ((t : Int) != (k : Int)) = true := by simp; omega
            have q6 : (t : Int) > (k : Int) := by omega
            have hdc := decodes_any (w := w4)
            go_wp2_with fail
            refine hdc.mono ?_
            rintro e w5 ⟨rfl, hb5⟩
            go_wp2_with fail
            go_ret
            exact ⟨rfl, HB4.out.trans (hb5.mono HB4.out.size)⟩
  · have hnew := new_bad (w := w1) (f := .pointer (some ⟨w.heap.size, 0, none⟩)) hok
    clear hok
    go_wp2_with fail
    refine hnew.mono ?_
    rintro e w2 ⟨rfl, rfl⟩
    have hdc := decodes_any (w := w2)
    go_wp2_with fail
    refine hdc.mono ?_
    rintro e w3 ⟨rfl, hb3⟩
    go_wp2_with fail
    go_ret
    exact ⟨rfl, hb1.trans (hb3.mono hb1.size)⟩
end Go.Proofs.YthhljmlpjnkfgaaGreat

set_option linter.unusedSimpArgs false
set_option linter.unusedVariables false
namespace Go.Cib
open Go.RowKit Go.ChangeShapes Go.WideShapes Go.Deep

section
variable {P : Program} {X : Type}

/-- What reads as data of type t reads by R. -/
def Opens (P : Program) (t : TypeId) (R : (Nat → Prop) → World → List Value → X → Prop) (s : Nat) : Prop :=
  P.cellsOf t = s ∧ 0 < s ∧ ∀ (H : Type) (enc : TypeId × Value → H) (w : World) (base : Nat) (spare : Nat → Bool) (held : Bool) (fuel : Nat) (cs : List Value) (x : DataW H × List MemPlace),
    cs.length = s → DataW.trod enc P w base spare held fuel t cs = some x → ∃ y : X, R (fun _ => True) w cs y

theorem opens_int {t : TypeId} (h : P.underlying t = some (.int .i64)) (hc : P.cellsOf t = 1) : Opens P t IntR 1 :=
  ⟨hc, by omega, fun H enc w base spare held fuel cs x _ hx => by
    obtain ⟨n, rfl, _, _⟩ := DataW.trod_int h hx
    exact ⟨n, rfl⟩⟩
theorem opens_u64 {t : TypeId} (h : P.underlying t = some (.int .u64)) (hc : P.cellsOf t = 1) : Opens P t U64R 1 :=
  ⟨hc, by omega, fun H enc w base spare held fuel cs x _ hx => by
    obtain ⟨n, rfl, _, _⟩ := DataW.trod_int h hx
    exact ⟨n, rfl⟩⟩

theorem opens_slice {R : (Nat → Prop) → World → List Value → X → Prop} {t e : TypeId} {s : Nat} (ht : P.underlying t = some (.slice e)) (ho : Opens P e R s) {H : Type} {enc : TypeId × Value → H} {w : World} {base : Nat} {spare : Nat → Bool} {held : Bool} {fuel : Nat} {cs : List Value} {x : DataW H × List MemPlace}
    (h : DataW.trod enc P w base spare held fuel t cs = some x) : ∃ A n c xs, cs = [.slice A n c] ∧ n ≤ c ∧ c ≤ maxLen ∧ RdL R s (fun _ => True) w A n xs := by
  obtain ⟨hs, hpos, hR⟩ := ho
  rcases open_slice ht h with ⟨rfl, _⟩ | ⟨a, len, cap, m, n, D, Pl, rfl, hb, hl, hm, hmm, hx, hi⟩
  · exact ⟨none, 0, 0, [], rfl, Nat.le_refl _, by simp [maxLen], RdL.nil⟩
  · have hlm : len ≤ m := by rw [hmm]; split <;> omega
    rw [hs] at hi
    have hel : ∀ i, i < len → ∃ (cs' : List Value) (y : X), cs'.length = s ∧ R (fun _ => True) w cs' y ∧ ∀ j v, cs'[j]? = some v → w.cell? ((a.add (i * s)).add j) = some v := by
      intro i hil
      obtain ⟨cs', h1, h2⟩ := hi i (by omega)
      obtain ⟨_, h3, h4⟩ := World.cells?_some h1
      obtain ⟨y, hy⟩ := hR _ _ _ _ _ _ _ _ _ h3 h2
      exact ⟨cs', y, h3, hy, fun j v hj => by
        have hjl := (List.getElem?_eq_some_iff.1 hj).1
        rw [h4 j (by omega), hj]⟩
    rcases Nat.eq_zero_or_pos len with h0 | h0
    · subst h0
      exact ⟨some a, 0, cap, [], rfl, hl, hm, RdL.nil⟩
    · have hspot : a.spot = none := by
        obtain ⟨cs', y, h1, _, h2⟩ := hel 0 h0
        have h3 := h2 0 (cs'[0]'(by omega)) (List.getElem?_eq_getElem (by omega))
        simp only [Nat.zero_mul, Addr.add, if_true] at h3
        unfold World.cell? at h3
        split at h3
        · split at h3
          · cases h3
          · rename_i hs; simpa using hs
        · cases h3
      obtain ⟨b, o, sp⟩ := a
      simp only at hspot
      subst hspot
      have hxs : ∀ k, k ≤ len → ∃ xs : List X, xs.length = k ∧ ∀ i y, xs[i]? = some y → ∃ cs' : List Value, cs'.length = s ∧ R (fun _ => True) w cs' y ∧ ∀ j v, cs'[j]? = some v → w.cell? ⟨b, o + i * s + j, none⟩ = some v := by
        intro k
        induction k with
        | zero => exact fun _ => ⟨[], rfl, by simp⟩
        | succ k ih =>
          intro hk
          obtain ⟨xs, e1, e2⟩ := ih (by omega)
          obtain ⟨cs', y, h1, h2, h3⟩ := hel k (by omega)
          refine ⟨xs ++ [y], by simp [e1], fun i y' hy' => ?_⟩
          by_cases hik : i < k
          · rw [List.getElem?_append_left (by omega)] at hy'
            exact e2 i y' hy'
          · have hie : i = k := by
              have := (List.getElem?_eq_some_iff.1 hy').1
              simp [e1] at this; omega
            subst hie
            rw [List.getElem?_append_right (by omega)] at hy'
            simp only [e1, Nat.sub_self, List.getElem?_cons_zero, Option.some.injEq] at hy'
            subst hy'
            exact ⟨cs', h1, h2, fun j v hj => by have := h3 j v hj; rw [Addr.add_lit, Addr.add_lit] at this; exact this⟩
      obtain ⟨xs, e1, e2⟩ := hxs len (Nat.le_refl _)
      obtain ⟨cs', y, h1, _, h3⟩ := hel 0 h0
      have hblt : b < w.heap.size := by
        have := h3 0 (cs'[0]'(by omega)) (List.getElem?_eq_getElem (by omega))
        have := World.block_lt_of_cell? w _ this
        simpa [Addr.add_lit] using this
      exact ⟨some ⟨b, o, none⟩, len, cap, xs, rfl, hl, hm, e1, fun _ => ⟨b, o, rfl, trivial, hblt, e2⟩⟩

/-- A slice among the arguments. -/
theorem open_rd {R : (Nat → Prop) → World → List Value → X → Prop} {t e : TypeId} {s : Nat} (ht : P.underlying t = some (.slice e)) (ho : Opens P e R s) {H : Type} {enc : TypeId × Value → H} {w : World} {base b0 : Nat} {spare : Nat → Bool} {held : Bool} {r : Reach} {v : Value} {d : DataW H} {ps : List MemPlace}
    (hval : Value.okWide P w r b0 t v) (h : DataW.Trod enc P w base spare held t v d ps) : ∃ A n c xs, v = .slice A n c ∧ n ≤ c ∧ c ≤ maxLen ∧ RdL R s (fun _ => True) w A n xs := by
  obtain ⟨A, n, c, rfl⟩ := okWide_slice ht hval
  obtain ⟨fuel, hf⟩ := h
  obtain ⟨A', n', c', xs, e1, e2, e3, e4⟩ := opens_slice ht ho hf
  simp only [Value.cells, List.cons.injEq, and_true, Value.slice.injEq] at e1
  obtain ⟨rfl, rfl, rfl⟩ := e1
  exact ⟨A, n, c, xs, rfl, e2, e3, e4⟩
end

section
variable {H : Type} {enc : TypeId × Value → H} {P : Program}

theorem trodAll_stays (hl : laidOutB P = true) {W W' : World} (hb : Below W.heap.size W W') : ∀ (ts : List TypeId) (vs : List Value) (ds : List (DataW H)) (ps : List MemPlace), (∀ t ∈ ts, P.readableRec t = true ∧ t < P.types.size) → (∀ x ∈ ps, x.block < W.heap.size) →
    DataW.TrodAll enc P W 0 (fun _ => true) true ts vs ds ps → DataW.TrodAll enc P W' 0 (fun b => decide (b < W.heap.size)) true ts vs ds ps
  | [], vs, ds, ps, _, _, h => by
    obtain ⟨rfl, rfl, rfl⟩ := trodAll_nil h
    exact trodAll_mk0
  | t :: ts, vs, ds, ps, hr, hlt, h => by
    obtain ⟨v, vs', d, ds', p, q, rfl, rfl, rfl, hd, hrest⟩ := trodAll_cons h
    have h1 := Below.trod hl (hr t (by simp)).1 (hr t (by simp)).2 hd hb (fun x hx => hlt x (by simp [hx]))
    have h2 := trodAll_stays hl hb ts vs' ds' q (fun u hu => hr u (List.mem_cons_of_mem _ hu)) (fun x hx => hlt x (by simp [hx])) hrest
    exact trodAll_cons_mk h1 h2

/-- The end of a law's proof: it answered true, and what was there is as it was. -/
theorem law_post {f : Func} {s : ChangeSpec} {W W' : World} {args : Array Value} {ds gs : List (DataW H)} {before : List MemPlace} {tb : TypeId} (hl : laidOutB P = true) (hr : ∀ t ∈ f.params.toList, P.readableRec t = true ∧ t < P.types.size)
    (hres : f.resultTypes = #[tb]) (htb : P.underlying tb = some .bool) (hvars : s.vars = []) (hfn : (s.fn H (ds ++ gs)).results = [.lit (.bool true)] ∧ (s.fn H (ds ++ gs)).args = ds ∧ (s.fn H (ds ++ gs)).vars = [])
    (hW : DataW.Whole enc P f.params.toList s.vars false W args.toList ds gs before) (hb : Below W.heap.size W W') :
    s.post enc P f false true false false W args (.bool true) W' := by
  have hlt : ∀ p ∈ before, p.block < W.heap.size := fun p hp => hW.lt p hp
  have hW2 := hW
  obtain ⟨p, q, hA, hV, rfl, hz, hn⟩ := hW2
  rw [hvars] at hV
  obtain ⟨rfl, rfl⟩ := trodVars_none hV
  simp only [List.append_nil] at hlt hfn hz hW ⊢
  have hargs := trodAll_stays hl hb _ _ _ _ hr hlt hA
  have hr1 : ∀ (b : Nat) (sp : Nat → Bool) (hd : Bool), DataW.TrodAll enc P W' b sp hd f.resultTypes.toList ((Value.bool true).resultList f.resultTypes.size) (s.fn H ds).results [] := fun b sp hd => by
    rw [hres, hfn.1]
    exact trodAll_mk1 (shut_bool htb true)
  refine ⟨ds, [], p, [], p, [], hW, by rw [List.append_nil]; exact hr1 _ _ _, by rw [List.append_nil, hfn.2.1]; exact hargs, by rw [List.append_nil, hvars, hfn.2.2]; exact rfl, World.keptBut_mono (fun x hx => ⟨hx, .inr (.inl hx)⟩) (hb.frame (· ∈ p)), fun h => by cases h⟩
end
end Go.Cib

set_option linter.unusedSimpArgs false
set_option linter.unusedVariables false
namespace Go.Proofs.YthhljmlpjnkfgaaGreat
open Go.RowKit Go.Cib
attribute [local go_sem] cell_set Later.cell Later.frozen Grw.cell Grw.frozen
open Go.ChangeShapes Go.WideShapes Go.ChangeAt Go.Deep

theorem laidOut_ : laidOutB Tryz.prog = true := by kernel_rfl
theorem ownKnob_ : ownKnob Tryz.prog.godebug = none := by kernel_rfl
theorem opens_by : Opens Tryz.prog 5 ByR 1 :=
  ⟨by kernel_rfl, by omega, fun H enc w base spare held fuel cs x _ hx => by
    obtain ⟨n, rfl, _, hw⟩ := DataW.trod_int Tryz.underlying5 hx
    have h2 : 0 ≤ n ∧ n ≤ 255 := by
      simp [Lit.wf, IntKind.min, IntKind.max, IntKind.signed, IntKind.bits] at hw
      omega
    exact ⟨n.toNat, by omega, by rw [show ((n.toNat : Nat) : Int) = n by omega]⟩⟩
end Go.Proofs.YthhljmlpjnkfgaaGreat

set_option linter.unusedSimpArgs false
set_option linter.unusedVariables false
namespace Go.Proofs.YthhljmlpjnkfgaaGreat
open Go.RowKit Go.Cib
attribute [local go_sem] cell_set Later.cell Later.frozen Grw.cell Grw.frozen
open Go.ChangeShapes Go.WideShapes Go.ChangeAt Go.Deep

theorem opens_rowb : Opens Tryz.prog 29 RowR 1 :=
  ⟨by kernel_rfl, by omega, fun H enc w base spare held fuel cs x _ hx => by
    obtain ⟨A, n, c, xs, rfl, hnc, _, hr⟩ := opens_slice sl_by.und opens_by hx
    exact ⟨xs, A, n, c, rfl, hnc, hr⟩⟩
end Go.Proofs.YthhljmlpjnkfgaaGreat
