/-
  By which shards and factors a shard comes of others, or why by none.
  Arguments as readings; the last step of a law's proof.
  Bytes, numbers and rows of bytes among the arguments.
-/
import Derived.Test.YthhljmlpjnkfgaaGreatDp7
import Derived.Test.YthhljmlpjnkfgaaGreatDp1
import Derived.ProofKit
import Derived.OpenShut
import Derived.Deep.Slices
import Derived.Deep.Fields
import Derived.Carry
import Derived.ChangeSame
set_option linter.unusedSimpArgs false
set_option linter.unusedVariables false
namespace Go.Proofs.YthhljmlpjnkfgaaGreat
open Go.RowKit Go.Cib
attribute [local go_sem] cell_set Later.cell Later.frozen Grw.cell Grw.frozen
set_option maxRecDepth 100000 in
set_option maxHeartbeats 16000000 in
theorem plans_any {w : World} {z0 z1 z3 : Int} {A2 : Option Addr} {n2 c2 : Nat} {xs : List Int} (R2 : RdL IntR 1 (fun _ => True) w A2 n2 xs) :
    Calls Tryz.prog 3 #[.int .i64 z0, .int .i64 z1, .slice A2 n2 c2, .int .i64 z3] w fun e w' => e = .returned (.bool true) ∧ Below w.heap.size w w' := by
  have H2 := Lib.hid R2
  have HXL := Lib.hid R2.1
  clear R2
  have hmay := fun w => may_any (w := w) z0 z1
  go_enter Tryz.func3, Tryz.ntmps3
  go_wp2_with fail
  refine fldnew_any.mono ?_
  rintro e w1 ⟨rfl, hF, hb1⟩
  have hs1 := hb1.size
  by_cases hok : 1 ≤ z0 ∧ 1 ≤ z1 ∧ z0 ≤ 255 ∧ z1 ≤ 255 - z0
  · rw [show mayB z0 z1 = true from decide_eq_true hok] at hmay
    obtain ⟨k, rfl⟩ : ∃ k : Nat, z0 = (k : Int) := ⟨z0.toNat, by omega⟩
    obtain ⟨m, rfl⟩ : ∃ m : Nat, z1 = (m : Int) := ⟨z1.toNat, by omega⟩
    have k1 : 1 ≤ k := by omega
    have m1 : 1 ≤ m := by omega
    have km : k + m ≤ 255 := by omega
    have hnew := new_any (k := k) (m := m) hF k1 m1 km
    clear hok
    go_wp2_with fail
    refine hnew.mono ?_
    rintro e w2 ⟨cb, rfl, hC, hk⟩
    have hb2 : Below w.heap.size w w2 := hb1.trans (Keep.below hk hb1.size (fun k hk => by rw [hk]; exact Nat.le_refl _))
    have HC := Lib.hid hC
    have HB2 := Lib.hid hb2
    clear hF hb1 hnew hC hk hb2
    have q0 : (0 : Int) ≤ (k : Int) := Int.natCast_nonneg _
    have q1 : (0 : Int) ≤ (m : Int) := Int.natCast_nonneg _
    have q2 : (k : Int) + (m : Int) ≤ 255 := by omega
    have hdc := decodes_any (w := w2)
    go_wp2_with fail
    refine (hmay w2).mono ?_
    rintro e w3 ⟨rfl, hw3⟩
    rw [hw3]
    clear hw3 hmay
    by_cases hbig : (k : Int) + (m : Int) > 24
    · go_wp2_with fail
      refine hdc.mono ?_
      rintro e w3 ⟨rfl, hb3⟩
      go_wp2_with fail
      go_ret
      exact ⟨rfl, HB2.out.trans (hb3.mono HB2.out.size)⟩
    · by_cases hlong : (n2 : Int) > 100
      · go_wp2_with fail
        refine hdc.mono ?_
        rintro e w3 ⟨rfl, hb3⟩
        go_wp2_with fail
        go_ret
        exact ⟨rfl, HB2.out.trans (hb3.mono HB2.out.size)⟩
      · have hN : k + m ≤ 24 := by omega
        have hn2 : n2 ≤ 100 := by omega
        clear hdc
        have hpl := dplan_any (c := c2) (want := z3) HC.out (H2.out.below IntR.stable HB2.out) (by omega) (Lib.hid fun h1 h2 => inj_usN (by unfold badP at h1; exact Classical.byContradiction fun h => h1 (.inr (.inr h))) (by rw [HXL.out]; omega) km)
        go_wp2_with fail
        refine hpl.mono ?_
        clear hpl
        rintro e w3 ⟨hb3, ⟨hbad, rfl⟩ | ⟨hbad, hfew, rfl⟩ | ⟨hbad, hfew, A, c, A9, c9, rfl, hr3, hr9⟩⟩
        · have hso := rsorted_any (c := c2) (N := k + m) (H2.out.below IntR.stable (HB2.out.trans (hb3.mono HB2.out.size))) (by omega) (by omega)
          have HB3 := Lib.hid (HB2.out.trans (hb3.mono HB2.out.size))
          push_cast at hso
          go_wp2_with fail
          refine hso.mono ?_
          clear hso
          rintro e w4 ⟨hb4, ⟨hno, A', t, c', rfl⟩ | ⟨hno, A', c', rfl, hc', hr4⟩⟩
          · have HB4 := Lib.hid (HB3.out.trans (hb4.mono HB3.out.size))
            clear hno
            have hdc := decodes_any (w := w4)
            clear hbad
            go_wp2_with fail
            refine hdc.mono ?_
            rintro e w5 ⟨rfl, hb5⟩
            go_wp2_with fail
            go_ret
            exact ⟨by first | rfl | simp, HB4.out.trans (hb5.mono HB4.out.size)⟩
          · have HB4 := Lib.hid (HB3.out.trans (hb4.mono HB3.out.size))
            by_cases hneg : z3 < 0
            · clear hno
              have hdc := decodes_any (w := w4)
              clear hbad
              go_wp2_with fail
              refine hdc.mono ?_
              rintro e w5 ⟨rfl, hb5⟩
              go_wp2_with fail
              go_ret
              exact ⟨by first | rfl | simp, HB4.out.trans (hb5.mono HB4.out.size)⟩
            · have hge : z3 ≥ (k : Int) + (m : Int) := by
                rcases hbad with h | h | h
                · exact absurd h hneg
                · push_cast at h; exact h
                · exact absurd hno h
              clear hno
              have hdc := decodes_any (w := w4)
              clear hbad
              go_wp2_with fail
              refine hdc.mono ?_
              rintro e w5 ⟨rfl, hb5⟩
              go_wp2_with fail
              go_ret
              exact ⟨by first | rfl | simp, HB4.out.trans (hb5.mono HB4.out.size)⟩
        · have hbad2 := hbad
          unfold badP at hbad2
          have hneg : ¬ z3 < 0 := fun h => hbad2 (.inl h)
          have hge : ¬ z3 ≥ (k : Int) + (m : Int) := fun h => hbad2 (.inr (.inl (by push_cast; exact h)))
          have hok : numOk (k + m) xs := Classical.byContradiction fun h => hbad2 (.inr (.inr h))
          have HOK := Lib.hid hok
          have p2 : (n2 : Int) < (k : Int) := by omega
          clear hbad2 hok
          have hso := rsorted_any (c := c2) (N := k + m) (H2.out.below IntR.stable (HB2.out.trans (hb3.mono HB2.out.size))) (by omega) (by omega)
          have HB3 := Lib.hid (HB2.out.trans (hb3.mono HB2.out.size))
          push_cast at hso
          go_wp2_with fail
          refine hso.mono ?_
          clear hso
          rintro e w4 ⟨hb4, ⟨hno, A', t, c', rfl⟩ | ⟨_, A', c', rfl, hc', hr4⟩⟩
          · exact absurd HOK.out hno
          · have HB4 := Lib.hid (HB3.out.trans (hb4.mono HB3.out.size))
            have hdc := decodes_any (w := w4)
            clear hbad
            go_wp2_with fail
            refine hdc.mono ?_
            rintro e w5 ⟨rfl, hb5⟩
            go_wp2_with fail
            go_ret
            exact ⟨by first | rfl | simp, HB4.out.trans (hb5.mono HB4.out.size)⟩
        · have hbad2 := hbad
          unfold badP at hbad2
          have hneg : ¬ z3 < 0 := fun h => hbad2 (.inl h)
          have hge : ¬ z3 ≥ (k : Int) + (m : Int) := fun h => hbad2 (.inr (.inl (by push_cast; exact h)))
          have hok : numOk (k + m) xs := Classical.byContradiction fun h => hbad2 (.inr (.inr h))
          have HOK := Lib.hid hok
          have p2 : ¬ (n2 : Int) < (k : Int) := by omega
          obtain ⟨wt, rfl⟩ : ∃ wt : Nat, z3 = (wt : Int) := ⟨z3.toNat, by omega⟩
          have hwt : wt < k + m := by omega
          rw [Int.toNat_natCast] at hr9
          have HR3 := Lib.hid hr3
          have HR9 := Lib.hid hr9
          have hus : ∀ i, i < k → gt (usN k xs) i < k + m := fun i hi => usN_ok hok _ (gt_mem (by rw [usN_len (by rw [HXL.out]; omega)]; exact hi))
          have HUS := Lib.hid hus
          clear hbad2 hok hbad hr3 hr9 hus
          have hso := rsorted_any (c := c2) (N := k + m) (H2.out.below IntR.stable (HB2.out.trans (hb3.mono HB2.out.size))) (by omega) (by omega)
          have HB3 := Lib.hid (HB2.out.trans (hb3.mono HB2.out.size))
          push_cast at hso
          go_wp2_with fail
          refine hso.mono ?_
          clear hso
          rintro e w4 ⟨hb4, ⟨hno, A', t, c', rfl⟩ | ⟨_, A', c', rfl, hc', hr4⟩⟩
          · exact absurd HOK.out hno
          · have HB4 := Lib.hid (HB3.out.trans (hb4.mono HB3.out.size))
            have HR4 := Lib.hid (nat_of_int hr4 fun x hx => (HOK.out.1 x ((srt_perm xs).mem_iff.1 hx)).1)
            have HR34 := Lib.hid (HR3.out.below NatR.stable hb4)
            have HR94 := Lib.hid (HR9.out.below ByR.stable hb4)
            have hmk := makeBy k (by omega) w4
            have hz := RowIn.made w4 k 5
            have hbz : Below w4.heap.size w4 (w4.alloc (.cells (Array.replicate k (.int .u8 0)) 5)) := (Below.refl _ _).alloc (Nat.le_refl _) _
            have hzr := hz.rd (S := fun _ => True) trivial
            rw [List.length_replicate] at hzr
            obtain ⟨wA, hwA⟩ : ∃ wA, w4.alloc (.cells (Array.replicate k (.int .u8 0)) 5) = wA := ⟨_, rfl⟩
            rw [hwA] at hmk hbz hzr
            have q7 : ((k : Int) != (k : Int)) = false := by simp
            have HZ := Lib.hid hzr
            have HBZ := Lib.hid hbz
            clear hr4 hb4 hb3 hz hbz hzr hwA HR3 HR9
            go_wp2_with fail
            clear hmk
            go_loopw [15, 16] (fun vs vi wr => ∃ (i : Nat) (A : Option Addr) (c : Nat), i ≤ k ∧ vi = .int .i64 i ∧ vs = .slice A k c ∧ Hid (RdL ByR 1 (fun _ => True) wr A k (combF ((planF k (usN k xs) wt).take i) (((usN k xs).map (rowF k)).take i) (List.replicate k 0))) ∧ Hid (Below w4.heap.size w4 wr)) (fun _ vi _ => k - (intOf vi).toNat)
            case atStart => exact ⟨0, _, k, Nat.zero_le _, rfl, rfl, by rw [List.take_zero, List.take_zero]; exact HZ, HBZ⟩
            case round =>
              clear HZ HBZ
              obtain ⟨wq, rfl⟩ : ∃ wq, wq = wr := ⟨_, rfl⟩
              obtain ⟨i, AS, cS, hi, rfl, rfl, HS, HB⟩ := hrel
              have p0 : (0 : Int) ≤ (i : Int) := Int.natCast_nonneg _
              by_cases hlt : i < k
              · have p1 : (i : Int) < (k : Int) := by omega
                obtain ⟨b3, o3, rfl, _, hb3⟩ := HR34.out.addr hlt
                obtain ⟨b4, o4, rfl, _, hb4⟩ := HR4.out.addr (k := i) (by omega)
                obtain ⟨b9, o9, rfl, _, hb9⟩ := HR94.out.addr hlt
                have v3 := nat_at HR34.out hlt
                have v4 := nat_at HR4.out (k := i) (by omega)
                rw [usN_gt hlt] at v4
                obtain ⟨v9, x9⟩ := by_at HR94.out hlt
                have u3 := fun w' (h : Below wq.heap.size wq w') => ((HB.out.trans (h.mono HB.out.size)).cell (p := ⟨b3, o3 + i, none⟩) hb3).trans v3
                have u4 := fun w' (h : Below wq.heap.size wq w') => ((HB.out.trans (h.mono HB.out.size)).cell (p := ⟨b4, o4 + i, none⟩) hb4).trans v4
                have u9 := fun w' (h : Below wq.heap.size wq w') => ((HB.out.trans (h.mono HB.out.size)).cell (p := ⟨b9, o9 + i, none⟩) hb9).trans v9
                have hrr := fun w => rrow_any (w := w) (k := k) (m := m) (HUS.out i hlt) km
                have hfd := fun w' (h : Below wq.heap.size wq w') A5 c5 S5 (h5 : RdL ByR 1 S5 w' A5 k (rowF k (gt (usN k xs) i))) => rfold_any (c1 := c5) (c2 := cS) x9 h5 (HS.out.below ByR.stable h) (by omega) (by omega)
                have hct := combF_take (u := planF k (usN k xs) wt) (B := (usN k xs).map (rowF k)) (z := List.replicate k 0) (j := i) (by rw [HR94.out.1]; exact hlt) (by rw [List.length_map, usN_len (by rw [HXL.out]; omega)]; exact hlt)
                rw [ra_map (by rw [usN_len (by rw [HXL.out]; omega)]; exact hlt)] at hct
                have HCT := Lib.hid hct
                obtain ⟨u, hu⟩ : ∃ u, gt (usN k xs) i = u := ⟨_, rfl⟩
                rw [hu] at u3 u4 hrr hfd HCT
                have q9 : ((u : Int) != (u : Int)) = false := by simp
                have q10 : (i : Int) < (n2 : Int) := by omega
                have q11 : i < n2 := by omega
                clear v3 v4 v9 hu hct hlt
                go_wp2_with fail
                refine wp_region_held_drew (S := fun w' => Below wq.heap.size wq w') (by kernel_rfl) (by first | assumption | exact Below.refl _ _ | exact (Below.refl _ _).drew) (fun hHeld => ?_)
                refine wpAnyH_take (i := 0) (v := ?_) rfl (by kernel_rfl) (by kernel_rfl) (by kernel_rfl) (fun _ _ _ h => h) (Or.inl ⟨by first | kernel_rfl | rfl, ?_⟩) (by assumption) ?_
                rotate_left
                · (intro wq hSw; (try dsimp only at hSw); (try simp (maxSteps := 2000000) only [List.getElem_toArray, List.getElem_cons_succ, List.getElem_cons_zero]); go_simp); try with_reducible rfl
                try simp (maxSteps := 2000000) only [List.getElem_toArray, List.getElem_cons_succ, List.getElem_cons_zero, Act.put, List.setIfInBounds_toArray, List.set_cons_zero, List.set_cons_succ]
                refine wpAnyH_take (i := 1) (v := ?_) rfl (by kernel_rfl) (by kernel_rfl) (by kernel_rfl) (fun _ _ _ h => h) (Or.inl ⟨by first | kernel_rfl | rfl, ?_⟩) (by assumption) ?_
                rotate_left
                · (intro wq hSw; (try dsimp only at hSw); (try simp (maxSteps := 2000000) only [List.getElem_toArray, List.getElem_cons_succ, List.getElem_cons_zero]); go_simp); try with_reducible rfl
                try simp (maxSteps := 2000000) only [List.getElem_toArray, List.getElem_cons_succ, List.getElem_cons_zero, Act.put, List.setIfInBounds_toArray, List.set_cons_zero, List.set_cons_succ]
                refine wpAnyH_take (i := 2) (v := ?_) rfl (by kernel_rfl) (by kernel_rfl) (by kernel_rfl) (fun _ _ _ h => h) (Or.inl ⟨by first | kernel_rfl | rfl, ?_⟩) (by assumption) ?_
                rotate_left
                · (intro wq hSw; (try dsimp only at hSw); (try simp (maxSteps := 2000000) only [List.getElem_toArray, List.getElem_cons_succ, List.getElem_cons_zero]); go_simp); try with_reducible rfl
                try simp (maxSteps := 2000000) only [List.getElem_toArray, List.getElem_cons_succ, List.getElem_cons_zero, Act.put, List.setIfInBounds_toArray, List.set_cons_zero, List.set_cons_succ]
                refine wpAnyH_take (i := 3) (v := ?_) rfl (by kernel_rfl) (by kernel_rfl) (by kernel_rfl) (fun _ _ _ h => h) (Or.inl ⟨by first | kernel_rfl | rfl, ?_⟩) (by assumption) ?_
                rotate_left
                · (intro wq hSw; (try dsimp only at hSw); (try simp (maxSteps := 2000000) only [List.getElem_toArray, List.getElem_cons_succ, List.getElem_cons_zero]); go_simp); try with_reducible rfl
                try simp (maxSteps := 2000000) only [List.getElem_toArray, List.getElem_cons_succ, List.getElem_cons_zero, Act.put, List.setIfInBounds_toArray, List.set_cons_zero, List.set_cons_succ]
                refine wpAnyH_take (i := 4) (v := ?_) rfl (by kernel_rfl) (by kernel_rfl) (by kernel_rfl) (fun _ _ _ h => h) (Or.inl ⟨by first | kernel_rfl | rfl, ?_⟩) (by assumption) ?_
                rotate_left
                · (intro wq hSw; (try dsimp only at hSw); (try simp (maxSteps := 2000000) only [List.getElem_toArray, List.getElem_cons_succ, List.getElem_cons_zero]); go_simp); try with_reducible rfl
                try simp (maxSteps := 2000000) only [List.getElem_toArray, List.getElem_cons_succ, List.getElem_cons_zero, Act.put, List.setIfInBounds_toArray, List.set_cons_zero, List.set_cons_succ]
                refine wpAnyH_take (i := 5) (v := ?_) rfl (by kernel_rfl) (by kernel_rfl) (by kernel_rfl) (fun _ _ _ h => h) (Or.inl ⟨by first | kernel_rfl | rfl, ?_⟩) (by assumption) ?_
                rotate_left
                · (intro wq hSw; (try dsimp only at hSw); (try simp (maxSteps := 2000000) only [List.getElem_toArray, List.getElem_cons_succ, List.getElem_cons_zero]); go_simp); try with_reducible rfl
                try simp (maxSteps := 2000000) only [List.getElem_toArray, List.getElem_cons_succ, List.getElem_cons_zero, Act.put, List.setIfInBounds_toArray, List.set_cons_zero, List.set_cons_succ]
                refine wpAnyH_take (i := 6) (v := ?_) rfl (by kernel_rfl) (by kernel_rfl) (by kernel_rfl) (fun _ _ _ h => h) (Or.inl ⟨by first | kernel_rfl | rfl, ?_⟩) (by assumption) ?_
                rotate_left
                · (intro wq hSw; (try dsimp only at hSw); (try simp (maxSteps := 2000000) only [List.getElem_toArray, List.getElem_cons_succ, List.getElem_cons_zero]); go_simp); try with_reducible rfl
                try simp (maxSteps := 2000000) only [List.getElem_toArray, List.getElem_cons_succ, List.getElem_cons_zero, Act.put, List.setIfInBounds_toArray, List.set_cons_zero, List.set_cons_succ]
                refine wpAnyH_take (i := 7) (v := ?_) rfl (by kernel_rfl) (by kernel_rfl) (by kernel_rfl) (fun _ _ _ h => h) (Or.inl ⟨by first | kernel_rfl | rfl, ?_⟩) (by assumption) ?_
                rotate_left
                · (intro wq hSw; (try dsimp only at hSw); (try simp (maxSteps := 2000000) only [List.getElem_toArray, List.getElem_cons_succ, List.getElem_cons_zero]); go_simp); try with_reducible rfl
                try simp (maxSteps := 2000000) only [List.getElem_toArray, List.getElem_cons_succ, List.getElem_cons_zero, Act.put, List.setIfInBounds_toArray, List.set_cons_zero, List.set_cons_succ]
                refine wpAnyH_take (i := 8) (v := ?_) rfl (by kernel_rfl) (by kernel_rfl) (by kernel_rfl) (fun _ _ _ h => h) (Or.inl ⟨by first | kernel_rfl | rfl, ?_⟩) (by assumption) ?_
                rotate_left
                · (intro wq hSw; (try dsimp only at hSw); (try simp (maxSteps := 2000000) only [List.getElem_toArray, List.getElem_cons_succ, List.getElem_cons_zero]); go_simp); try with_reducible rfl
                try simp (maxSteps := 2000000) only [List.getElem_toArray, List.getElem_cons_succ, List.getElem_cons_zero, Act.put, List.setIfInBounds_toArray, List.set_cons_zero, List.set_cons_succ]
                refine wpAnyH_done (by kernel_rfl) ?_ _
                go_wp2_with fail
                refine wp_region_held_drew (S := fun w' => Below wq.heap.size wq w') (by kernel_rfl) (by first | assumption | exact Below.refl _ _ | exact (Below.refl _ _).drew.drew) (fun hHeld => ?_)
                refine wpAnyH_take (i := 0) (v := ?_) rfl (by kernel_rfl) (by kernel_rfl) (by kernel_rfl) (fun _ _ _ h => h) (Or.inl ⟨by first | kernel_rfl | rfl, ?_⟩) (by assumption) ?_
                rotate_left
                · (intro wq hSw; (try dsimp only at hSw); (try simp (maxSteps := 2000000) only [List.getElem_toArray, List.getElem_cons_succ, List.getElem_cons_zero]); go_simp); try with_reducible rfl
                try simp (maxSteps := 2000000) only [List.getElem_toArray, List.getElem_cons_succ, List.getElem_cons_zero, Act.put, List.setIfInBounds_toArray, List.set_cons_zero, List.set_cons_succ]
                refine wpAnyH_take (i := 1) (v := ?_) rfl (by kernel_rfl) (by kernel_rfl) (by kernel_rfl) (fun _ _ _ h => h) (Or.inl ⟨by first | kernel_rfl | rfl, ?_⟩) (by assumption) ?_
                rotate_left
                · (intro wq hSw; (try dsimp only at hSw); (try simp (maxSteps := 2000000) only [List.getElem_toArray, List.getElem_cons_succ, List.getElem_cons_zero]); go_simp); try with_reducible rfl
                try simp (maxSteps := 2000000) only [List.getElem_toArray, List.getElem_cons_succ, List.getElem_cons_zero, Act.put, List.setIfInBounds_toArray, List.set_cons_zero, List.set_cons_succ]
                refine wpAnyH_take (i := 2) (v := ?_) rfl (by kernel_rfl) (by kernel_rfl) (by kernel_rfl) (fun _ _ _ h => h) (Or.inl ⟨by first | kernel_rfl | rfl, ?_⟩) (by assumption) ?_
                rotate_left
                · (intro wq hSw; (try dsimp only at hSw); (try simp (maxSteps := 2000000) only [List.getElem_toArray, List.getElem_cons_succ, List.getElem_cons_zero]); go_simp); try with_reducible rfl
                try simp (maxSteps := 2000000) only [List.getElem_toArray, List.getElem_cons_succ, List.getElem_cons_zero, Act.put, List.setIfInBounds_toArray, List.set_cons_zero, List.set_cons_succ]
                refine wpAnyH_take (i := 3) (v := ?_) rfl (by kernel_rfl) (by kernel_rfl) (by kernel_rfl) (fun _ _ _ h => h) (Or.inl ⟨by first | kernel_rfl | rfl, ?_⟩) (by assumption) ?_
                rotate_left
                · (intro wq hSw; (try dsimp only at hSw); (try simp (maxSteps := 2000000) only [List.getElem_toArray, List.getElem_cons_succ, List.getElem_cons_zero]); go_simp); try with_reducible rfl
                try simp (maxSteps := 2000000) only [List.getElem_toArray, List.getElem_cons_succ, List.getElem_cons_zero, Act.put, List.setIfInBounds_toArray, List.set_cons_zero, List.set_cons_succ]
                refine wpAnyH_take (i := 4) (v := ?_) rfl (by kernel_rfl) (by kernel_rfl) (by kernel_rfl) (fun _ _ _ h => h) (Or.inl ⟨by first | kernel_rfl | rfl, ?_⟩) (by assumption) ?_
                rotate_left
                · (intro wq hSw; (try dsimp only at hSw); (try simp (maxSteps := 2000000) only [List.getElem_toArray, List.getElem_cons_succ, List.getElem_cons_zero]); go_simp); try with_reducible rfl
                try simp (maxSteps := 2000000) only [List.getElem_toArray, List.getElem_cons_succ, List.getElem_cons_zero, Act.put, List.setIfInBounds_toArray, List.set_cons_zero, List.set_cons_succ]
                refine wpAnyH_take (i := 5) (v := ?_) rfl (by kernel_rfl) (by kernel_rfl) (by kernel_rfl) (fun _ _ _ h => h) (Or.inl ⟨by first | kernel_rfl | rfl, ?_⟩) (by assumption) ?_
                rotate_left
                · (intro wq hSw; (try dsimp only at hSw); (try simp (maxSteps := 2000000) only [List.getElem_toArray, List.getElem_cons_succ, List.getElem_cons_zero]); go_simp); try with_reducible rfl
                try simp (maxSteps := 2000000) only [List.getElem_toArray, List.getElem_cons_succ, List.getElem_cons_zero, Act.put, List.setIfInBounds_toArray, List.set_cons_zero, List.set_cons_succ]
                refine wpAnyH_take (i := 6) (v := ?_) rfl (by kernel_rfl) (by kernel_rfl) (by kernel_rfl) (fun _ _ _ h => h) (Or.inl ⟨by first | kernel_rfl | rfl, ?_⟩) (by assumption) ?_
                rotate_left
                · (intro wq hSw; (try dsimp only at hSw); (try simp (maxSteps := 2000000) only [List.getElem_toArray, List.getElem_cons_succ, List.getElem_cons_zero]); go_simp); try with_reducible rfl
                try simp (maxSteps := 2000000) only [List.getElem_toArray, List.getElem_cons_succ, List.getElem_cons_zero, Act.put, List.setIfInBounds_toArray, List.set_cons_zero, List.set_cons_succ]
                refine wpAnyH_take (i := 7) (v := ?_) rfl (by kernel_rfl) (by kernel_rfl) (by kernel_rfl) (fun _ _ _ h => h) (Or.inl ⟨by first | kernel_rfl | rfl, ?_⟩) (by assumption) ?_
                rotate_left
                · (intro wq hSw; (try dsimp only at hSw); (try simp (maxSteps := 2000000) only [List.getElem_toArray, List.getElem_cons_succ, List.getElem_cons_zero]); go_simp); try with_reducible rfl
                try simp (maxSteps := 2000000) only [List.getElem_toArray, List.getElem_cons_succ, List.getElem_cons_zero, Act.put, List.setIfInBounds_toArray, List.set_cons_zero, List.set_cons_succ]
                refine wpAnyH_take (i := 8) (v := ?_) rfl (by kernel_rfl) (by kernel_rfl) (by kernel_rfl) (fun _ _ _ h => h) (Or.inl ⟨by first | kernel_rfl | rfl, ?_⟩) (by assumption) ?_
                rotate_left
                · (intro wq hSw; (try dsimp only at hSw); (try simp (maxSteps := 2000000) only [List.getElem_toArray, List.getElem_cons_succ, List.getElem_cons_zero]); go_simp); try with_reducible rfl
                try simp (maxSteps := 2000000) only [List.getElem_toArray, List.getElem_cons_succ, List.getElem_cons_zero, Act.put, List.setIfInBounds_toArray, List.set_cons_zero, List.set_cons_succ]
                refine wpAnyH_take (i := 9) (v := ?_) rfl (by kernel_rfl) (by kernel_rfl) (by kernel_rfl) (fun _ _ _ h => h) (Or.inl ⟨by first | kernel_rfl | rfl, ?_⟩) (by assumption) ?_
                rotate_left
                · (intro wq hSw; (try dsimp only at hSw); (try simp (maxSteps := 2000000) only [List.getElem_toArray, List.getElem_cons_succ, List.getElem_cons_zero]); go_simp); try with_reducible rfl
                try simp (maxSteps := 2000000) only [List.getElem_toArray, List.getElem_cons_succ, List.getElem_cons_zero, Act.put, List.setIfInBounds_toArray, List.set_cons_zero, List.set_cons_succ]
                refine wpAnyH_take (i := 11) (v := ?_) rfl (by kernel_rfl) (by kernel_rfl) (by kernel_rfl) (fun _ _ _ h => h) (Or.inl ⟨by first | kernel_rfl | rfl, ?_⟩) (by assumption) ?_
                rotate_left
                · (intro wq hSw; (try dsimp only at hSw); (try simp (maxSteps := 2000000) only [List.getElem_toArray, List.getElem_cons_succ, List.getElem_cons_zero]); go_simp); try with_reducible rfl
                try simp (maxSteps := 2000000) only [List.getElem_toArray, List.getElem_cons_succ, List.getElem_cons_zero, Act.put, List.setIfInBounds_toArray, List.set_cons_zero, List.set_cons_succ]
                refine wpAnyH_ready (rs := [10]) (by kernel_rfl) (by simp) ?_
                refine AllReadyH.cons rfl (fun K hK => ?_) AllReadyH.nil
                try simp (maxSteps := 2000000) only [List.getElem_toArray, List.getElem_cons_succ, List.getElem_cons_zero]
                go_simp
                go_at_call 15
                refine (hrr _).mono ?_
                rintro e w5 ⟨A5, c5, rfl, hc5, hr5, hb5⟩
                have s5 : Below wq.heap.size wq w5 := (Below.refl _ _).drew.drew.trans hb5
                have hf5 := hfd _ s5 A5 c5 _ hr5
                clear hrr hfd hb5
                try (go_wp2_with fail)
                refine hK.out _ _ (by first | assumption | exact Below.refl _ _ | exact (Below.refl _ _).drew.drew) (fun hHeld => ?_)
                clear hK K
                try simp (maxSteps := 2000000) only [List.getElem_toArray, List.getElem_cons_succ, List.getElem_cons_zero, Act.put, List.setIfInBounds_toArray, List.set_cons_zero, List.set_cons_succ]
                refine wpAnyH_ready (rs := [12]) (by kernel_rfl) (by simp) ?_
                refine AllReadyH.cons rfl (fun K hK => ?_) AllReadyH.nil
                try simp (maxSteps := 2000000) only [List.getElem_toArray, List.getElem_cons_succ, List.getElem_cons_zero]
                go_simp
                go_at_call 14
                refine hf5.mono ?_
                rintro e w6 ⟨A6, c6, rfl, hc6, hr6, hb6⟩
                have s6 : Below wq.heap.size wq w6 := s5.trans (hb6.mono s5.size)
                have HR6 := Lib.hid (hr6.weaken ByR.stable (S' := fun _ => True) fun _ _ => trivial)
                clear hf5 hr6 hb6
                try (go_wp2_with fail)
                refine hK.out _ _ (by first | assumption | exact Below.refl _ _ | exact (Below.refl _ _).drew.drew) (fun hHeld => ?_)
                clear hK K
                try simp (maxSteps := 2000000) only [List.getElem_toArray, List.getElem_cons_succ, List.getElem_cons_zero, Act.put, List.setIfInBounds_toArray, List.set_cons_zero, List.set_cons_succ]
                refine wpAnyH_take (i := 13) (v := ?_) rfl (by kernel_rfl) (by kernel_rfl) (by kernel_rfl) (fun _ _ _ h => h) (Or.inl ⟨by first | kernel_rfl | rfl, ?_⟩) (by assumption) ?_
                rotate_left
                · (intro wq hSw; (try dsimp only at hSw); (try simp (maxSteps := 2000000) only [List.getElem_toArray, List.getElem_cons_succ, List.getElem_cons_zero]); go_simp); try with_reducible rfl
                try simp (maxSteps := 2000000) only [List.getElem_toArray, List.getElem_cons_succ, List.getElem_cons_zero, Act.put, List.setIfInBounds_toArray, List.set_cons_zero, List.set_cons_succ]
                refine wpAnyH_done (by kernel_rfl) ?_ _
                have HS6 := Lib.hid s6
                rw [← HCT.out] at HR6
                go_wp2_with fail
                exact ⟨⟨i + 1, A6, c6, by omega, by go_num, rfl, HR6, Lib.hid (HB.out.trans (HS6.out.mono HB.out.size))⟩, by simp [intOf]; omega⟩
              · have p1 : ¬ (i : Int) < (k : Int) := by omega
                obtain rfl : i = k := by omega
                have hus2 := usN_len (k := i) (xs := xs) (by rw [HXL.out]; omega)
                have hI := inj_usN HOK.out (by rw [HXL.out]; omega) km
                have hs := HS.out
                rw [List.take_of_length_le (by rw [HR94.out.1]; exact Nat.le_refl _), List.take_of_length_le (by rw [List.length_map, hus2]; exact Nat.le_refl _), plan_row hus2 hI] at hs
                have t1 := fun w' (h : Below wq.heap.size wq w') => text_run (c := cS) (hs.below ByR.stable h)
                have hrr := fun w => rrow_any (w := w) (k := i) (m := m) hwt km
                obtain ⟨tx, htx⟩ : ∃ tx, textB (rowF i wt) = tx := ⟨_, rfl⟩
                rw [htx] at t1
                have HTX := Lib.hid htx
                have q8 : (tx == tx) = true := by rw [bytes_beq]; simp
                clear hs hI hus2 HS htx
                go_wp2_with fail
                refine wp_region_held_drew (S := fun w' => Below wq.heap.size wq w') (by kernel_rfl) (by first | assumption | exact Below.refl _ _ | exact (Below.refl _ _).drew) (fun hHeld => ?_)
                refine wpAnyH_take (i := 0) (v := ?_) rfl (by kernel_rfl) (by kernel_rfl) (by kernel_rfl) (fun _ _ _ h => h) (Or.inl ⟨by first | kernel_rfl | rfl, ?_⟩) (by assumption) ?_
                rotate_left
                · (intro wq hSw; (try dsimp only at hSw); (try simp (maxSteps := 2000000) only [List.getElem_toArray, List.getElem_cons_succ, List.getElem_cons_zero]); go_simp); try with_reducible rfl
                try simp (maxSteps := 2000000) only [List.getElem_toArray, List.getElem_cons_succ, List.getElem_cons_zero, Act.put, List.setIfInBounds_toArray, List.set_cons_zero, List.set_cons_succ]
                refine wpAnyH_take (i := 1) (v := ?_) rfl (by kernel_rfl) (by kernel_rfl) (by kernel_rfl) (fun _ _ _ h => h) (Or.inl ⟨by first | kernel_rfl | rfl, ?_⟩) (by assumption) ?_
                rotate_left
                · (intro wq hSw; (try dsimp only at hSw); (try simp (maxSteps := 2000000) only [List.getElem_toArray, List.getElem_cons_succ, List.getElem_cons_zero]); go_simp); try with_reducible rfl
                try simp (maxSteps := 2000000) only [List.getElem_toArray, List.getElem_cons_succ, List.getElem_cons_zero, Act.put, List.setIfInBounds_toArray, List.set_cons_zero, List.set_cons_succ]
                refine wpAnyH_take (i := 2) (v := ?_) rfl (by kernel_rfl) (by kernel_rfl) (by kernel_rfl) (fun _ _ _ h => h) (Or.inl ⟨by first | kernel_rfl | rfl, ?_⟩) (by assumption) ?_
                rotate_left
                · (intro wq hSw; (try dsimp only at hSw); (try simp (maxSteps := 2000000) only [List.getElem_toArray, List.getElem_cons_succ, List.getElem_cons_zero]); go_simp); try with_reducible rfl
                try simp (maxSteps := 2000000) only [List.getElem_toArray, List.getElem_cons_succ, List.getElem_cons_zero, Act.put, List.setIfInBounds_toArray, List.set_cons_zero, List.set_cons_succ]
                refine wpAnyH_take (i := 3) (v := ?_) rfl (by kernel_rfl) (by kernel_rfl) (by kernel_rfl) (fun _ _ _ h => h) (Or.inl ⟨by first | kernel_rfl | rfl, ?_⟩) (by assumption) ?_
                rotate_left
                · (intro wq hSw; (try dsimp only at hSw); (try simp (maxSteps := 2000000) only [List.getElem_toArray, List.getElem_cons_succ, List.getElem_cons_zero]); go_simp); try with_reducible rfl
                try simp (maxSteps := 2000000) only [List.getElem_toArray, List.getElem_cons_succ, List.getElem_cons_zero, Act.put, List.setIfInBounds_toArray, List.set_cons_zero, List.set_cons_succ]
                refine wpAnyH_take (i := 4) (v := ?_) rfl (by kernel_rfl) (by kernel_rfl) (by kernel_rfl) (fun _ _ _ h => h) (Or.inl ⟨by first | kernel_rfl | rfl, ?_⟩) (by assumption) ?_
                rotate_left
                · (intro wq hSw; (try dsimp only at hSw); (try simp (maxSteps := 2000000) only [List.getElem_toArray, List.getElem_cons_succ, List.getElem_cons_zero]); go_simp); try with_reducible rfl
                try simp (maxSteps := 2000000) only [List.getElem_toArray, List.getElem_cons_succ, List.getElem_cons_zero, Act.put, List.setIfInBounds_toArray, List.set_cons_zero, List.set_cons_succ]
                refine wpAnyH_ready (rs := [5]) (by kernel_rfl) (by simp) ?_
                refine AllReadyH.cons rfl (fun K hK => ?_) AllReadyH.nil
                try simp (maxSteps := 2000000) only [List.getElem_toArray, List.getElem_cons_succ, List.getElem_cons_zero]
                go_simp
                go_at_call 15
                refine (hrr _).mono ?_
                rintro e w5 ⟨A5, c5, rfl, hc5, hr5, hb5⟩
                have s5 : Below wq.heap.size wq w5 := (Below.refl _ _).drew.trans hb5
                have t2 := text_run (c := c5) hr5
                rw [HTX.out] at t2
                clear hrr hb5 hr5
                try (go_wp2_with fail)
                refine hK.out _ _ (by first | assumption | exact Below.refl _ _ | exact (Below.refl _ _).drew) (fun hHeld => ?_)
                clear hK K
                try simp (maxSteps := 2000000) only [List.getElem_toArray, List.getElem_cons_succ, List.getElem_cons_zero, Act.put, List.setIfInBounds_toArray, List.set_cons_zero, List.set_cons_succ]
                refine wpAnyH_ready (rs := [6]) (by kernel_rfl) (by simp) ?_
                refine AllReadyH.cons rfl (fun K hK => ?_) AllReadyH.nil
                try simp (maxSteps := 2000000) only [List.getElem_toArray, List.getElem_cons_succ, List.getElem_cons_zero]
                go_simp
                refine hK.out _ _ (by first | assumption | exact Below.refl _ _ | exact (Below.refl _ _).drew) (fun hHeld => ?_)
                clear hK K
                try simp (maxSteps := 2000000) only [List.getElem_toArray, List.getElem_cons_succ, List.getElem_cons_zero, Act.put, List.setIfInBounds_toArray, List.set_cons_zero, List.set_cons_succ]
                refine wpAnyH_take (i := 7) (v := ?_) rfl (by kernel_rfl) (by kernel_rfl) (by kernel_rfl) (fun _ _ _ h => h) (Or.inl ⟨by first | kernel_rfl | rfl, ?_⟩) (by assumption) ?_
                rotate_left
                · (intro wq hSw; (try dsimp only at hSw); (try simp (maxSteps := 2000000) only [List.getElem_toArray, List.getElem_cons_succ, List.getElem_cons_zero]); go_simp); try with_reducible rfl
                try simp (maxSteps := 2000000) only [List.getElem_toArray, List.getElem_cons_succ, List.getElem_cons_zero, Act.put, List.setIfInBounds_toArray, List.set_cons_zero, List.set_cons_succ]
                refine wpAnyH_take (i := 8) (v := ?_) rfl (by kernel_rfl) (by kernel_rfl) (by kernel_rfl) (fun _ _ _ h => h) (Or.inl ⟨by first | kernel_rfl | rfl, ?_⟩) (by assumption) ?_
                rotate_left
                · (intro wq hSw; (try dsimp only at hSw); (try simp (maxSteps := 2000000) only [List.getElem_toArray, List.getElem_cons_succ, List.getElem_cons_zero]); go_simp); try with_reducible rfl
                try simp (maxSteps := 2000000) only [List.getElem_toArray, List.getElem_cons_succ, List.getElem_cons_zero, Act.put, List.setIfInBounds_toArray, List.set_cons_zero, List.set_cons_succ]
                refine wpAnyH_ready (rs := [9]) (by kernel_rfl) (by simp) ?_
                refine AllReadyH.cons rfl (fun K hK => ?_) AllReadyH.nil
                try simp (maxSteps := 2000000) only [List.getElem_toArray, List.getElem_cons_succ, List.getElem_cons_zero]
                go_simp
                go_at_call 11
                refine decodes_any.mono ?_
                rintro e w6 ⟨rfl, hb6⟩
                have s6 : Below wq.heap.size wq w6 := s5.trans (hb6.mono s5.size)
                clear hb6
                try (go_wp2_with fail)
                refine hK.out _ _ (by first | assumption | exact Below.refl _ _ | exact (Below.refl _ _).drew) (fun hHeld => ?_)
                clear hK K
                try simp (maxSteps := 2000000) only [List.getElem_toArray, List.getElem_cons_succ, List.getElem_cons_zero, Act.put, List.setIfInBounds_toArray, List.set_cons_zero, List.set_cons_succ]
                refine wpAnyH_take (i := 10) (v := ?_) rfl (by kernel_rfl) (by kernel_rfl) (by kernel_rfl) (fun _ _ _ h => h) (Or.inl ⟨by first | kernel_rfl | rfl, ?_⟩) (by assumption) ?_
                rotate_left
                · (intro wq hSw; (try dsimp only at hSw); (try simp (maxSteps := 2000000) only [List.getElem_toArray, List.getElem_cons_succ, List.getElem_cons_zero]); go_simp); try with_reducible rfl
                try simp (maxSteps := 2000000) only [List.getElem_toArray, List.getElem_cons_succ, List.getElem_cons_zero, Act.put, List.setIfInBounds_toArray, List.set_cons_zero, List.set_cons_succ]
                refine wpAnyH_take (i := 11) (v := ?_) rfl (by kernel_rfl) (by kernel_rfl) (by kernel_rfl) (fun _ _ _ h => h) (Or.inl ⟨by first | kernel_rfl | rfl, ?_⟩) (by assumption) ?_
                rotate_left
                · (intro wq hSw; (try dsimp only at hSw); (try simp (maxSteps := 2000000) only [List.getElem_toArray, List.getElem_cons_succ, List.getElem_cons_zero]); go_simp); try with_reducible rfl
                try simp (maxSteps := 2000000) only [List.getElem_toArray, List.getElem_cons_succ, List.getElem_cons_zero, Act.put, List.setIfInBounds_toArray, List.set_cons_zero, List.set_cons_succ]
                refine wpAnyH_done (by kernel_rfl) ?_ _
                have HS6 := Lib.hid s6
                go_wp2_with fail
                go_ret
                have hb := HB.out.trans (HS6.out.mono HB.out.size)
                exact ⟨by first | rfl | simp, HB4.out.trans (hb.mono HB4.out.size)⟩
  · rw [show mayB z0 z1 = false from decide_eq_false hok] at hmay
    have hnew := new_bad (w := w1) (f := .pointer (some ⟨w.heap.size, 0, none⟩)) hok
    clear hok
    go_wp2_with fail
    refine hnew.mono ?_
    rintro e w2 ⟨rfl, rfl⟩
    have hdc := decodes_any (w := w2)
    go_wp2_with fail
    refine (hmay w2).mono ?_
    rintro e w3 ⟨rfl, hw3⟩
    rw [hw3]
    clear hw3
    go_wp2_with fail
    refine hdc.mono ?_
    rintro e w3 ⟨rfl, hb3⟩
    go_wp2_with fail
    go_ret
    exact ⟨rfl, hb1.trans (hb3.mono hb1.size)⟩
end Go.Proofs.YthhljmlpjnkfgaaGreat

set_option linter.unusedSimpArgs false
set_option linter.unusedVariables false
namespace Go.Cib
open Go.RowKit Go.ChangeShapes Go.WideShapes Go.Deep

section
variable {P : Program} {X : Type}

/-- What reads as data of type t reads by R. -/
def Opens (P : Program) (t : TypeId) (R : (Nat → Prop) → World → List Value → X → Prop) (s : Nat) : Prop :=
  P.cellsOf t = s ∧ 0 < s ∧ ∀ (H : Type) (enc : TypeId × Value → H) (w : World) (base : Nat) (spare : Nat → Bool) (held : Bool) (fuel : Nat) (cs : List Value) (x : DataW H × List MemPlace),
    cs.length = s → DataW.trod enc P w base spare held fuel t cs = some x → ∃ y : X, R (fun _ => True) w cs y

theorem opens_int {t : TypeId} (h : P.underlying t = some (.int .i64)) (hc : P.cellsOf t = 1) : Opens P t IntR 1 :=
  ⟨hc, by omega, fun H enc w base spare held fuel cs x _ hx => by
    obtain ⟨n, rfl, _, _⟩ := DataW.trod_int h hx
    exact ⟨n, rfl⟩⟩
theorem opens_u64 {t : TypeId} (h : P.underlying t = some (.int .u64)) (hc : P.cellsOf t = 1) : Opens P t U64R 1 :=
  ⟨hc, by omega, fun H enc w base spare held fuel cs x _ hx => by
    obtain ⟨n, rfl, _, _⟩ := DataW.trod_int h hx
    exact ⟨n, rfl⟩⟩

theorem opens_slice {R : (Nat → Prop) → World → List Value → X → Prop} {t e : TypeId} {s : Nat} (ht : P.underlying t = some (.slice e)) (ho : Opens P e R s) {H : Type} {enc : TypeId × Value → H} {w : World} {base : Nat} {spare : Nat → Bool} {held : Bool} {fuel : Nat} {cs : List Value} {x : DataW H × List MemPlace}
    (h : DataW.trod enc P w base spare held fuel t cs = some x) : ∃ A n c xs, cs = [.slice A n c] ∧ n ≤ c ∧ c ≤ maxLen ∧ RdL R s (fun _ => True) w A n xs := by
  obtain ⟨hs, hpos, hR⟩ := ho
  rcases open_slice ht h with ⟨rfl, _⟩ | ⟨a, len, cap, m, n, D, Pl, rfl, hb, hl, hm, hmm, hx, hi⟩
  · exact ⟨none, 0, 0, [], rfl, Nat.le_refl _, by simp [maxLen], RdL.nil⟩
  · have hlm : len ≤ m := by rw [hmm]; split <;> omega
    rw [hs] at hi
    have hel : ∀ i, i < len → ∃ (cs' : List Value) (y : X), cs'.length = s ∧ R (fun _ => True) w cs' y ∧ ∀ j v, cs'[j]? = some v → w.cell? ((a.add (i * s)).add j) = some v := by
      intro i hil
      obtain ⟨cs', h1, h2⟩ := hi i (by omega)
      obtain ⟨_, h3, h4⟩ := World.cells?_some h1
      obtain ⟨y, hy⟩ := hR _ _ _ _ _ _ _ _ _ h3 h2
      exact ⟨cs', y, h3, hy, fun j v hj => by
        have hjl := (List.getElem?_eq_some_iff.1 hj).1
        rw [h4 j (by omega), hj]⟩
    rcases Nat.eq_zero_or_pos len with h0 | h0
    · subst h0
      exact ⟨some a, 0, cap, [], rfl, hl, hm, RdL.nil⟩
    · have hspot : a.spot = none := by
        obtain ⟨cs', y, h1, _, h2⟩ := hel 0 h0
        have h3 := h2 0 (cs'[0]'(by omega)) (List.getElem?_eq_getElem (by omega))
        simp only [Nat.zero_mul, Addr.add, if_true] at h3
        unfold World.cell? at h3
        split at h3
        · split at h3
          · cases h3
          · rename_i hs; simpa using hs
        · cases h3
      obtain ⟨b, o, sp⟩ := a
      simp only at hspot
      subst hspot
      have hxs : ∀ k, k ≤ len → ∃ xs : List X, xs.length = k ∧ ∀ i y, xs[i]? = some y → ∃ cs' : List Value, cs'.length = s ∧ R (fun _ => True) w cs' y ∧ ∀ j v, cs'[j]? = some v → w.cell? ⟨b, o + i * s + j, none⟩ = some v := by
        intro k
        induction k with
        | zero => exact fun _ => ⟨[], rfl, by simp⟩
        | succ k ih =>
          intro hk
          obtain ⟨xs, e1, e2⟩ := ih (by omega)
          obtain ⟨cs', y, h1, h2, h3⟩ := hel k (by omega)
          refine ⟨xs ++ [y], by simp [e1], fun i y' hy' => ?_⟩
          by_cases hik : i < k
          · rw [List.getElem?_append_left (by omega)] at hy'
            exact e2 i y' hy'
          · have hie : i = k := by
              have := (List.getElem?_eq_some_iff.1 hy').1
              simp [e1] at this; omega
            subst hie
            rw [List.getElem?_append_right (by omega)] at hy'
            simp only [e1, Nat.sub_self, List.getElem?_cons_zero, Option.some.injEq] at hy'
            subst hy'
            exact ⟨cs', h1, h2, fun j v hj => by have := h3 j v hj; rw [Addr.add_lit, Addr.add_lit] at this; exact this⟩
      obtain ⟨xs, e1, e2⟩ := hxs len (Nat.le_refl _)
      obtain ⟨cs', y, h1, _, h3⟩ := hel 0 h0
      have hblt : b < w.heap.size := by
        have := h3 0 (cs'[0]'(by omega)) (List.getElem?_eq_getElem (by omega))
        have := World.block_lt_of_cell? w _ this
        simpa [Addr.add_lit] using this
      exact ⟨some ⟨b, o, none⟩, len, cap, xs, rfl, hl, hm, e1, fun _ => ⟨b, o, rfl, trivial, hblt, e2⟩⟩

/-- A slice among the arguments. -/
theorem open_rd {R : (Nat → Prop) → World → List Value → X → Prop} {t e : TypeId} {s : Nat} (ht : P.underlying t = some (.slice e)) (ho : Opens P e R s) {H : Type} {enc : TypeId × Value → H} {w : World} {base b0 : Nat} {spare : Nat → Bool} {held : Bool} {r : Reach} {v : Value} {d : DataW H} {ps : List MemPlace}
    (hval : Value.okWide P w r b0 t v) (h : DataW.Trod enc P w base spare held t v d ps) : ∃ A n c xs, v = .slice A n c ∧ n ≤ c ∧ c ≤ maxLen ∧ RdL R s (fun _ => True) w A n xs := by
  obtain ⟨A, n, c, rfl⟩ := okWide_slice ht hval
  obtain ⟨fuel, hf⟩ := h
  obtain ⟨A', n', c', xs, e1, e2, e3, e4⟩ := opens_slice ht ho hf
  simp only [Value.cells, List.cons.injEq, and_true, Value.slice.injEq] at e1
  obtain ⟨rfl, rfl, rfl⟩ := e1
  exact ⟨A, n, c, xs, rfl, e2, e3, e4⟩
end

section
variable {H : Type} {enc : TypeId × Value → H} {P : Program}

theorem trodAll_stays (hl : laidOutB P = true) {W W' : World} (hb : Below W.heap.size W W') : ∀ (ts : List TypeId) (vs : List Value) (ds : List (DataW H)) (ps : List MemPlace), (∀ t ∈ ts, P.readableRec t = true ∧ t < P.types.size) → (∀ x ∈ ps, x.block < W.heap.size) →
    DataW.TrodAll enc P W 0 (fun _ => true) true ts vs ds ps → DataW.TrodAll enc P W' 0 (fun b => decide (b < W.heap.size)) true ts vs ds ps
  | [], vs, ds, ps, _, _, h => by
    obtain ⟨rfl, rfl, rfl⟩ := trodAll_nil h
    exact trodAll_mk0
  | t :: ts, vs, ds, ps, hr, hlt, h => by
    obtain ⟨v, vs', d, ds', p, q, rfl, rfl, rfl, hd, hrest⟩ := trodAll_cons h
    have h1 := Below.trod hl (hr t (by simp)).1 (hr t (by simp)).2 hd hb (fun x hx => hlt x (by simp [hx]))
    have h2 := trodAll_stays hl hb ts vs' ds' q (fun u hu => hr u (List.mem_cons_of_mem _ hu)) (fun x hx => hlt x (by simp [hx])) hrest
    exact trodAll_cons_mk h1 h2

/-- The end of a law's proof: it answered true, and what was there is as it was. -/
theorem law_post {f : Func} {s : ChangeSpec} {W W' : World} {args : Array Value} {ds gs : List (DataW H)} {before : List MemPlace} {tb : TypeId} (hl : laidOutB P = true) (hr : ∀ t ∈ f.params.toList, P.readableRec t = true ∧ t < P.types.size)
    (hres : f.resultTypes = #[tb]) (htb : P.underlying tb = some .bool) (hvars : s.vars = []) (hfn : (s.fn H (ds ++ gs)).results = [.lit (.bool true)] ∧ (s.fn H (ds ++ gs)).args = ds ∧ (s.fn H (ds ++ gs)).vars = [])
    (hW : DataW.Whole enc P f.params.toList s.vars false W args.toList ds gs before) (hb : Below W.heap.size W W') :
    s.post enc P f false true false false W args (.bool true) W' := by
  have hlt : ∀ p ∈ before, p.block < W.heap.size := fun p hp => hW.lt p hp
  have hW2 := hW
  obtain ⟨p, q, hA, hV, rfl, hz, hn⟩ := hW2
  rw [hvars] at hV
  obtain ⟨rfl, rfl⟩ := trodVars_none hV
  simp only [List.append_nil] at hlt hfn hz hW ⊢
  have hargs := trodAll_stays hl hb _ _ _ _ hr hlt hA
  have hr1 : ∀ (b : Nat) (sp : Nat → Bool) (hd : Bool), DataW.TrodAll enc P W' b sp hd f.resultTypes.toList ((Value.bool true).resultList f.resultTypes.size) (s.fn H ds).results [] := fun b sp hd => by
    rw [hres, hfn.1]
    exact trodAll_mk1 (shut_bool htb true)
  refine ⟨ds, [], p, [], p, [], hW, by rw [List.append_nil]; exact hr1 _ _ _, by rw [List.append_nil, hfn.2.1]; exact hargs, by rw [List.append_nil, hvars, hfn.2.2]; exact rfl, World.keptBut_mono (fun x hx => ⟨hx, .inr (.inl hx)⟩) (hb.frame (· ∈ p)), fun h => by cases h⟩
end
end Go.Cib

set_option linter.unusedSimpArgs false
set_option linter.unusedVariables false
namespace Go.Proofs.YthhljmlpjnkfgaaGreat
open Go.RowKit Go.Cib
attribute [local go_sem] cell_set Later.cell Later.frozen Grw.cell Grw.frozen
open Go.ChangeShapes Go.WideShapes Go.ChangeAt Go.Deep

theorem laidOut_ : laidOutB Tryz.prog = true := by kernel_rfl
theorem ownKnob_ : ownKnob Tryz.prog.godebug = none := by kernel_rfl
theorem opens_by : Opens Tryz.prog 5 ByR 1 :=
  ⟨by kernel_rfl, by omega, fun H enc w base spare held fuel cs x _ hx => by
    obtain ⟨n, rfl, _, hw⟩ := DataW.trod_int Tryz.underlying5 hx
    have h2 : 0 ≤ n ∧ n ≤ 255 := by
      simp [Lit.wf, IntKind.min, IntKind.max, IntKind.signed, IntKind.bits] at hw
      omega
    exact ⟨n.toNat, by omega, by rw [show ((n.toNat : Nat) : Int) = n by omega]⟩⟩
end Go.Proofs.YthhljmlpjnkfgaaGreat
