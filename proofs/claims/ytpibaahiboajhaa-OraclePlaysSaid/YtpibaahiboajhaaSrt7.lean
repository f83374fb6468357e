/-
  Sorting a row of uint64: the partition.
-/
import Derived.Test.YtpibaahiboajhaaSrt6
import Derived.Sort.WalkC4
set_option linter.unusedSimpArgs false
set_option linter.unusedVariables false
namespace Go.Proofs.Ytpibaahiboajhaa
open Go.RowKit Go.Cib
attribute [local go_sem] cell_set Later.cell Later.frozen Grw.cell Grw.frozen
open Go.Sort Go.Proofs

set_option maxRecDepth 100000 in
set_option maxHeartbeats 32000000 in
theorem part_u {w wr : World} {blk off n cap a b pivot : Nat} {d : Array Int} (h : RowIs w blk off n wr d) (hap : a ≤ pivot) (hpb : pivot < b) (hb : b ≤ n) (hn : n ≤ 1000000) :
    Calls Try.prog 154 #[.slice (some ⟨blk, off, none⟩) n cap, .int .i64 a, .int .i64 b, .int .i64 pivot] wr fun e w' =>
      e = .returned (.tuple #[.int .i64 (partition ltInt d a b pivot).1, .bool (partition ltInt d a b pivot).2.1]) ∧ RowIs w blk off n w' (partition ltInt d a b pivot).2.2 := by
  have HR := Lib.hid h
  have han : a < n := by omega
  clear h
  go_enter Try.func154, Try.ntmps154
  go_wp2_with fail
  obtain ⟨G, cw, fw, HG⟩ := HR.out.family
  by_cases hpe : a = pivot
  · subst hpe
    skip
    go_wp2_with fail
    go_region
    have H4 := Lib.hid (HR.out.swap (i := a) (j := a) (by omega) (by omega) (HG.out _) (HG.out _))
    obtain ⟨w4, hw4⟩ : ∃ w4, (wr.setCell ⟨blk, off + a, none⟩ (.int .u64 (G a))).setCell ⟨blk, off + a, none⟩ (.int .u64 (G a)) = w4 := ⟨_, rfl⟩
    rw [hw4] at H4 ⊢
    clear hw4 cw fw HR
    obtain ⟨w5, hw5⟩ : ∃ w5, w4.drew = w5 := ⟨_, rfl⟩
    have HR : Hid (RowIs w blk off n w4.drew (swp d a a)) := Lib.hid H4.out.drew
    rw [hw5] at HR ⊢
    clear hw5 H4 HG
    go_wp2_with fail
    obtain ⟨dk, HDe'⟩ : ∃ dk, dk = swp d a a := ⟨_, rfl⟩
    rw [← HDe'] at HR
    have HDe := Lib.hid HDe'
    obtain ⟨i, HIe'⟩ : ∃ i, i = a + 1 := ⟨_, rfl⟩
    obtain ⟨j, HJe'⟩ : ∃ j, j = b - 1 := ⟨_, rfl⟩
    have HIe := Lib.hid HIe'
    have HJe := Lib.hid HJe'
    have hai : a < i := by omega
    have hjb : j + 1 = b := by omega
    have hij1 : i ≤ j + 1 := by omega
    rw [show (a : Int) + 1 = (i : Int) by omega, show (b : Int) - 1 = (j : Int) by omega]
    clear HDe' HIe' HJe'
    go_loopw [10] (fun vi wq => ∃ i2 : Nat, vi = .int .i64 i2 ∧ i ≤ i2 ∧ i2 ≤ j + 1 ∧ Hid (RowIs w blk off n wq dk) ∧ Hid (scanUp (fun x => ltInt x dk[a]!) dk j i2 = scanUp (fun x => ltInt x dk[a]!) dk j i)) (fun vi _ => j + 1 - (intOf vi).toNat)
    case atStart => exact ⟨i, rfl, Nat.le_refl _, by omega, HR, Lib.hid rfl⟩
    case round =>
      clear HR
      obtain ⟨wu, rfl⟩ : ∃ wu, wu = wr := ⟨_, rfl⟩
      obtain ⟨i2, rfl, hi2, hi2j, HR, HU⟩ := hrel
      by_cases hij : i2 ≤ j
      · have q2 : (i2 : Int) ≤ (j : Int) := by omega
        obtain ⟨G, cw, fw, HG⟩ := HR.out.family
        cases hl : ltInt (G i2) (G a) with
        | true =>
          go_wp2_with fail
          go_quiet (first | (go_at_call 152; refine Calls.quiet_of_same (less_is hl _)))
          go_wp2_with fail
          go_roundw
          case rel => exact ⟨i2 + 1, by go_num, by omega, by omega, Lib.hid (HR.out.drewN nq), Lib.hid (by rw [← HU.out, scanUp_go (fun x => ltInt x dk[a]!) dk j i2 hij (by simp only [← HG.out, hl] <;> rfl)])⟩
          case measure => simp [intOf]; omega
        | false =>
          have HI2 : Hid (i2 = scanUp (fun x => ltInt x dk[a]!) dk j i) := Lib.hid (by rw [← HU.out, scanUp_end (fun x => ltInt x dk[a]!) dk j i2 (Or.inr (by simp only [← HG.out, hl] <;> rfl))])
          go_wp2_with fail
          go_quiet (first | (go_at_call 152; refine Calls.quiet_of_same (less_is hl _)))
          go_wp2_with fail
          obtain ⟨w3, hw3, H3, cw3, fw3⟩ := RowIs.on HR HG nq
          rw [hw3]
          clear hw3 cw fw HR nq
          have HR := H3
          clear H3 HG cw3 fw3
          go_loopw [11] (fun vj wq => ∃ j2 : Nat, vj = .int .i64 j2 ∧ j2 ≤ j ∧ i2 ≤ j2 + 1 ∧ Hid (RowIs w blk off n wq dk) ∧ Hid (scanDown (fun x => !ltInt x dk[a]!) dk i2 j2 = scanDown (fun x => !ltInt x dk[a]!) dk i2 j)) (fun vj _ => (intOf vj).toNat)
          case atStart => exact ⟨j, rfl, Nat.le_refl _, by omega, HR, Lib.hid rfl⟩
          case round =>
            clear HR
            obtain ⟨wv, rfl⟩ : ∃ wv, wv = wr := ⟨_, rfl⟩
            obtain ⟨j2, rfl, hj2, hj2i, HR, HV⟩ := hrel
            by_cases hij : i2 ≤ j2
            · have q3 : (i2 : Int) ≤ (j2 : Int) := by omega
              obtain ⟨G, cw, fw, HG⟩ := HR.out.family
              cases hl : ltInt (G j2) (G a) with
              | false =>
                go_wp2_with fail
                go_quiet (first | (go_at_call 152; refine Calls.quiet_of_same (less_is hl _)))
                go_wp2_with fail
                go_roundw
                case rel => exact ⟨j2 - 1, by congr 1; omega, by omega, by omega, Lib.hid (HR.out.drewN nq), Lib.hid (by rw [← HV.out, scanDown_go (fun x => !ltInt x dk[a]!) dk i2 j2 hij (by omega) (by simp only [← HG.out, hl] <;> rfl)])⟩
                case measure => simp [intOf]; omega
              | true =>
                have HJ2 : Hid (j2 = scanDown (fun x => !ltInt x dk[a]!) dk i2 j) := Lib.hid (by rw [← HV.out, scanDown_end (fun x => !ltInt x dk[a]!) dk i2 j2 (Or.inr (by simp only [← HG.out, hl] <;> rfl))])
                have hngt : ¬ i2 > j2 := by omega
                have hlt2 : i2 < j2 := part_scans_lt ltInt a i j dk (by omega) HI2.out HJ2.out (by omega)
                have q4 : ¬ (j2 : Int) < (i2 : Int) := by omega
                have q5 : decide ((j2 : Int) < (i2 : Int)) = false := decide_eq_false q4
                go_wp2_with fail
                go_quiet (first | (go_at_call 152; refine Calls.quiet_of_same (less_is hl _)))
                go_wp2_with fail
                obtain ⟨w3, hw3, H3, cw3, fw3⟩ := RowIs.on HR HG nq
                rw [hw3]
                clear hw3 cw fw HR nq
                go_region
                have H4 := Lib.hid (H3.out.swap (i := i2) (j := j2) (by omega) (by omega) (HG.out _) (HG.out _))
                obtain ⟨w4, hw4⟩ : ∃ w4, (w3.setCell ⟨blk, off + i2, none⟩ (.int .u64 (G j2))).setCell ⟨blk, off + j2, none⟩ (.int .u64 (G i2)) = w4 := ⟨_, rfl⟩
                rw [hw4] at H4 ⊢
                clear hw4 cw3 fw3 H3
                have HO : Hid (partition ltInt d a b a = ((partLoop ltInt a (i2 + 1) (j2 - 1) (swp dk i2 j2)).1, false, swp (partLoop ltInt a (i2 + 1) (j2 - 1) (swp dk i2 j2)).2 (partLoop ltInt a (i2 + 1) (j2 - 1) (swp dk i2 j2)).1 a)) := Lib.hid (part_first_go ltInt d a b a HIe.out HJe.out HDe.out HI2.out HJ2.out hngt)
                obtain ⟨w5, hw5⟩ : ∃ w5, w4.drew = w5 := ⟨_, rfl⟩
                have HR : Hid (RowIs w blk off n w4.drew (swp dk i2 j2)) := Lib.hid H4.out.drew
                rw [hw5] at HR ⊢
                have hai2 : a < i2 := by omega
                have hjb2 : j2 < b := by omega
                clear hw5 H4 HG HV HU HI2 HJ2 HIe HJe HDe hl q2 q3 q4 q5 hi2 hi2j hj2 hj2i hij
                go_wp2_with fail
                obtain ⟨i0, rfl⟩ : ∃ i0, i0 = i2 := ⟨_, rfl⟩
                obtain ⟨j0, rfl⟩ : ∃ j0, j0 = j2 := ⟨_, rfl⟩
                obtain ⟨d0, rfl⟩ : ∃ d0, d0 = dk := ⟨_, rfl⟩
                go_loopw [10, 11] (fun vi vj wq => ∃ (i j : Nat) (dk : Array Int), vi = .int .i64 i ∧ vj = .int .i64 j ∧ a < i ∧ i ≤ j + 1 ∧ j + 1 ≤ b ∧ Hid (RowIs w blk off n wq dk) ∧ Hid (partLoop ltInt a i j dk = partLoop ltInt a (i0 + 1) (j0 - 1) (swp d0 i0 j0))) (fun vi vj _ => (intOf vj).toNat + 1 - (intOf vi).toNat)
                case atStart => exact ⟨i0 + 1, j0 - 1, swp d0 i0 j0, by go_num, by congr 1; omega, by omega, by omega, by omega, HR, Lib.hid rfl⟩
                case round =>
                  clear HR
                  obtain ⟨wq, rfl⟩ : ∃ wq, wq = wr := ⟨_, rfl⟩
                  obtain ⟨i, j, dk, rfl, rfl, hai, hij1, hjb, HR, HE⟩ := hrel
                  go_wp2_with fail
                  go_loopw [10] (fun vi wq => ∃ i2 : Nat, vi = .int .i64 i2 ∧ i ≤ i2 ∧ i2 ≤ j + 1 ∧ Hid (RowIs w blk off n wq dk) ∧ Hid (scanUp (fun x => ltInt x dk[a]!) dk j i2 = scanUp (fun x => ltInt x dk[a]!) dk j i)) (fun vi _ => j + 1 - (intOf vi).toNat)
                  case atStart => exact ⟨i, rfl, Nat.le_refl _, by omega, HR, Lib.hid rfl⟩
                  case round =>
                    clear HR
                    obtain ⟨wu, rfl⟩ : ∃ wu, wu = wr := ⟨_, rfl⟩
                    obtain ⟨i2, rfl, hi2, hi2j, HR, HU⟩ := hrel
                    by_cases hij : i2 ≤ j
                    · have q2 : (i2 : Int) ≤ (j : Int) := by omega
                      obtain ⟨G, cw, fw, HG⟩ := HR.out.family
                      cases hl : ltInt (G i2) (G a) with
                      | true =>
                        go_wp2_with fail
                        go_quiet (first | (go_at_call 152; refine Calls.quiet_of_same (less_is hl _)))
                        go_wp2_with fail
                        go_roundw
                        case rel => exact ⟨i2 + 1, by go_num, by omega, by omega, Lib.hid (HR.out.drewN nq), Lib.hid (by rw [← HU.out, scanUp_go (fun x => ltInt x dk[a]!) dk j i2 hij (by simp only [← HG.out, hl] <;> rfl)])⟩
                        case measure => simp [intOf]; omega
                      | false =>
                        have HI2 : Hid (i2 = scanUp (fun x => ltInt x dk[a]!) dk j i) := Lib.hid (by rw [← HU.out, scanUp_end (fun x => ltInt x dk[a]!) dk j i2 (Or.inr (by simp only [← HG.out, hl] <;> rfl))])
                        go_wp2_with fail
                        go_quiet (first | (go_at_call 152; refine Calls.quiet_of_same (less_is hl _)))
                        go_wp2_with fail
                        obtain ⟨w3, hw3, H3, cw3, fw3⟩ := RowIs.on HR HG nq
                        rw [hw3]
                        clear hw3 cw fw HR nq
                        have HR := H3
                        clear H3 HG cw3 fw3
                        go_loopw [11] (fun vj wq => ∃ j2 : Nat, vj = .int .i64 j2 ∧ j2 ≤ j ∧ i2 ≤ j2 + 1 ∧ Hid (RowIs w blk off n wq dk) ∧ Hid (scanDown (fun x => !ltInt x dk[a]!) dk i2 j2 = scanDown (fun x => !ltInt x dk[a]!) dk i2 j)) (fun vj _ => (intOf vj).toNat)
                        case atStart => exact ⟨j, rfl, Nat.le_refl _, by omega, HR, Lib.hid rfl⟩
                        case round =>
                          clear HR
                          obtain ⟨wv, rfl⟩ : ∃ wv, wv = wr := ⟨_, rfl⟩
                          obtain ⟨j2, rfl, hj2, hj2i, HR, HV⟩ := hrel
                          by_cases hij : i2 ≤ j2
                          · have q3 : (i2 : Int) ≤ (j2 : Int) := by omega
                            obtain ⟨G, cw, fw, HG⟩ := HR.out.family
                            cases hl : ltInt (G j2) (G a) with
                            | false =>
                              go_wp2_with fail
                              go_quiet (first | (go_at_call 152; refine Calls.quiet_of_same (less_is hl _)))
                              go_wp2_with fail
                              go_roundw
                              case rel => exact ⟨j2 - 1, by congr 1; omega, by omega, by omega, Lib.hid (HR.out.drewN nq), Lib.hid (by rw [← HV.out, scanDown_go (fun x => !ltInt x dk[a]!) dk i2 j2 hij (by omega) (by simp only [← HG.out, hl] <;> rfl)])⟩
                              case measure => simp [intOf]; omega
                            | true =>
                              have HJ2 : Hid (j2 = scanDown (fun x => !ltInt x dk[a]!) dk i2 j) := Lib.hid (by rw [← HV.out, scanDown_end (fun x => !ltInt x dk[a]!) dk i2 j2 (Or.inr (by simp only [← HG.out, hl] <;> rfl))])
                              have hngt : ¬ i2 > j2 := by omega
                              have hlt2 : i2 < j2 := part_scans_lt ltInt a i j dk (by omega) HI2.out HJ2.out (by omega)
                              have q4 : ¬ (j2 : Int) < (i2 : Int) := by omega
                              have q5 : decide ((j2 : Int) < (i2 : Int)) = false := decide_eq_false q4
                              go_wp2_with fail
                              go_quiet (first | (go_at_call 152; refine Calls.quiet_of_same (less_is hl _)))
                              go_wp2_with fail
                              obtain ⟨w3, hw3, H3, cw3, fw3⟩ := RowIs.on HR HG nq
                              rw [hw3]
                              clear hw3 cw fw HR nq
                              go_region
                              have H4 := Lib.hid (H3.out.swap (i := i2) (j := j2) (by omega) (by omega) (HG.out _) (HG.out _))
                              obtain ⟨w4, hw4⟩ : ∃ w4, (w3.setCell ⟨blk, off + i2, none⟩ (.int .u64 (G j2))).setCell ⟨blk, off + j2, none⟩ (.int .u64 (G i2)) = w4 := ⟨_, rfl⟩
                              rw [hw4] at H4 ⊢
                              clear hw4 cw3 fw3 H3
                              go_wp2_with fail
                              go_roundw
                              case rel => exact ⟨i2 + 1, j2 - 1, swp dk i2 j2, by go_num, by congr 1; omega, by omega, by omega, by omega, Lib.hid H4.out.drew, Lib.hid (by rw [← HE.out, part_go ltInt a i j dk HI2.out HJ2.out hngt])⟩
                              case measure => simp [intOf]; omega
                          · have q3 : decide ((i2 : Int) ≤ (j2 : Int)) = false := decide_eq_false (by omega)
                            have q4 : (j2 : Int) < (i2 : Int) := by omega
                            have q5 : decide ((j2 : Int) < (i2 : Int)) = true := decide_eq_true q4
                            have HJ2 : Hid (j2 = scanDown (fun x => !ltInt x dk[a]!) dk i2 j) := Lib.hid (by rw [← HV.out, scanDown_end (fun x => !ltInt x dk[a]!) dk i2 j2 (Or.inl hij)])
                            have hgt : j2 < i2 := by omega
                            clear HV
                            go_wp2_with fail
                            go_quiet (first | (go_at_call 152; refine Calls.quiet_of_same (less_u _ _ _)))
                            obtain ⟨w3, hw3⟩ : ∃ w3, wv.drewN nq = w3 := ⟨_, rfl⟩
                            have H3 := Lib.hid (HR.out.drewN nq)
                            rw [hw3] at H3 ⊢
                            clear HR hw3 nq
                            obtain ⟨G, cw3, fw3, HG3⟩ := H3.out.family
                            have hje : a ≤ j2 := by omega
                            by_cases hja : j2 = a
                            · have hja2 := hja.symm
                              subst hja2
                              go_wp2_with fail
                              have hv : partition ltInt d a b a = (a, false, swp dk a a) := by
                                rw [HO.out, HE.out.symm, part_break ltInt a i j dk HI2.out HJ2.out hgt]
                              go_region
                              all_goals
                                have H4 := Lib.hid (H3.out.swap (i := a) (j := a) (by omega) (by omega) (HG3.out _) (HG3.out _))
                                have hv2 := Lib.hid hv
                                clear hv
                                go_wp2_with fail
                                rw [hv2.out]
                                refine bodyPost_ret (v := .tuple #[.int .i64 a, .bool false]) (by simp [results, Try.results154, go_sem, *]) rfl ?_
                                exact ⟨rfl, H4.out.drew⟩
                            · go_wp2_with fail
                              have hv : partition ltInt d a b a = (j2, false, swp dk j2 a) := by
                                rw [HO.out, HE.out.symm, part_break ltInt a i j dk HI2.out HJ2.out hgt]
                              go_region
                              all_goals
                                have H4 := Lib.hid (H3.out.swap (i := j2) (j := a) (by omega) (by omega) (HG3.out _) (HG3.out _))
                                have hv2 := Lib.hid hv
                                clear hv
                                go_wp2_with fail
                                rw [hv2.out]
                                refine bodyPost_ret (v := .tuple #[.int .i64 j2, .bool false]) (by simp [results, Try.results154, go_sem, *]) rfl ?_
                                exact ⟨rfl, H4.out.drew⟩
                    · obtain rfl : i2 = j + 1 := by omega
                      have q2 : decide (((j + 1 : Nat) : Int) ≤ (j : Int)) = false := decide_eq_false (by omega)
                      have HI2 : Hid (j + 1 = scanUp (fun x => ltInt x dk[a]!) dk j i) := Lib.hid (by rw [← HU.out, scanUp_end (fun x => ltInt x dk[a]!) dk j (j + 1) (Or.inl (by omega))])
                      obtain ⟨i2, hi2e⟩ : ∃ i2, j + 1 = i2 := ⟨_, rfl⟩
                      rw [hi2e] at HI2 q2 hi2 ⊢
                      have hij2 : ¬ i2 ≤ j := by omega
                      have hle : i2 ≤ j + 1 := by omega
                      clear hi2j
                      clear hij HU
                      go_wp2_with fail
                      go_quiet (first | (go_at_call 152; refine Calls.quiet_of_same (less_u _ _ _)))
                      go_wp2_with fail
                      obtain ⟨w3, hw3⟩ : ∃ w3, wu.drewN nq = w3 := ⟨_, rfl⟩
                      have H3 := Lib.hid (HR.out.drewN nq)
                      rw [hw3] at H3 ⊢
                      clear HR hw3 nq
                      have HR := H3
                      clear H3 hi2e
                      go_loopw [11] (fun vj wq => ∃ j2 : Nat, vj = .int .i64 j2 ∧ j2 ≤ j ∧ i2 ≤ j2 + 1 ∧ Hid (RowIs w blk off n wq dk) ∧ Hid (scanDown (fun x => !ltInt x dk[a]!) dk i2 j2 = scanDown (fun x => !ltInt x dk[a]!) dk i2 j)) (fun vj _ => (intOf vj).toNat)
                      case atStart => exact ⟨j, rfl, Nat.le_refl _, by omega, HR, Lib.hid rfl⟩
                      case round =>
                        clear HR
                        obtain ⟨wv, rfl⟩ : ∃ wv, wv = wr := ⟨_, rfl⟩
                        obtain ⟨j2, rfl, hj2, hj2i, HR, HV⟩ := hrel
                        by_cases hij : i2 ≤ j2
                        · exfalso; omega
                        · have q3 : decide ((i2 : Int) ≤ (j2 : Int)) = false := decide_eq_false (by omega)
                          have q4 : (j2 : Int) < (i2 : Int) := by omega
                          have q5 : decide ((j2 : Int) < (i2 : Int)) = true := decide_eq_true q4
                          have HJ2 : Hid (j2 = scanDown (fun x => !ltInt x dk[a]!) dk i2 j) := Lib.hid (by rw [← HV.out, scanDown_end (fun x => !ltInt x dk[a]!) dk i2 j2 (Or.inl hij)])
                          have hgt : j2 < i2 := by omega
                          clear HV
                          go_wp2_with fail
                          go_quiet (first | (go_at_call 152; refine Calls.quiet_of_same (less_u _ _ _)))
                          obtain ⟨w3, hw3⟩ : ∃ w3, wv.drewN nq = w3 := ⟨_, rfl⟩
                          have H3 := Lib.hid (HR.out.drewN nq)
                          rw [hw3] at H3 ⊢
                          clear HR hw3 nq
                          obtain ⟨G, cw3, fw3, HG3⟩ := H3.out.family
                          have hje : a ≤ j2 := by omega
                          by_cases hja : j2 = a
                          · have hja2 := hja.symm
                            subst hja2
                            go_wp2_with fail
                            have hv : partition ltInt d a b a = (a, false, swp dk a a) := by
                              rw [HO.out, HE.out.symm, part_break ltInt a i j dk HI2.out HJ2.out hgt]
                            go_region
                            all_goals
                              have H4 := Lib.hid (H3.out.swap (i := a) (j := a) (by omega) (by omega) (HG3.out _) (HG3.out _))
                              have hv2 := Lib.hid hv
                              clear hv
                              go_wp2_with fail
                              rw [hv2.out]
                              refine bodyPost_ret (v := .tuple #[.int .i64 a, .bool false]) (by simp [results, Try.results154, go_sem, *]) rfl ?_
                              exact ⟨rfl, H4.out.drew⟩
                          · go_wp2_with fail
                            have hv : partition ltInt d a b a = (j2, false, swp dk j2 a) := by
                              rw [HO.out, HE.out.symm, part_break ltInt a i j dk HI2.out HJ2.out hgt]
                            go_region
                            all_goals
                              have H4 := Lib.hid (H3.out.swap (i := j2) (j := a) (by omega) (by omega) (HG3.out _) (HG3.out _))
                              have hv2 := Lib.hid hv
                              clear hv
                              go_wp2_with fail
                              rw [hv2.out]
                              refine bodyPost_ret (v := .tuple #[.int .i64 j2, .bool false]) (by simp [results, Try.results154, go_sem, *]) rfl ?_
                              exact ⟨rfl, H4.out.drew⟩
            · have q3 : decide ((i2 : Int) ≤ (j2 : Int)) = false := decide_eq_false (by omega)
              have q4 : (j2 : Int) < (i2 : Int) := by omega
              have q5 : decide ((j2 : Int) < (i2 : Int)) = true := decide_eq_true q4
              have HJ2 : Hid (j2 = scanDown (fun x => !ltInt x dk[a]!) dk i2 j) := Lib.hid (by rw [← HV.out, scanDown_end (fun x => !ltInt x dk[a]!) dk i2 j2 (Or.inl hij)])
              have hgt : j2 < i2 := by omega
              clear HV
              go_wp2_with fail
              go_quiet (first | (go_at_call 152; refine Calls.quiet_of_same (less_u _ _ _)))
              obtain ⟨w3, hw3⟩ : ∃ w3, wv.drewN nq = w3 := ⟨_, rfl⟩
              have H3 := Lib.hid (HR.out.drewN nq)
              rw [hw3] at H3 ⊢
              clear HR hw3 nq
              obtain ⟨G, cw3, fw3, HG3⟩ := H3.out.family
              have hje : a ≤ j2 := by omega
              by_cases hja : j2 = a
              · have hja2 := hja.symm
                subst hja2
                go_wp2_with fail
                have hv : partition ltInt d a b a = (a, true, swp dk a a) := part_first_break ltInt d a b a HIe.out HJe.out HDe.out HI2.out HJ2.out hgt
                go_region
                all_goals
                  have H4 := Lib.hid (H3.out.swap (i := a) (j := a) (by omega) (by omega) (HG3.out _) (HG3.out _))
                  have hv2 := Lib.hid hv
                  clear hv
                  go_wp2_with fail
                  rw [hv2.out]
                  refine bodyPost_ret (v := .tuple #[.int .i64 a, .bool true]) (by simp [results, Try.results154, go_sem, *]) rfl ?_
                  exact ⟨rfl, H4.out.drew⟩
              · go_wp2_with fail
                have hv : partition ltInt d a b a = (j2, true, swp dk j2 a) := part_first_break ltInt d a b a HIe.out HJe.out HDe.out HI2.out HJ2.out hgt
                go_region
                all_goals
                  have H4 := Lib.hid (H3.out.swap (i := j2) (j := a) (by omega) (by omega) (HG3.out _) (HG3.out _))
                  have hv2 := Lib.hid hv
                  clear hv
                  go_wp2_with fail
                  rw [hv2.out]
                  refine bodyPost_ret (v := .tuple #[.int .i64 j2, .bool true]) (by simp [results, Try.results154, go_sem, *]) rfl ?_
                  exact ⟨rfl, H4.out.drew⟩
      · obtain rfl : i2 = j + 1 := by omega
        have q2 : decide (((j + 1 : Nat) : Int) ≤ (j : Int)) = false := decide_eq_false (by omega)
        have HI2 : Hid (j + 1 = scanUp (fun x => ltInt x dk[a]!) dk j i) := Lib.hid (by rw [← HU.out, scanUp_end (fun x => ltInt x dk[a]!) dk j (j + 1) (Or.inl (by omega))])
        obtain ⟨i2, hi2e⟩ : ∃ i2, j + 1 = i2 := ⟨_, rfl⟩
        rw [hi2e] at HI2 q2 hi2 ⊢
        have hij2 : ¬ i2 ≤ j := by omega
        have hle : i2 ≤ j + 1 := by omega
        clear hi2j
        clear hij HU
        go_wp2_with fail
        go_quiet (first | (go_at_call 152; refine Calls.quiet_of_same (less_u _ _ _)))
        go_wp2_with fail
        obtain ⟨w3, hw3⟩ : ∃ w3, wu.drewN nq = w3 := ⟨_, rfl⟩
        have H3 := Lib.hid (HR.out.drewN nq)
        rw [hw3] at H3 ⊢
        clear HR hw3 nq
        have HR := H3
        clear H3 hi2e
        go_loopw [11] (fun vj wq => ∃ j2 : Nat, vj = .int .i64 j2 ∧ j2 ≤ j ∧ i2 ≤ j2 + 1 ∧ Hid (RowIs w blk off n wq dk) ∧ Hid (scanDown (fun x => !ltInt x dk[a]!) dk i2 j2 = scanDown (fun x => !ltInt x dk[a]!) dk i2 j)) (fun vj _ => (intOf vj).toNat)
        case atStart => exact ⟨j, rfl, Nat.le_refl _, by omega, HR, Lib.hid rfl⟩
        case round =>
          clear HR
          obtain ⟨wv, rfl⟩ : ∃ wv, wv = wr := ⟨_, rfl⟩
          obtain ⟨j2, rfl, hj2, hj2i, HR, HV⟩ := hrel
          by_cases hij : i2 ≤ j2
          · exfalso; omega
          · have q3 : decide ((i2 : Int) ≤ (j2 : Int)) = false := decide_eq_false (by omega)
            have q4 : (j2 : Int) < (i2 : Int) := by omega
            have q5 : decide ((j2 : Int) < (i2 : Int)) = true := decide_eq_true q4
            have HJ2 : Hid (j2 = scanDown (fun x => !ltInt x dk[a]!) dk i2 j) := Lib.hid (by rw [← HV.out, scanDown_end (fun x => !ltInt x dk[a]!) dk i2 j2 (Or.inl hij)])
            have hgt : j2 < i2 := by omega
            clear HV
            go_wp2_with fail
            go_quiet (first | (go_at_call 152; refine Calls.quiet_of_same (less_u _ _ _)))
            obtain ⟨w3, hw3⟩ : ∃ w3, wv.drewN nq = w3 := ⟨_, rfl⟩
            have H3 := Lib.hid (HR.out.drewN nq)
            rw [hw3] at H3 ⊢
            clear HR hw3 nq
            obtain ⟨G, cw3, fw3, HG3⟩ := H3.out.family
            have hje : a ≤ j2 := by omega
            by_cases hja : j2 = a
            · have hja2 := hja.symm
              subst hja2
              go_wp2_with fail
              have hv : partition ltInt d a b a = (a, true, swp dk a a) := part_first_break ltInt d a b a HIe.out HJe.out HDe.out HI2.out HJ2.out hgt
              go_region
              all_goals
                have H4 := Lib.hid (H3.out.swap (i := a) (j := a) (by omega) (by omega) (HG3.out _) (HG3.out _))
                have hv2 := Lib.hid hv
                clear hv
                go_wp2_with fail
                rw [hv2.out]
                refine bodyPost_ret (v := .tuple #[.int .i64 a, .bool true]) (by simp [results, Try.results154, go_sem, *]) rfl ?_
                exact ⟨rfl, H4.out.drew⟩
            · go_wp2_with fail
              have hv : partition ltInt d a b a = (j2, true, swp dk j2 a) := part_first_break ltInt d a b a HIe.out HJe.out HDe.out HI2.out HJ2.out hgt
              go_region
              all_goals
                have H4 := Lib.hid (H3.out.swap (i := j2) (j := a) (by omega) (by omega) (HG3.out _) (HG3.out _))
                have hv2 := Lib.hid hv
                clear hv
                go_wp2_with fail
                rw [hv2.out]
                refine bodyPost_ret (v := .tuple #[.int .i64 j2, .bool true]) (by simp [results, Try.results154, go_sem, *]) rfl ?_
                exact ⟨rfl, H4.out.drew⟩
  · skip
    skip
    go_wp2_with fail
    go_region
    have H4 := Lib.hid (HR.out.swap (i := a) (j := pivot) (by omega) (by omega) (HG.out _) (HG.out _))
    obtain ⟨w4, hw4⟩ : ∃ w4, (wr.setCell ⟨blk, off + a, none⟩ (.int .u64 (G pivot))).setCell ⟨blk, off + pivot, none⟩ (.int .u64 (G a)) = w4 := ⟨_, rfl⟩
    rw [hw4] at H4 ⊢
    clear hw4 cw fw HR
    obtain ⟨w5, hw5⟩ : ∃ w5, w4.drew = w5 := ⟨_, rfl⟩
    have HR : Hid (RowIs w blk off n w4.drew (swp d a pivot)) := Lib.hid H4.out.drew
    rw [hw5] at HR ⊢
    clear hw5 H4 HG
    go_wp2_with fail
    obtain ⟨dk, HDe'⟩ : ∃ dk, dk = swp d a pivot := ⟨_, rfl⟩
    rw [← HDe'] at HR
    have HDe := Lib.hid HDe'
    obtain ⟨i, HIe'⟩ : ∃ i, i = a + 1 := ⟨_, rfl⟩
    obtain ⟨j, HJe'⟩ : ∃ j, j = b - 1 := ⟨_, rfl⟩
    have HIe := Lib.hid HIe'
    have HJe := Lib.hid HJe'
    have hai : a < i := by omega
    have hjb : j + 1 = b := by omega
    have hij1 : i ≤ j + 1 := by omega
    rw [show (a : Int) + 1 = (i : Int) by omega, show (b : Int) - 1 = (j : Int) by omega]
    clear HDe' HIe' HJe'
    go_loopw [10] (fun vi wq => ∃ i2 : Nat, vi = .int .i64 i2 ∧ i ≤ i2 ∧ i2 ≤ j + 1 ∧ Hid (RowIs w blk off n wq dk) ∧ Hid (scanUp (fun x => ltInt x dk[a]!) dk j i2 = scanUp (fun x => ltInt x dk[a]!) dk j i)) (fun vi _ => j + 1 - (intOf vi).toNat)
    case atStart => exact ⟨i, rfl, Nat.le_refl _, by omega, HR, Lib.hid rfl⟩
    case round =>
      clear HR
      obtain ⟨wu, rfl⟩ : ∃ wu, wu = wr := ⟨_, rfl⟩
      obtain ⟨i2, rfl, hi2, hi2j, HR, HU⟩ := hrel
      by_cases hij : i2 ≤ j
      · have q2 : (i2 : Int) ≤ (j : Int) := by omega
        obtain ⟨G, cw, fw, HG⟩ := HR.out.family
        cases hl : ltInt (G i2) (G a) with
        | true =>
          go_wp2_with fail
          go_quiet (first | (go_at_call 152; refine Calls.quiet_of_same (less_is hl _)))
          go_wp2_with fail
          go_roundw
          case rel => exact ⟨i2 + 1, by go_num, by omega, by omega, Lib.hid (HR.out.drewN nq), Lib.hid (by rw [← HU.out, scanUp_go (fun x => ltInt x dk[a]!) dk j i2 hij (by simp only [← HG.out, hl] <;> rfl)])⟩
          case measure => simp [intOf]; omega
        | false =>
          have HI2 : Hid (i2 = scanUp (fun x => ltInt x dk[a]!) dk j i) := Lib.hid (by rw [← HU.out, scanUp_end (fun x => ltInt x dk[a]!) dk j i2 (Or.inr (by simp only [← HG.out, hl] <;> rfl))])
          go_wp2_with fail
          go_quiet (first | (go_at_call 152; refine Calls.quiet_of_same (less_is hl _)))
          go_wp2_with fail
          obtain ⟨w3, hw3, H3, cw3, fw3⟩ := RowIs.on HR HG nq
          rw [hw3]
          clear hw3 cw fw HR nq
          have HR := H3
          clear H3 HG cw3 fw3
          go_loopw [11] (fun vj wq => ∃ j2 : Nat, vj = .int .i64 j2 ∧ j2 ≤ j ∧ i2 ≤ j2 + 1 ∧ Hid (RowIs w blk off n wq dk) ∧ Hid (scanDown (fun x => !ltInt x dk[a]!) dk i2 j2 = scanDown (fun x => !ltInt x dk[a]!) dk i2 j)) (fun vj _ => (intOf vj).toNat)
          case atStart => exact ⟨j, rfl, Nat.le_refl _, by omega, HR, Lib.hid rfl⟩
          case round =>
            clear HR
            obtain ⟨wv, rfl⟩ : ∃ wv, wv = wr := ⟨_, rfl⟩
            obtain ⟨j2, rfl, hj2, hj2i, HR, HV⟩ := hrel
            by_cases hij : i2 ≤ j2
            · have q3 : (i2 : Int) ≤ (j2 : Int) := by omega
              obtain ⟨G, cw, fw, HG⟩ := HR.out.family
              cases hl : ltInt (G j2) (G a) with
              | false =>
                go_wp2_with fail
                go_quiet (first | (go_at_call 152; refine Calls.quiet_of_same (less_is hl _)))
                go_wp2_with fail
                go_roundw
                case rel => exact ⟨j2 - 1, by congr 1; omega, by omega, by omega, Lib.hid (HR.out.drewN nq), Lib.hid (by rw [← HV.out, scanDown_go (fun x => !ltInt x dk[a]!) dk i2 j2 hij (by omega) (by simp only [← HG.out, hl] <;> rfl)])⟩
                case measure => simp [intOf]; omega
              | true =>
                have HJ2 : Hid (j2 = scanDown (fun x => !ltInt x dk[a]!) dk i2 j) := Lib.hid (by rw [← HV.out, scanDown_end (fun x => !ltInt x dk[a]!) dk i2 j2 (Or.inr (by simp only [← HG.out, hl] <;> rfl))])
                have hngt : ¬ i2 > j2 := by omega
                have hlt2 : i2 < j2 := part_scans_lt ltInt a i j dk (by omega) HI2.out HJ2.out (by omega)
                have q4 : ¬ (j2 : Int) < (i2 : Int) := by omega
                have q5 : decide ((j2 : Int) < (i2 : Int)) = false := decide_eq_false q4
                go_wp2_with fail
                go_quiet (first | (go_at_call 152; refine Calls.quiet_of_same (less_is hl _)))
                go_wp2_with fail
                obtain ⟨w3, hw3, H3, cw3, fw3⟩ := RowIs.on HR HG nq
                rw [hw3]
                clear hw3 cw fw HR nq
                go_region
                have H4 := Lib.hid (H3.out.swap (i := i2) (j := j2) (by omega) (by omega) (HG.out _) (HG.out _))
                obtain ⟨w4, hw4⟩ : ∃ w4, (w3.setCell ⟨blk, off + i2, none⟩ (.int .u64 (G j2))).setCell ⟨blk, off + j2, none⟩ (.int .u64 (G i2)) = w4 := ⟨_, rfl⟩
                rw [hw4] at H4 ⊢
                clear hw4 cw3 fw3 H3
                have HO : Hid (partition ltInt d a b pivot = ((partLoop ltInt a (i2 + 1) (j2 - 1) (swp dk i2 j2)).1, false, swp (partLoop ltInt a (i2 + 1) (j2 - 1) (swp dk i2 j2)).2 (partLoop ltInt a (i2 + 1) (j2 - 1) (swp dk i2 j2)).1 a)) := Lib.hid (part_first_go ltInt d a b pivot HIe.out HJe.out HDe.out HI2.out HJ2.out hngt)
                obtain ⟨w5, hw5⟩ : ∃ w5, w4.drew = w5 := ⟨_, rfl⟩
                have HR : Hid (RowIs w blk off n w4.drew (swp dk i2 j2)) := Lib.hid H4.out.drew
                rw [hw5] at HR ⊢
                have hai2 : a < i2 := by omega
                have hjb2 : j2 < b := by omega
                clear hw5 H4 HG HV HU HI2 HJ2 HIe HJe HDe hl q2 q3 q4 q5 hi2 hi2j hj2 hj2i hij
                go_wp2_with fail
                obtain ⟨i0, rfl⟩ : ∃ i0, i0 = i2 := ⟨_, rfl⟩
                obtain ⟨j0, rfl⟩ : ∃ j0, j0 = j2 := ⟨_, rfl⟩
                obtain ⟨d0, rfl⟩ : ∃ d0, d0 = dk := ⟨_, rfl⟩
                go_loopw [10, 11] (fun vi vj wq => ∃ (i j : Nat) (dk : Array Int), vi = .int .i64 i ∧ vj = .int .i64 j ∧ a < i ∧ i ≤ j + 1 ∧ j + 1 ≤ b ∧ Hid (RowIs w blk off n wq dk) ∧ Hid (partLoop ltInt a i j dk = partLoop ltInt a (i0 + 1) (j0 - 1) (swp d0 i0 j0))) (fun vi vj _ => (intOf vj).toNat + 1 - (intOf vi).toNat)
                case atStart => exact ⟨i0 + 1, j0 - 1, swp d0 i0 j0, by go_num, by congr 1; omega, by omega, by omega, by omega, HR, Lib.hid rfl⟩
                case round =>
                  clear HR
                  obtain ⟨wq, rfl⟩ : ∃ wq, wq = wr := ⟨_, rfl⟩
                  obtain ⟨i, j, dk, rfl, rfl, hai, hij1, hjb, HR, HE⟩ := hrel
                  go_wp2_with fail
                  go_loopw [10] (fun vi wq => ∃ i2 : Nat, vi = .int .i64 i2 ∧ i ≤ i2 ∧ i2 ≤ j + 1 ∧ Hid (RowIs w blk off n wq dk) ∧ Hid (scanUp (fun x => ltInt x dk[a]!) dk j i2 = scanUp (fun x => ltInt x dk[a]!) dk j i)) (fun vi _ => j + 1 - (intOf vi).toNat)
                  case atStart => exact ⟨i, rfl, Nat.le_refl _, by omega, HR, Lib.hid rfl⟩
                  case round =>
                    clear HR
                    obtain ⟨wu, rfl⟩ : ∃ wu, wu = wr := ⟨_, rfl⟩
                    obtain ⟨i2, rfl, hi2, hi2j, HR, HU⟩ := hrel
                    by_cases hij : i2 ≤ j
                    · have q2 : (i2 : Int) ≤ (j : Int) := by omega
                      obtain ⟨G, cw, fw, HG⟩ := HR.out.family
                      cases hl : ltInt (G i2) (G a) with
                      | true =>
                        go_wp2_with fail
                        go_quiet (first | (go_at_call 152; refine Calls.quiet_of_same (less_is hl _)))
                        go_wp2_with fail
                        go_roundw
                        case rel => exact ⟨i2 + 1, by go_num, by omega, by omega, Lib.hid (HR.out.drewN nq), Lib.hid (by rw [← HU.out, scanUp_go (fun x => ltInt x dk[a]!) dk j i2 hij (by simp only [← HG.out, hl] <;> rfl)])⟩
                        case measure => simp [intOf]; omega
                      | false =>
                        have HI2 : Hid (i2 = scanUp (fun x => ltInt x dk[a]!) dk j i) := Lib.hid (by rw [← HU.out, scanUp_end (fun x => ltInt x dk[a]!) dk j i2 (Or.inr (by simp only [← HG.out, hl] <;> rfl))])
                        go_wp2_with fail
                        go_quiet (first | (go_at_call 152; refine Calls.quiet_of_same (less_is hl _)))
                        go_wp2_with fail
                        obtain ⟨w3, hw3, H3, cw3, fw3⟩ := RowIs.on HR HG nq
                        rw [hw3]
                        clear hw3 cw fw HR nq
                        have HR := H3
                        clear H3 HG cw3 fw3
                        go_loopw [11] (fun vj wq => ∃ j2 : Nat, vj = .int .i64 j2 ∧ j2 ≤ j ∧ i2 ≤ j2 + 1 ∧ Hid (RowIs w blk off n wq dk) ∧ Hid (scanDown (fun x => !ltInt x dk[a]!) dk i2 j2 = scanDown (fun x => !ltInt x dk[a]!) dk i2 j)) (fun vj _ => (intOf vj).toNat)
                        case atStart => exact ⟨j, rfl, Nat.le_refl _, by omega, HR, Lib.hid rfl⟩
                        case round =>
                          clear HR
                          obtain ⟨wv, rfl⟩ : ∃ wv, wv = wr := ⟨_, rfl⟩
                          obtain ⟨j2, rfl, hj2, hj2i, HR, HV⟩ := hrel
                          by_cases hij : i2 ≤ j2
                          · have q3 : (i2 : Int) ≤ (j2 : Int) := by omega
                            obtain ⟨G, cw, fw, HG⟩ := HR.out.family
                            cases hl : ltInt (G j2) (G a) with
                            | false =>
                              go_wp2_with fail
                              go_quiet (first | (go_at_call 152; refine Calls.quiet_of_same (less_is hl _)))
                              go_wp2_with fail
                              go_roundw
                              case rel => exact ⟨j2 - 1, by congr 1; omega, by omega, by omega, Lib.hid (HR.out.drewN nq), Lib.hid (by rw [← HV.out, scanDown_go (fun x => !ltInt x dk[a]!) dk i2 j2 hij (by omega) (by simp only [← HG.out, hl] <;> rfl)])⟩
                              case measure => simp [intOf]; omega
                            | true =>
                              have HJ2 : Hid (j2 = scanDown (fun x => !ltInt x dk[a]!) dk i2 j) := Lib.hid (by rw [← HV.out, scanDown_end (fun x => !ltInt x dk[a]!) dk i2 j2 (Or.inr (by simp only [← HG.out, hl] <;> rfl))])
                              have hngt : ¬ i2 > j2 := by omega
                              have hlt2 : i2 < j2 := part_scans_lt ltInt a i j dk (by omega) HI2.out HJ2.out (by omega)
                              have q4 : ¬ (j2 : Int) < (i2 : Int) := by omega
                              have q5 : decide ((j2 : Int) < (i2 : Int)) = false := decide_eq_false q4
                              go_wp2_with fail
                              go_quiet (first | (go_at_call 152; refine Calls.quiet_of_same (less_is hl _)))
                              go_wp2_with fail
                              obtain ⟨w3, hw3, H3, cw3, fw3⟩ := RowIs.on HR HG nq
                              rw [hw3]
                              clear hw3 cw fw HR nq
                              go_region
                              have H4 := Lib.hid (H3.out.swap (i := i2) (j := j2) (by omega) (by omega) (HG.out _) (HG.out _))
                              obtain ⟨w4, hw4⟩ : ∃ w4, (w3.setCell ⟨blk, off + i2, none⟩ (.int .u64 (G j2))).setCell ⟨blk, off + j2, none⟩ (.int .u64 (G i2)) = w4 := ⟨_, rfl⟩
                              rw [hw4] at H4 ⊢
                              clear hw4 cw3 fw3 H3
                              go_wp2_with fail
                              go_roundw
                              case rel => exact ⟨i2 + 1, j2 - 1, swp dk i2 j2, by go_num, by congr 1; omega, by omega, by omega, by omega, Lib.hid H4.out.drew, Lib.hid (by rw [← HE.out, part_go ltInt a i j dk HI2.out HJ2.out hngt])⟩
                              case measure => simp [intOf]; omega
                          · have q3 : decide ((i2 : Int) ≤ (j2 : Int)) = false := decide_eq_false (by omega)
                            have q4 : (j2 : Int) < (i2 : Int) := by omega
                            have q5 : decide ((j2 : Int) < (i2 : Int)) = true := decide_eq_true q4
                            have HJ2 : Hid (j2 = scanDown (fun x => !ltInt x dk[a]!) dk i2 j) := Lib.hid (by rw [← HV.out, scanDown_end (fun x => !ltInt x dk[a]!) dk i2 j2 (Or.inl hij)])
                            have hgt : j2 < i2 := by omega
                            clear HV
                            go_wp2_with fail
                            go_quiet (first | (go_at_call 152; refine Calls.quiet_of_same (less_u _ _ _)))
                            obtain ⟨w3, hw3⟩ : ∃ w3, wv.drewN nq = w3 := ⟨_, rfl⟩
                            have H3 := Lib.hid (HR.out.drewN nq)
                            rw [hw3] at H3 ⊢
                            clear HR hw3 nq
                            obtain ⟨G, cw3, fw3, HG3⟩ := H3.out.family
                            have hje : a ≤ j2 := by omega
                            by_cases hja : j2 = a
                            · have hja2 := hja.symm
                              subst hja2
                              go_wp2_with fail
                              have hv : partition ltInt d a b pivot = (a, false, swp dk a a) := by
                                rw [HO.out, HE.out.symm, part_break ltInt a i j dk HI2.out HJ2.out hgt]
                              go_region
                              all_goals
                                have H4 := Lib.hid (H3.out.swap (i := a) (j := a) (by omega) (by omega) (HG3.out _) (HG3.out _))
                                have hv2 := Lib.hid hv
                                clear hv
                                go_wp2_with fail
                                rw [hv2.out]
                                refine bodyPost_ret (v := .tuple #[.int .i64 a, .bool false]) (by simp [results, Try.results154, go_sem, *]) rfl ?_
                                exact ⟨rfl, H4.out.drew⟩
                            · go_wp2_with fail
                              have hv : partition ltInt d a b pivot = (j2, false, swp dk j2 a) := by
                                rw [HO.out, HE.out.symm, part_break ltInt a i j dk HI2.out HJ2.out hgt]
                              go_region
                              all_goals
                                have H4 := Lib.hid (H3.out.swap (i := j2) (j := a) (by omega) (by omega) (HG3.out _) (HG3.out _))
                                have hv2 := Lib.hid hv
                                clear hv
                                go_wp2_with fail
                                rw [hv2.out]
                                refine bodyPost_ret (v := .tuple #[.int .i64 j2, .bool false]) (by simp [results, Try.results154, go_sem, *]) rfl ?_
                                exact ⟨rfl, H4.out.drew⟩
                    · obtain rfl : i2 = j + 1 := by omega
                      have q2 : decide (((j + 1 : Nat) : Int) ≤ (j : Int)) = false := decide_eq_false (by omega)
                      have HI2 : Hid (j + 1 = scanUp (fun x => ltInt x dk[a]!) dk j i) := Lib.hid (by rw [← HU.out, scanUp_end (fun x => ltInt x dk[a]!) dk j (j + 1) (Or.inl (by omega))])
                      obtain ⟨i2, hi2e⟩ : ∃ i2, j + 1 = i2 := ⟨_, rfl⟩
                      rw [hi2e] at HI2 q2 hi2 ⊢
                      have hij2 : ¬ i2 ≤ j := by omega
                      have hle : i2 ≤ j + 1 := by omega
                      clear hi2j
                      clear hij HU
                      go_wp2_with fail
                      go_quiet (first | (go_at_call 152; refine Calls.quiet_of_same (less_u _ _ _)))
                      go_wp2_with fail
                      obtain ⟨w3, hw3⟩ : ∃ w3, wu.drewN nq = w3 := ⟨_, rfl⟩
                      have H3 := Lib.hid (HR.out.drewN nq)
                      rw [hw3] at H3 ⊢
                      clear HR hw3 nq
                      have HR := H3
                      clear H3 hi2e
                      go_loopw [11] (fun vj wq => ∃ j2 : Nat, vj = .int .i64 j2 ∧ j2 ≤ j ∧ i2 ≤ j2 + 1 ∧ Hid (RowIs w blk off n wq dk) ∧ Hid (scanDown (fun x => !ltInt x dk[a]!) dk i2 j2 = scanDown (fun x => !ltInt x dk[a]!) dk i2 j)) (fun vj _ => (intOf vj).toNat)
                      case atStart => exact ⟨j, rfl, Nat.le_refl _, by omega, HR, Lib.hid rfl⟩
                      case round =>
                        clear HR
                        obtain ⟨wv, rfl⟩ : ∃ wv, wv = wr := ⟨_, rfl⟩
                        obtain ⟨j2, rfl, hj2, hj2i, HR, HV⟩ := hrel
                        by_cases hij : i2 ≤ j2
                        · exfalso; omega
                        · have q3 : decide ((i2 : Int) ≤ (j2 : Int)) = false := decide_eq_false (by omega)
                          have q4 : (j2 : Int) < (i2 : Int) := by omega
                          have q5 : decide ((j2 : Int) < (i2 : Int)) = true := decide_eq_true q4
                          have HJ2 : Hid (j2 = scanDown (fun x => !ltInt x dk[a]!) dk i2 j) := Lib.hid (by rw [← HV.out, scanDown_end (fun x => !ltInt x dk[a]!) dk i2 j2 (Or.inl hij)])
                          have hgt : j2 < i2 := by omega
                          clear HV
                          go_wp2_with fail
                          go_quiet (first | (go_at_call 152; refine Calls.quiet_of_same (less_u _ _ _)))
                          obtain ⟨w3, hw3⟩ : ∃ w3, wv.drewN nq = w3 := ⟨_, rfl⟩
                          have H3 := Lib.hid (HR.out.drewN nq)
                          rw [hw3] at H3 ⊢
                          clear HR hw3 nq
                          obtain ⟨G, cw3, fw3, HG3⟩ := H3.out.family
                          have hje : a ≤ j2 := by omega
                          by_cases hja : j2 = a
                          · have hja2 := hja.symm
                            subst hja2
                            go_wp2_with fail
                            have hv : partition ltInt d a b pivot = (a, false, swp dk a a) := by
                              rw [HO.out, HE.out.symm, part_break ltInt a i j dk HI2.out HJ2.out hgt]
                            go_region
                            all_goals
                              have H4 := Lib.hid (H3.out.swap (i := a) (j := a) (by omega) (by omega) (HG3.out _) (HG3.out _))
                              have hv2 := Lib.hid hv
                              clear hv
                              go_wp2_with fail
                              rw [hv2.out]
                              refine bodyPost_ret (v := .tuple #[.int .i64 a, .bool false]) (by simp [results, Try.results154, go_sem, *]) rfl ?_
                              exact ⟨rfl, H4.out.drew⟩
                          · go_wp2_with fail
                            have hv : partition ltInt d a b pivot = (j2, false, swp dk j2 a) := by
                              rw [HO.out, HE.out.symm, part_break ltInt a i j dk HI2.out HJ2.out hgt]
                            go_region
                            all_goals
                              have H4 := Lib.hid (H3.out.swap (i := j2) (j := a) (by omega) (by omega) (HG3.out _) (HG3.out _))
                              have hv2 := Lib.hid hv
                              clear hv
                              go_wp2_with fail
                              rw [hv2.out]
                              refine bodyPost_ret (v := .tuple #[.int .i64 j2, .bool false]) (by simp [results, Try.results154, go_sem, *]) rfl ?_
                              exact ⟨rfl, H4.out.drew⟩
            · have q3 : decide ((i2 : Int) ≤ (j2 : Int)) = false := decide_eq_false (by omega)
              have q4 : (j2 : Int) < (i2 : Int) := by omega
              have q5 : decide ((j2 : Int) < (i2 : Int)) = true := decide_eq_true q4
              have HJ2 : Hid (j2 = scanDown (fun x => !ltInt x dk[a]!) dk i2 j) := Lib.hid (by rw [← HV.out, scanDown_end (fun x => !ltInt x dk[a]!) dk i2 j2 (Or.inl hij)])
              have hgt : j2 < i2 := by omega
              clear HV
              go_wp2_with fail
              go_quiet (first | (go_at_call 152; refine Calls.quiet_of_same (less_u _ _ _)))
              obtain ⟨w3, hw3⟩ : ∃ w3, wv.drewN nq = w3 := ⟨_, rfl⟩
              have H3 := Lib.hid (HR.out.drewN nq)
              rw [hw3] at H3 ⊢
              clear HR hw3 nq
              obtain ⟨G, cw3, fw3, HG3⟩ := H3.out.family
              have hje : a ≤ j2 := by omega
              by_cases hja : j2 = a
              · have hja2 := hja.symm
                subst hja2
                go_wp2_with fail
                have hv : partition ltInt d a b pivot = (a, true, swp dk a a) := part_first_break ltInt d a b pivot HIe.out HJe.out HDe.out HI2.out HJ2.out hgt
                go_region
                all_goals
                  have H4 := Lib.hid (H3.out.swap (i := a) (j := a) (by omega) (by omega) (HG3.out _) (HG3.out _))
                  have hv2 := Lib.hid hv
                  clear hv
                  go_wp2_with fail
                  rw [hv2.out]
                  refine bodyPost_ret (v := .tuple #[.int .i64 a, .bool true]) (by simp [results, Try.results154, go_sem, *]) rfl ?_
                  exact ⟨rfl, H4.out.drew⟩
              · go_wp2_with fail
                have hv : partition ltInt d a b pivot = (j2, true, swp dk j2 a) := part_first_break ltInt d a b pivot HIe.out HJe.out HDe.out HI2.out HJ2.out hgt
                go_region
                all_goals
                  have H4 := Lib.hid (H3.out.swap (i := j2) (j := a) (by omega) (by omega) (HG3.out _) (HG3.out _))
                  have hv2 := Lib.hid hv
                  clear hv
                  go_wp2_with fail
                  rw [hv2.out]
                  refine bodyPost_ret (v := .tuple #[.int .i64 j2, .bool true]) (by simp [results, Try.results154, go_sem, *]) rfl ?_
                  exact ⟨rfl, H4.out.drew⟩
      · obtain rfl : i2 = j + 1 := by omega
        have q2 : decide (((j + 1 : Nat) : Int) ≤ (j : Int)) = false := decide_eq_false (by omega)
        have HI2 : Hid (j + 1 = scanUp (fun x => ltInt x dk[a]!) dk j i) := Lib.hid (by rw [← HU.out, scanUp_end (fun x => ltInt x dk[a]!) dk j (j + 1) (Or.inl (by omega))])
        obtain ⟨i2, hi2e⟩ : ∃ i2, j + 1 = i2 := ⟨_, rfl⟩
        rw [hi2e] at HI2 q2 hi2 ⊢
        have hij2 : ¬ i2 ≤ j := by omega
        have hle : i2 ≤ j + 1 := by omega
        clear hi2j
        clear hij HU
        go_wp2_with fail
        go_quiet (first | (go_at_call 152; refine Calls.quiet_of_same (less_u _ _ _)))
        go_wp2_with fail
        obtain ⟨w3, hw3⟩ : ∃ w3, wu.drewN nq = w3 := ⟨_, rfl⟩
        have H3 := Lib.hid (HR.out.drewN nq)
        rw [hw3] at H3 ⊢
        clear HR hw3 nq
        have HR := H3
        clear H3 hi2e
        go_loopw [11] (fun vj wq => ∃ j2 : Nat, vj = .int .i64 j2 ∧ j2 ≤ j ∧ i2 ≤ j2 + 1 ∧ Hid (RowIs w blk off n wq dk) ∧ Hid (scanDown (fun x => !ltInt x dk[a]!) dk i2 j2 = scanDown (fun x => !ltInt x dk[a]!) dk i2 j)) (fun vj _ => (intOf vj).toNat)
        case atStart => exact ⟨j, rfl, Nat.le_refl _, by omega, HR, Lib.hid rfl⟩
        case round =>
          clear HR
          obtain ⟨wv, rfl⟩ : ∃ wv, wv = wr := ⟨_, rfl⟩
          obtain ⟨j2, rfl, hj2, hj2i, HR, HV⟩ := hrel
          by_cases hij : i2 ≤ j2
          · exfalso; omega
          · have q3 : decide ((i2 : Int) ≤ (j2 : Int)) = false := decide_eq_false (by omega)
            have q4 : (j2 : Int) < (i2 : Int) := by omega
            have q5 : decide ((j2 : Int) < (i2 : Int)) = true := decide_eq_true q4
            have HJ2 : Hid (j2 = scanDown (fun x => !ltInt x dk[a]!) dk i2 j) := Lib.hid (by rw [← HV.out, scanDown_end (fun x => !ltInt x dk[a]!) dk i2 j2 (Or.inl hij)])
            have hgt : j2 < i2 := by omega
            clear HV
            go_wp2_with fail
            go_quiet (first | (go_at_call 152; refine Calls.quiet_of_same (less_u _ _ _)))
            obtain ⟨w3, hw3⟩ : ∃ w3, wv.drewN nq = w3 := ⟨_, rfl⟩
            have H3 := Lib.hid (HR.out.drewN nq)
            rw [hw3] at H3 ⊢
            clear HR hw3 nq
            obtain ⟨G, cw3, fw3, HG3⟩ := H3.out.family
            have hje : a ≤ j2 := by omega
            by_cases hja : j2 = a
            · have hja2 := hja.symm
              subst hja2
              go_wp2_with fail
              have hv : partition ltInt d a b pivot = (a, true, swp dk a a) := part_first_break ltInt d a b pivot HIe.out HJe.out HDe.out HI2.out HJ2.out hgt
              go_region
              all_goals
                have H4 := Lib.hid (H3.out.swap (i := a) (j := a) (by omega) (by omega) (HG3.out _) (HG3.out _))
                have hv2 := Lib.hid hv
                clear hv
                go_wp2_with fail
                rw [hv2.out]
                refine bodyPost_ret (v := .tuple #[.int .i64 a, .bool true]) (by simp [results, Try.results154, go_sem, *]) rfl ?_
                exact ⟨rfl, H4.out.drew⟩
            · go_wp2_with fail
              have hv : partition ltInt d a b pivot = (j2, true, swp dk j2 a) := part_first_break ltInt d a b pivot HIe.out HJe.out HDe.out HI2.out HJ2.out hgt
              go_region
              all_goals
                have H4 := Lib.hid (H3.out.swap (i := j2) (j := a) (by omega) (by omega) (HG3.out _) (HG3.out _))
                have hv2 := Lib.hid hv
                clear hv
                go_wp2_with fail
                rw [hv2.out]
                refine bodyPost_ret (v := .tuple #[.int .i64 j2, .bool true]) (by simp [results, Try.results154, go_sem, *]) rfl ?_
                exact ⟨rfl, H4.out.drew⟩
end Go.Proofs.Ytpibaahiboajhaa
