/-
  Sorting a row of uint64: the partition by equals.
-/
import Derived.Test.YtpibaahiboajhaaSrt5
import Derived.Sort.WalkC
set_option linter.unusedSimpArgs false
set_option linter.unusedVariables false
namespace Go.Proofs.Ytpibaahiboajhaa
open Go.RowKit Go.Cib
attribute [local go_sem] cell_set Later.cell Later.frozen Grw.cell Grw.frozen
open Go.Sort Go.Proofs

set_option maxRecDepth 100000 in
set_option maxHeartbeats 16000000 in
theorem partEq_u {w wr : World} {blk off n cap a b pivot : Nat} {d : Array Int} (h : RowIs w blk off n wr d) (hap : a ≤ pivot) (hpb : pivot < b) (hb : b ≤ n) (hn : n ≤ 1000000) :
    Calls Try.prog 153 #[.slice (some ⟨blk, off, none⟩) n cap, .int .i64 a, .int .i64 b, .int .i64 pivot] wr fun e w' =>
      e = .returned (.int .i64 (partitionEqual ltInt d a b pivot).1) ∧ RowIs w blk off n w' (partitionEqual ltInt d a b pivot).2 := by
  have HR := Lib.hid h
  clear h
  go_enter Try.func153, Try.ntmps153
  go_wp2_with fail
  obtain ⟨G, cw, fw, HG⟩ := HR.out.family
  by_cases hpe : a = pivot
  · subst hpe
    skip
    go_wp2_with fail
    go_region
    have H4 := Lib.hid (HR.out.swap (i := a) (j := a) (by omega) (by omega) (HG.out _) (HG.out _))
    obtain ⟨w4, hw4⟩ : ∃ w4, (wr.setCell ⟨blk, off + a, none⟩ (.int .u64 (G a))).setCell ⟨blk, off + a, none⟩ (.int .u64 (G a)) = w4 := ⟨_, rfl⟩
    rw [hw4] at H4 ⊢
    clear hw4 cw fw HR
    obtain ⟨w5, hw5⟩ : ∃ w5, w4.drew = w5 := ⟨_, rfl⟩
    have HR : Hid (RowIs w blk off n w4.drew (swp d a a)) := Lib.hid H4.out.drew
    rw [hw5] at HR ⊢
    clear hw5 H4 HG
    go_wp2_with fail
    go_loopw [9, 10] (fun vi vj wq => ∃ (i j : Nat) (dk : Array Int), vi = .int .i64 i ∧ vj = .int .i64 j ∧ a < i ∧ i ≤ j + 1 ∧ j + 1 ≤ b ∧ Hid (RowIs w blk off n wq dk) ∧ Hid (partEqLoop ltInt a i j dk = partEqLoop ltInt a (a + 1) (b - 1) (swp d a a))) (fun vi vj _ => (intOf vj).toNat + 1 - (intOf vi).toNat)
    case atStart => exact ⟨a + 1, b - 1, swp d a a, by go_num, by congr 1; omega, by omega, by omega, by omega, HR, Lib.hid rfl⟩
    case round =>
      clear HR
      obtain ⟨wq, rfl⟩ : ∃ wq, wq = wr := ⟨_, rfl⟩
      obtain ⟨i, j, dk, rfl, rfl, hai, hij1, hjb, HR, HE⟩ := hrel
      go_wp2_with fail
      go_loopw [9] (fun vi wq => ∃ i2 : Nat, vi = .int .i64 i2 ∧ i ≤ i2 ∧ i2 ≤ j + 1 ∧ Hid (RowIs w blk off n wq dk) ∧ Hid (scanUp (fun x => !ltInt dk[a]! x) dk j i2 = scanUp (fun x => !ltInt dk[a]! x) dk j i)) (fun vi _ => j + 1 - (intOf vi).toNat)
      case atStart => exact ⟨i, rfl, Nat.le_refl _, by omega, HR, Lib.hid rfl⟩
      case round =>
        clear HR
        obtain ⟨wu, rfl⟩ : ∃ wu, wu = wr := ⟨_, rfl⟩
        obtain ⟨i2, rfl, hi2, hi2j, HR, HU⟩ := hrel
        by_cases hij : i2 ≤ j
        · have q2 : (i2 : Int) ≤ (j : Int) := by omega
          obtain ⟨G, cw, fw, HG⟩ := HR.out.family
          cases hl : ltInt (G a) (G i2) with
          | false =>
            go_wp2_with fail
            go_quiet (first | (go_at_call 152; refine Calls.quiet_of_same (less_is hl _)))
            go_wp2_with fail
            go_roundw
            case rel => exact ⟨i2 + 1, by go_num, by omega, by omega, Lib.hid (HR.out.drewN nq), Lib.hid (by rw [← HU.out, scanUp_go (fun x => !ltInt dk[a]! x) dk j i2 hij (by simp only [← HG.out, hl] <;> rfl)])⟩
            case measure => simp [intOf]; omega
          | true =>
            have HI2 : Hid (i2 = scanUp (fun x => !ltInt dk[a]! x) dk j i) := Lib.hid (by rw [← HU.out, scanUp_end (fun x => !ltInt dk[a]! x) dk j i2 (Or.inr (by simp only [← HG.out, hl] <;> rfl))])
            go_wp2_with fail
            go_quiet (first | (go_at_call 152; refine Calls.quiet_of_same (less_is hl _)))
            go_wp2_with fail
            obtain ⟨w3, hw3, H3, cw3, fw3⟩ := RowIs.on HR HG nq
            rw [hw3]
            clear hw3 cw fw HR nq
            have HR := H3
            clear H3 HG cw3 fw3
            go_loopw [10] (fun vj wq => ∃ j2 : Nat, vj = .int .i64 j2 ∧ j2 ≤ j ∧ i2 ≤ j2 + 1 ∧ Hid (RowIs w blk off n wq dk) ∧ Hid (scanDown (fun x => ltInt dk[a]! x) dk i2 j2 = scanDown (fun x => ltInt dk[a]! x) dk i2 j)) (fun vj _ => (intOf vj).toNat)
            case atStart => exact ⟨j, rfl, Nat.le_refl _, by omega, HR, Lib.hid rfl⟩
            case round =>
              clear HR
              obtain ⟨wv, rfl⟩ : ∃ wv, wv = wr := ⟨_, rfl⟩
              obtain ⟨j2, rfl, hj2, hj2i, HR, HV⟩ := hrel
              by_cases hij : i2 ≤ j2
              · have q3 : (i2 : Int) ≤ (j2 : Int) := by omega
                obtain ⟨G, cw, fw, HG⟩ := HR.out.family
                cases hl : ltInt (G a) (G j2) with
                | true =>
                  go_wp2_with fail
                  go_quiet (first | (go_at_call 152; refine Calls.quiet_of_same (less_is hl _)))
                  go_wp2_with fail
                  go_roundw
                  case rel => exact ⟨j2 - 1, by congr 1; omega, by omega, by omega, Lib.hid (HR.out.drewN nq), Lib.hid (by rw [← HV.out, scanDown_go (fun x => ltInt dk[a]! x) dk i2 j2 hij (by omega) (by simp only [← HG.out, hl] <;> rfl)])⟩
                  case measure => simp [intOf]; omega
                | false =>
                  have HJ2 : Hid (j2 = scanDown (fun x => ltInt dk[a]! x) dk i2 j) := Lib.hid (by rw [← HV.out, scanDown_end (fun x => ltInt dk[a]! x) dk i2 j2 (Or.inr (by simp only [← HG.out, hl] <;> rfl))])
                  have hngt : ¬ i2 > j2 := by omega
                  have hlt2 : i2 < j2 := scans_lt ltInt a i j dk (by omega) HI2.out HJ2.out (by omega)
                  have q4 : ¬ (j2 : Int) < (i2 : Int) := by omega
                  have q5 : decide ((j2 : Int) < (i2 : Int)) = false := decide_eq_false q4
                  go_wp2_with fail
                  go_quiet (first | (go_at_call 152; refine Calls.quiet_of_same (less_is hl _)))
                  go_wp2_with fail
                  obtain ⟨w3, hw3, H3, cw3, fw3⟩ := RowIs.on HR HG nq
                  rw [hw3]
                  clear hw3 cw fw HR nq
                  go_region
                  have H4 := Lib.hid (H3.out.swap (i := i2) (j := j2) (by omega) (by omega) (HG.out _) (HG.out _))
                  obtain ⟨w4, hw4⟩ : ∃ w4, (w3.setCell ⟨blk, off + i2, none⟩ (.int .u64 (G j2))).setCell ⟨blk, off + j2, none⟩ (.int .u64 (G i2)) = w4 := ⟨_, rfl⟩
                  rw [hw4] at H4 ⊢
                  clear hw4 cw3 fw3 H3
                  go_wp2_with fail
                  go_roundw
                  case rel => exact ⟨i2 + 1, j2 - 1, swp dk i2 j2, by go_num, by congr 1; omega, by omega, by omega, by omega, Lib.hid H4.out.drew, Lib.hid (by rw [← HE.out, partEq_go ltInt a i j dk HI2.out HJ2.out hngt])⟩
                  case measure => simp [intOf]; omega
              · have q3 : decide ((i2 : Int) ≤ (j2 : Int)) = false := decide_eq_false (by omega)
                have q4 : (j2 : Int) < (i2 : Int) := by omega
                have q5 : decide ((j2 : Int) < (i2 : Int)) = true := decide_eq_true q4
                have HJ2 : Hid (j2 = scanDown (fun x => ltInt dk[a]! x) dk i2 j) := Lib.hid (by rw [← HV.out, scanDown_end (fun x => ltInt dk[a]! x) dk i2 j2 (Or.inl hij)])
                have hgt : j2 < i2 := by omega
                clear HV
                go_wp2_with fail
                go_quiet (first | (go_at_call 152; refine Calls.quiet_of_same (less_u _ _ _)))
                obtain ⟨w3, hw3⟩ : ∃ w3, wv.drewN nq = w3 := ⟨_, rfl⟩
                have H3 := Lib.hid (HR.out.drewN nq)
                rw [hw3] at H3 ⊢
                clear HR hw3 nq
                go_wp2_with fail
                have hv : partitionEqual ltInt d a b a = (i2, dk) := by
                  rw [← partEq_break ltInt a i j dk HI2.out HJ2.out hgt]
                  exact HE.out.symm
                rw [hv]
                go_ret
                exact ⟨rfl, H3.out⟩
        · obtain rfl : i2 = j + 1 := by omega
          have q2 : decide (((j + 1 : Nat) : Int) ≤ (j : Int)) = false := decide_eq_false (by omega)
          have HI2 : Hid (j + 1 = scanUp (fun x => !ltInt dk[a]! x) dk j i) := Lib.hid (by rw [← HU.out, scanUp_end (fun x => !ltInt dk[a]! x) dk j (j + 1) (Or.inl (by omega))])
          obtain ⟨i2, hi2e⟩ : ∃ i2, j + 1 = i2 := ⟨_, rfl⟩
          rw [hi2e] at HI2 q2 hi2 ⊢
          have hij2 : ¬ i2 ≤ j := by omega
          have hle : i2 ≤ j + 1 := by omega
          clear hi2j
          clear hij HU
          go_wp2_with fail
          go_quiet (first | (go_at_call 152; refine Calls.quiet_of_same (less_u _ _ _)))
          go_wp2_with fail
          obtain ⟨w3, hw3⟩ : ∃ w3, wu.drewN nq = w3 := ⟨_, rfl⟩
          have H3 := Lib.hid (HR.out.drewN nq)
          rw [hw3] at H3 ⊢
          clear HR hw3 nq
          have HR := H3
          clear H3 hi2e
          go_loopw [10] (fun vj wq => ∃ j2 : Nat, vj = .int .i64 j2 ∧ j2 ≤ j ∧ i2 ≤ j2 + 1 ∧ Hid (RowIs w blk off n wq dk) ∧ Hid (scanDown (fun x => ltInt dk[a]! x) dk i2 j2 = scanDown (fun x => ltInt dk[a]! x) dk i2 j)) (fun vj _ => (intOf vj).toNat)
          case atStart => exact ⟨j, rfl, Nat.le_refl _, by omega, HR, Lib.hid rfl⟩
          case round =>
            clear HR
            obtain ⟨wv, rfl⟩ : ∃ wv, wv = wr := ⟨_, rfl⟩
            obtain ⟨j2, rfl, hj2, hj2i, HR, HV⟩ := hrel
            by_cases hij : i2 ≤ j2
            · exfalso; omega
            · have q3 : decide ((i2 : Int) ≤ (j2 : Int)) = false := decide_eq_false (by omega)
              have q4 : (j2 : Int) < (i2 : Int) := by omega
              have q5 : decide ((j2 : Int) < (i2 : Int)) = true := decide_eq_true q4
              have HJ2 : Hid (j2 = scanDown (fun x => ltInt dk[a]! x) dk i2 j) := Lib.hid (by rw [← HV.out, scanDown_end (fun x => ltInt dk[a]! x) dk i2 j2 (Or.inl hij)])
              have hgt : j2 < i2 := by omega
              clear HV
              go_wp2_with fail
              go_quiet (first | (go_at_call 152; refine Calls.quiet_of_same (less_u _ _ _)))
              obtain ⟨w3, hw3⟩ : ∃ w3, wv.drewN nq = w3 := ⟨_, rfl⟩
              have H3 := Lib.hid (HR.out.drewN nq)
              rw [hw3] at H3 ⊢
              clear HR hw3 nq
              go_wp2_with fail
              have hv : partitionEqual ltInt d a b a = (i2, dk) := by
                rw [← partEq_break ltInt a i j dk HI2.out HJ2.out hgt]
                exact HE.out.symm
              rw [hv]
              go_ret
              exact ⟨rfl, H3.out⟩
  · skip
    skip
    go_wp2_with fail
    go_region
    have H4 := Lib.hid (HR.out.swap (i := a) (j := pivot) (by omega) (by omega) (HG.out _) (HG.out _))
    obtain ⟨w4, hw4⟩ : ∃ w4, (wr.setCell ⟨blk, off + a, none⟩ (.int .u64 (G pivot))).setCell ⟨blk, off + pivot, none⟩ (.int .u64 (G a)) = w4 := ⟨_, rfl⟩
    rw [hw4] at H4 ⊢
    clear hw4 cw fw HR
    obtain ⟨w5, hw5⟩ : ∃ w5, w4.drew = w5 := ⟨_, rfl⟩
    have HR : Hid (RowIs w blk off n w4.drew (swp d a pivot)) := Lib.hid H4.out.drew
    rw [hw5] at HR ⊢
    clear hw5 H4 HG
    go_wp2_with fail
    go_loopw [9, 10] (fun vi vj wq => ∃ (i j : Nat) (dk : Array Int), vi = .int .i64 i ∧ vj = .int .i64 j ∧ a < i ∧ i ≤ j + 1 ∧ j + 1 ≤ b ∧ Hid (RowIs w blk off n wq dk) ∧ Hid (partEqLoop ltInt a i j dk = partEqLoop ltInt a (a + 1) (b - 1) (swp d a pivot))) (fun vi vj _ => (intOf vj).toNat + 1 - (intOf vi).toNat)
    case atStart => exact ⟨a + 1, b - 1, swp d a pivot, by go_num, by congr 1; omega, by omega, by omega, by omega, HR, Lib.hid rfl⟩
    case round =>
      clear HR
      obtain ⟨wq, rfl⟩ : ∃ wq, wq = wr := ⟨_, rfl⟩
      obtain ⟨i, j, dk, rfl, rfl, hai, hij1, hjb, HR, HE⟩ := hrel
      go_wp2_with fail
      go_loopw [9] (fun vi wq => ∃ i2 : Nat, vi = .int .i64 i2 ∧ i ≤ i2 ∧ i2 ≤ j + 1 ∧ Hid (RowIs w blk off n wq dk) ∧ Hid (scanUp (fun x => !ltInt dk[a]! x) dk j i2 = scanUp (fun x => !ltInt dk[a]! x) dk j i)) (fun vi _ => j + 1 - (intOf vi).toNat)
      case atStart => exact ⟨i, rfl, Nat.le_refl _, by omega, HR, Lib.hid rfl⟩
      case round =>
        clear HR
        obtain ⟨wu, rfl⟩ : ∃ wu, wu = wr := ⟨_, rfl⟩
        obtain ⟨i2, rfl, hi2, hi2j, HR, HU⟩ := hrel
        by_cases hij : i2 ≤ j
        · have q2 : (i2 : Int) ≤ (j : Int) := by omega
          obtain ⟨G, cw, fw, HG⟩ := HR.out.family
          cases hl : ltInt (G a) (G i2) with
          | false =>
            go_wp2_with fail
            go_quiet (first | (go_at_call 152; refine Calls.quiet_of_same (less_is hl _)))
            go_wp2_with fail
            go_roundw
            case rel => exact ⟨i2 + 1, by go_num, by omega, by omega, Lib.hid (HR.out.drewN nq), Lib.hid (by rw [← HU.out, scanUp_go (fun x => !ltInt dk[a]! x) dk j i2 hij (by simp only [← HG.out, hl] <;> rfl)])⟩
            case measure => simp [intOf]; omega
          | true =>
            have HI2 : Hid (i2 = scanUp (fun x => !ltInt dk[a]! x) dk j i) := Lib.hid (by rw [← HU.out, scanUp_end (fun x => !ltInt dk[a]! x) dk j i2 (Or.inr (by simp only [← HG.out, hl] <;> rfl))])
            go_wp2_with fail
            go_quiet (first | (go_at_call 152; refine Calls.quiet_of_same (less_is hl _)))
            go_wp2_with fail
            obtain ⟨w3, hw3, H3, cw3, fw3⟩ := RowIs.on HR HG nq
            rw [hw3]
            clear hw3 cw fw HR nq
            have HR := H3
            clear H3 HG cw3 fw3
            go_loopw [10] (fun vj wq => ∃ j2 : Nat, vj = .int .i64 j2 ∧ j2 ≤ j ∧ i2 ≤ j2 + 1 ∧ Hid (RowIs w blk off n wq dk) ∧ Hid (scanDown (fun x => ltInt dk[a]! x) dk i2 j2 = scanDown (fun x => ltInt dk[a]! x) dk i2 j)) (fun vj _ => (intOf vj).toNat)
            case atStart => exact ⟨j, rfl, Nat.le_refl _, by omega, HR, Lib.hid rfl⟩
            case round =>
              clear HR
              obtain ⟨wv, rfl⟩ : ∃ wv, wv = wr := ⟨_, rfl⟩
              obtain ⟨j2, rfl, hj2, hj2i, HR, HV⟩ := hrel
              by_cases hij : i2 ≤ j2
              · have q3 : (i2 : Int) ≤ (j2 : Int) := by omega
                obtain ⟨G, cw, fw, HG⟩ := HR.out.family
                cases hl : ltInt (G a) (G j2) with
                | true =>
                  go_wp2_with fail
                  go_quiet (first | (go_at_call 152; refine Calls.quiet_of_same (less_is hl _)))
                  go_wp2_with fail
                  go_roundw
                  case rel => exact ⟨j2 - 1, by congr 1; omega, by omega, by omega, Lib.hid (HR.out.drewN nq), Lib.hid (by rw [← HV.out, scanDown_go (fun x => ltInt dk[a]! x) dk i2 j2 hij (by omega) (by simp only [← HG.out, hl] <;> rfl)])⟩
                  case measure => simp [intOf]; omega
                | false =>
                  have HJ2 : Hid (j2 = scanDown (fun x => ltInt dk[a]! x) dk i2 j) := Lib.hid (by rw [← HV.out, scanDown_end (fun x => ltInt dk[a]! x) dk i2 j2 (Or.inr (by simp only [← HG.out, hl] <;> rfl))])
                  have hngt : ¬ i2 > j2 := by omega
                  have hlt2 : i2 < j2 := scans_lt ltInt a i j dk (by omega) HI2.out HJ2.out (by omega)
                  have q4 : ¬ (j2 : Int) < (i2 : Int) := by omega
                  have q5 : decide ((j2 : Int) < (i2 : Int)) = false := decide_eq_false q4
                  go_wp2_with fail
                  go_quiet (first | (go_at_call 152; refine Calls.quiet_of_same (less_is hl _)))
                  go_wp2_with fail
                  obtain ⟨w3, hw3, H3, cw3, fw3⟩ := RowIs.on HR HG nq
                  rw [hw3]
                  clear hw3 cw fw HR nq
                  go_region
                  have H4 := Lib.hid (H3.out.swap (i := i2) (j := j2) (by omega) (by omega) (HG.out _) (HG.out _))
                  obtain ⟨w4, hw4⟩ : ∃ w4, (w3.setCell ⟨blk, off + i2, none⟩ (.int .u64 (G j2))).setCell ⟨blk, off + j2, none⟩ (.int .u64 (G i2)) = w4 := ⟨_, rfl⟩
                  rw [hw4] at H4 ⊢
                  clear hw4 cw3 fw3 H3
                  go_wp2_with fail
                  go_roundw
                  case rel => exact ⟨i2 + 1, j2 - 1, swp dk i2 j2, by go_num, by congr 1; omega, by omega, by omega, by omega, Lib.hid H4.out.drew, Lib.hid (by rw [← HE.out, partEq_go ltInt a i j dk HI2.out HJ2.out hngt])⟩
                  case measure => simp [intOf]; omega
              · have q3 : decide ((i2 : Int) ≤ (j2 : Int)) = false := decide_eq_false (by omega)
                have q4 : (j2 : Int) < (i2 : Int) := by omega
                have q5 : decide ((j2 : Int) < (i2 : Int)) = true := decide_eq_true q4
                have HJ2 : Hid (j2 = scanDown (fun x => ltInt dk[a]! x) dk i2 j) := Lib.hid (by rw [← HV.out, scanDown_end (fun x => ltInt dk[a]! x) dk i2 j2 (Or.inl hij)])
                have hgt : j2 < i2 := by omega
                clear HV
                go_wp2_with fail
                go_quiet (first | (go_at_call 152; refine Calls.quiet_of_same (less_u _ _ _)))
                obtain ⟨w3, hw3⟩ : ∃ w3, wv.drewN nq = w3 := ⟨_, rfl⟩
                have H3 := Lib.hid (HR.out.drewN nq)
                rw [hw3] at H3 ⊢
                clear HR hw3 nq
                go_wp2_with fail
                have hv : partitionEqual ltInt d a b pivot = (i2, dk) := by
                  rw [← partEq_break ltInt a i j dk HI2.out HJ2.out hgt]
                  exact HE.out.symm
                rw [hv]
                go_ret
                exact ⟨rfl, H3.out⟩
        · obtain rfl : i2 = j + 1 := by omega
          have q2 : decide (((j + 1 : Nat) : Int) ≤ (j : Int)) = false := decide_eq_false (by omega)
          have HI2 : Hid (j + 1 = scanUp (fun x => !ltInt dk[a]! x) dk j i) := Lib.hid (by rw [← HU.out, scanUp_end (fun x => !ltInt dk[a]! x) dk j (j + 1) (Or.inl (by omega))])
          obtain ⟨i2, hi2e⟩ : ∃ i2, j + 1 = i2 := ⟨_, rfl⟩
          rw [hi2e] at HI2 q2 hi2 ⊢
          have hij2 : ¬ i2 ≤ j := by omega
          have hle : i2 ≤ j + 1 := by omega
          clear hi2j
          clear hij HU
          go_wp2_with fail
          go_quiet (first | (go_at_call 152; refine Calls.quiet_of_same (less_u _ _ _)))
          go_wp2_with fail
          obtain ⟨w3, hw3⟩ : ∃ w3, wu.drewN nq = w3 := ⟨_, rfl⟩
          have H3 := Lib.hid (HR.out.drewN nq)
          rw [hw3] at H3 ⊢
          clear HR hw3 nq
          have HR := H3
          clear H3 hi2e
          go_loopw [10] (fun vj wq => ∃ j2 : Nat, vj = .int .i64 j2 ∧ j2 ≤ j ∧ i2 ≤ j2 + 1 ∧ Hid (RowIs w blk off n wq dk) ∧ Hid (scanDown (fun x => ltInt dk[a]! x) dk i2 j2 = scanDown (fun x => ltInt dk[a]! x) dk i2 j)) (fun vj _ => (intOf vj).toNat)
          case atStart => exact ⟨j, rfl, Nat.le_refl _, by omega, HR, Lib.hid rfl⟩
          case round =>
            clear HR
            obtain ⟨wv, rfl⟩ : ∃ wv, wv = wr := ⟨_, rfl⟩
            obtain ⟨j2, rfl, hj2, hj2i, HR, HV⟩ := hrel
            by_cases hij : i2 ≤ j2
            · exfalso; omega
            · have q3 : decide ((i2 : Int) ≤ (j2 : Int)) = false := decide_eq_false (by omega)
              have q4 : (j2 : Int) < (i2 : Int) := by omega
              have q5 : decide ((j2 : Int) < (i2 : Int)) = true := decide_eq_true q4
              have HJ2 : Hid (j2 = scanDown (fun x => ltInt dk[a]! x) dk i2 j) := Lib.hid (by rw [← HV.out, scanDown_end (fun x => ltInt dk[a]! x) dk i2 j2 (Or.inl hij)])
              have hgt : j2 < i2 := by omega
              clear HV
              go_wp2_with fail
              go_quiet (first | (go_at_call 152; refine Calls.quiet_of_same (less_u _ _ _)))
              obtain ⟨w3, hw3⟩ : ∃ w3, wv.drewN nq = w3 := ⟨_, rfl⟩
              have H3 := Lib.hid (HR.out.drewN nq)
              rw [hw3] at H3 ⊢
              clear HR hw3 nq
              go_wp2_with fail
              have hv : partitionEqual ltInt d a b pivot = (i2, dk) := by
                rw [← partEq_break ltInt a i j dk HI2.out HJ2.out hgt]
                exact HE.out.symm
              rw [hv]
              go_ret
              exact ⟨rfl, H3.out⟩
end Go.Proofs.Ytpibaahiboajhaa
