/-
  Sorting a row of uint64: the partial insertion sort.
-/
import Derived.Test.YtpibaahiboajhaaSrt4
import Derived.Sort.WalkA6
set_option linter.unusedSimpArgs false
set_option linter.unusedVariables false
namespace Go.Proofs.Ytpibaahiboajhaa
open Go.RowKit Go.Cib
attribute [local go_sem] cell_set Later.cell Later.frozen Grw.cell Grw.frozen
open Go.Sort Go.Proofs

theorem less_is {x y : Int} {r : Bool} (h : ltInt x y = r) (w : World) : Calls Try.prog 152 #[.int .u64 x, .int .u64 y] w fun e w' => e = .returned (.bool r) ∧ w' = w := by
  rw [← h]
  exact less_u x y w

set_option maxRecDepth 100000 in
set_option maxHeartbeats 16000000 in
theorem partialIns_u {w wr : World} {blk off n cap a b : Nat} {d : Array Int} (h : RowIs w blk off n wr d) (hab : a < b) (hb : b ≤ n) (hn : n ≤ 1000000) :
    Calls Try.prog 151 #[.slice (some ⟨blk, off, none⟩) n cap, .int .i64 a, .int .i64 b] wr fun e w' =>
      e = .returned (.bool (partialInsertionSort ltInt d a b).2) ∧ RowIs w blk off n w' (partialInsertionSort ltInt d a b).1 := by
  have H := Lib.hid h
  clear h
  go_enter Try.func151, Try.ntmps151
  go_wp2
  go_loopw [7, 8] (fun vi vs wq => ∃ (i s : Nat) (dk : Array Int), vi = .int .i64 i ∧ vs = .int .i64 s ∧ s ≤ 5 ∧ a < i ∧ i ≤ b ∧ Hid (RowIs w blk off n wq dk) ∧ Hid (partialIns ltInt a b (5 - s) i dk = partialIns ltInt a b 5 (a + 1) d)) (fun _ vs _ => 5 - (intOf vs).toNat)
  case atStart => exact ⟨a + 1, 0, d, by go_num, rfl, by omega, by omega, by omega, H, Lib.hid rfl⟩
  case round =>
    clear H
    obtain ⟨wq, rfl⟩ : ∃ wq, wq = wr := ⟨_, rfl⟩
    obtain ⟨i, s, dk, rfl, rfl, hs5, hai, hib, HR, HO⟩ := hrel
    by_cases hs : s < 5
    · have q1 : (s : Int) < (5 : Int) := by omega
      go_wp2_with fail
      go_loopw [7] (fun vi wq => ∃ k : Nat, vi = .int .i64 k ∧ i ≤ k ∧ k ≤ b ∧ Hid (RowIs w blk off n wq dk) ∧ Hid (scanSorted ltInt dk b k = scanSorted ltInt dk b i)) (fun vi _ => b - (intOf vi).toNat)
      case atStart => exact ⟨i, rfl, Nat.le_refl _, hib, HR, Lib.hid rfl⟩
      case round =>
        clear HR
        obtain ⟨wu, rfl⟩ : ∃ wu, wu = wr := ⟨_, rfl⟩
        obtain ⟨k, rfl, hik, hkb, HR, HS⟩ := hrel
        by_cases hkl : k < b
        · have q2 : (k : Int) < (b : Int) := by omega
          obtain ⟨G, cw, fw, HG⟩ := HR.out.family
          cases hl : ltInt (G k) (G (k - 1)) with
          | false =>
            go_wp2_with fail
            go_quiet (first | (go_at_call 152; refine Calls.quiet_of_same (less_is hl _)))
            go_wp2_with fail
            go_roundw
            case rel => exact ⟨k + 1, by go_num, by omega, by omega, Lib.hid (HR.out.drewN nq), Lib.hid (by rw [← HS.out, scanSorted_go ltInt dk b k hkl (by rw [← HG.out, ← HG.out]; exact hl)])⟩
            case measure => simp [intOf]; omega
          | true =>
            have hkne : k ≠ b := by omega
            have q3 : ((k : Int) == (b : Int)) = false := beq_eq_false_iff_ne.2 (by omega)
            have q4 : decide ((k : Int) = (b : Int)) = false := decide_eq_false (by omega)
            have HK : Hid (scanSorted ltInt dk b i = k) := Lib.hid (by rw [← HS.out, scanSorted_stop ltInt dk b k (Or.inr (by rw [← HG.out, ← HG.out]; exact hl))])
            by_cases h50 : b - a < 50
            · have q5 : (b : Int) - (a : Int) < 50 := by omega
              go_wp2_with fail
              go_quiet (first | (go_at_call 152; refine Calls.quiet_of_same (less_is hl _)))
              go_wp2_with fail
              have hv : partialInsertionSort ltInt d a b = (dk, false) := by
                unfold partialInsertionSort
                rw [← HO.out, pi_short ltInt a b s i dk hs (by rw [HK.out]; exact hkne) h50]
              rw [hv]
              go_ret
              exact ⟨rfl, HR.out.drewN nq⟩
            · have q5 : ¬ (b : Int) - (a : Int) < 50 := by omega
              go_wp2_with fail
              go_quiet (first | (go_at_call 152; refine Calls.quiet_of_same (less_is hl _)))
              go_wp2_with fail
              obtain ⟨w3, hw3, H3, cw3, fw3⟩ := RowIs.on HR HG nq
              rw [hw3]
              clear hw3 cw fw HR nq hl
              go_region
              have H4 := Lib.hid (H3.out.swap (i := k) (j := k - 1) (by omega) (by omega) (HG.out _) (HG.out _))
              clear cw3 fw3 H3 HG
              obtain ⟨w4, hw4⟩ : ∃ w4, (w3.setCell ⟨blk, off + k, none⟩ (.int .u64 (G (k - 1)))).setCell ⟨blk, off + (k - 1), none⟩ (.int .u64 (G k)) = w4 := ⟨_, rfl⟩
              rw [hw4] at H4 ⊢
              have HR : Hid (RowIs w blk off n w4.drew (swp dk k (k - 1))) := Lib.hid H4.out.drew
              clear hw4 H4
              obtain ⟨w5, hw5⟩ : ∃ w5, w4.drew = w5 := ⟨_, rfl⟩
              rw [hw5] at HR ⊢
              clear hw5
              by_cases hka : k - a ≥ 2
              · have q6 : (2 : Int) ≤ (k : Int) - (a : Int) := by omega
                go_wp2_with fail
                go_loopw [9] (fun vj wq => ∃ (j : Nat) (dj : Array Int), vj = .int .i64 j ∧ j ≤ k - 1 ∧ Hid (RowIs w blk off n wq dj) ∧ Hid (shiftDown ltInt j dj = shiftDown ltInt (k - 1) (swp dk k (k - 1)))) (fun vj _ => (intOf vj).toNat)
                case atStart => exact ⟨k - 1, swp dk k (k - 1), by congr 1; omega, Nat.le_refl _, HR, Lib.hid rfl⟩
                case round =>
                  clear HR
                  obtain ⟨wv, rfl⟩ : ∃ wv, wv = wr := ⟨_, rfl⟩
                  obtain ⟨j, dj, rfl, hjk, HR, HDn⟩ := hrel
                  by_cases hj1 : 1 ≤ j
                  · have q9 : (1 : Int) ≤ (j : Int) := by omega
                    obtain ⟨G, cw, fw, HG⟩ := HR.out.family
                    cases hl : ltInt (G j) (G (j - 1)) with
                    | true =>
                      go_wp2_with fail
                      go_quiet (first | (go_at_call 152; refine Calls.quiet_of_same (less_is hl _)))
                      go_wp2_with fail
                      obtain ⟨w3, hw3, H3, cw3, fw3⟩ := RowIs.on HR HG nq
                      rw [hw3]
                      clear hw3 cw fw HR nq
                      go_region
                      all_goals go_wp2
                      go_roundw
                      case rel => exact ⟨j - 1, swp dj j (j - 1), by congr 1; omega, by omega, Lib.hid (H3.out.swap (by omega) (by omega) (HG.out _) (HG.out _)).drew, Lib.hid (by rw [← HDn.out, shiftDown_go ltInt j dj hj1 (by rw [← HG.out, ← HG.out]; exact hl)])⟩
                      case measure => simp [intOf]; omega
                    | false =>
                      have HD : Hid (fixDown ltInt a k (swp dk k (k - 1)) = dj) := Lib.hid (by unfold fixDown; rw [if_pos hka, ← HDn.out, shiftDown_stop ltInt j dj (Or.inr (by rw [← HG.out, ← HG.out]; exact hl))])
                      go_wp2_with fail
                      go_quiet (first | (go_at_call 152; refine Calls.quiet_of_same (less_is hl _)))
                      obtain ⟨w3, hw3, H3, cw3, fw3⟩ := RowIs.on HR HG nq
                      rw [hw3]
                      clear hw3 cw fw HR nq cw3 fw3 HG
                      have HR := H3
                      clear H3
                      by_cases hbk : b - k ≥ 2
                      · have q7 : (2 : Int) ≤ (b : Int) - (k : Int) := by omega
                        go_wp2_with fail
                        go_loopw [10] (fun vj wq => ∃ (j : Nat) (du : Array Int), vj = .int .i64 j ∧ k + 1 ≤ j ∧ j ≤ b ∧ Hid (RowIs w blk off n wq du) ∧ Hid (shiftUp ltInt b j du = shiftUp ltInt b (k + 1) dj)) (fun vj _ => b - (intOf vj).toNat)
                        case atStart => exact ⟨k + 1, dj, by go_num, Nat.le_refl _, by omega, HR, Lib.hid rfl⟩
                        case round =>
                          clear HR
                          obtain ⟨wx, rfl⟩ : ∃ wx, wx = wr := ⟨_, rfl⟩
                          obtain ⟨j, du, rfl, hkj, hjb, HR, HU⟩ := hrel
                          by_cases hjl : j < b
                          · have q8 : (j : Int) < (b : Int) := by omega
                            obtain ⟨G, cw, fw, HG⟩ := HR.out.family
                            cases hl : ltInt (G j) (G (j - 1)) with
                            | true =>
                              go_wp2_with fail
                              go_quiet (first | (go_at_call 152; refine Calls.quiet_of_same (less_is hl _)))
                              go_wp2_with fail
                              obtain ⟨w3, hw3, H3, cw3, fw3⟩ := RowIs.on HR HG nq
                              rw [hw3]
                              clear hw3 cw fw HR nq
                              go_region
                              all_goals go_wp2
                              go_roundw
                              case rel => exact ⟨j + 1, swp du j (j - 1), by go_num, by omega, by omega, Lib.hid (H3.out.swap (by omega) (by omega) (HG.out _) (HG.out _)).drew, Lib.hid (by rw [← HU.out, shiftUp_go ltInt b j du hjl (by rw [← HG.out, ← HG.out]; exact hl)])⟩
                              case measure => simp [intOf]; omega
                            | false =>
                              go_wp2_with fail
                              go_quiet (first | (go_at_call 152; refine Calls.quiet_of_same (less_is hl _)))
                              go_wp2_with fail
                              have HF : Hid (fixUp ltInt b k dj = du) := Lib.hid (by unfold fixUp; rw [if_pos hbk, ← HU.out, shiftUp_stop ltInt b j du (Or.inr (by rw [← HG.out, ← HG.out]; exact hl))])
                              go_roundw
                              case rel => exact ⟨k, s + 1, _, rfl, by go_num, by omega, by omega, by omega, Lib.hid (HR.out.drewN nq), Lib.hid (by rw [← HO.out, pi_go ltInt a b s i k dk hs HK.out hkne h50, HD.out]; exact by rw [HF.out])⟩
                              case measure => simp [intOf]; omega
                          · obtain rfl : j = b := by omega
                            have q8 : ¬ (j : Int) < (j : Int) := by omega
                            have HF : Hid (fixUp ltInt j k dj = du) := Lib.hid (by unfold fixUp; rw [if_pos hbk, ← HU.out, shiftUp_stop ltInt j j du (Or.inl (by omega))])
                            go_wp2_with fail
                            go_roundw
                            case rel => exact ⟨k, s + 1, _, rfl, by go_num, by omega, by omega, by omega, HR, Lib.hid (by rw [← HO.out, pi_go ltInt a j s i k dk hs HK.out hkne h50, HD.out]; exact by rw [HF.out])⟩
                            case measure => simp [intOf]; omega
                      · have q7 : ¬ (2 : Int) ≤ (b : Int) - (k : Int) := by omega
                        have HF : Hid (fixUp ltInt b k dj = dj) := Lib.hid (by unfold fixUp; rw [if_neg hbk])
                        go_wp2_with fail
                        go_roundw
                        case rel => exact ⟨k, s + 1, _, rfl, by go_num, by omega, by omega, by omega, HR, Lib.hid (by rw [← HO.out, pi_go ltInt a b s i k dk hs HK.out hkne h50, HD.out]; exact by rw [HF.out])⟩
                        case measure => simp [intOf]; omega
                  · obtain rfl : j = 0 := by omega
                    have HD : Hid (fixDown ltInt a k (swp dk k (k - 1)) = dj) := Lib.hid (by unfold fixDown; rw [if_pos hka, ← HDn.out, shiftDown_stop ltInt 0 dj (Or.inl rfl)])
                    by_cases hbk : b - k ≥ 2
                    · have q7 : (2 : Int) ≤ (b : Int) - (k : Int) := by omega
                      go_wp2_with fail
                      go_loopw [10] (fun vj wq => ∃ (j : Nat) (du : Array Int), vj = .int .i64 j ∧ k + 1 ≤ j ∧ j ≤ b ∧ Hid (RowIs w blk off n wq du) ∧ Hid (shiftUp ltInt b j du = shiftUp ltInt b (k + 1) dj)) (fun vj _ => b - (intOf vj).toNat)
                      case atStart => exact ⟨k + 1, dj, by go_num, Nat.le_refl _, by omega, HR, Lib.hid rfl⟩
                      case round =>
                        clear HR
                        obtain ⟨wx, rfl⟩ : ∃ wx, wx = wr := ⟨_, rfl⟩
                        obtain ⟨j, du, rfl, hkj, hjb, HR, HU⟩ := hrel
                        by_cases hjl : j < b
                        · have q8 : (j : Int) < (b : Int) := by omega
                          obtain ⟨G, cw, fw, HG⟩ := HR.out.family
                          cases hl : ltInt (G j) (G (j - 1)) with
                          | true =>
                            go_wp2_with fail
                            go_quiet (first | (go_at_call 152; refine Calls.quiet_of_same (less_is hl _)))
                            go_wp2_with fail
                            obtain ⟨w3, hw3, H3, cw3, fw3⟩ := RowIs.on HR HG nq
                            rw [hw3]
                            clear hw3 cw fw HR nq
                            go_region
                            all_goals go_wp2
                            go_roundw
                            case rel => exact ⟨j + 1, swp du j (j - 1), by go_num, by omega, by omega, Lib.hid (H3.out.swap (by omega) (by omega) (HG.out _) (HG.out _)).drew, Lib.hid (by rw [← HU.out, shiftUp_go ltInt b j du hjl (by rw [← HG.out, ← HG.out]; exact hl)])⟩
                            case measure => simp [intOf]; omega
                          | false =>
                            go_wp2_with fail
                            go_quiet (first | (go_at_call 152; refine Calls.quiet_of_same (less_is hl _)))
                            go_wp2_with fail
                            have HF : Hid (fixUp ltInt b k dj = du) := Lib.hid (by unfold fixUp; rw [if_pos hbk, ← HU.out, shiftUp_stop ltInt b j du (Or.inr (by rw [← HG.out, ← HG.out]; exact hl))])
                            go_roundw
                            case rel => exact ⟨k, s + 1, _, rfl, by go_num, by omega, by omega, by omega, Lib.hid (HR.out.drewN nq), Lib.hid (by rw [← HO.out, pi_go ltInt a b s i k dk hs HK.out hkne h50, HD.out]; exact by rw [HF.out])⟩
                            case measure => simp [intOf]; omega
                        · obtain rfl : j = b := by omega
                          have q8 : ¬ (j : Int) < (j : Int) := by omega
                          have HF : Hid (fixUp ltInt j k dj = du) := Lib.hid (by unfold fixUp; rw [if_pos hbk, ← HU.out, shiftUp_stop ltInt j j du (Or.inl (by omega))])
                          go_wp2_with fail
                          go_roundw
                          case rel => exact ⟨k, s + 1, _, rfl, by go_num, by omega, by omega, by omega, HR, Lib.hid (by rw [← HO.out, pi_go ltInt a j s i k dk hs HK.out hkne h50, HD.out]; exact by rw [HF.out])⟩
                          case measure => simp [intOf]; omega
                    · have q7 : ¬ (2 : Int) ≤ (b : Int) - (k : Int) := by omega
                      have HF : Hid (fixUp ltInt b k dj = dj) := Lib.hid (by unfold fixUp; rw [if_neg hbk])
                      go_wp2_with fail
                      go_roundw
                      case rel => exact ⟨k, s + 1, _, rfl, by go_num, by omega, by omega, by omega, HR, Lib.hid (by rw [← HO.out, pi_go ltInt a b s i k dk hs HK.out hkne h50, HD.out]; exact by rw [HF.out])⟩
                      case measure => simp [intOf]; omega
              · have q6 : ¬ (2 : Int) ≤ (k : Int) - (a : Int) := by omega
                obtain ⟨dj, hdj⟩ : ∃ dj, swp dk k (k - 1) = dj := ⟨_, rfl⟩
                have HD : Hid (fixDown ltInt a k (swp dk k (k - 1)) = dj) := Lib.hid (by unfold fixDown; rw [if_neg hka, hdj])
                rw [hdj] at HR
                clear hdj
                by_cases hbk : b - k ≥ 2
                · have q7 : (2 : Int) ≤ (b : Int) - (k : Int) := by omega
                  go_wp2_with fail
                  go_loopw [10] (fun vj wq => ∃ (j : Nat) (du : Array Int), vj = .int .i64 j ∧ k + 1 ≤ j ∧ j ≤ b ∧ Hid (RowIs w blk off n wq du) ∧ Hid (shiftUp ltInt b j du = shiftUp ltInt b (k + 1) dj)) (fun vj _ => b - (intOf vj).toNat)
                  case atStart => exact ⟨k + 1, dj, by go_num, Nat.le_refl _, by omega, HR, Lib.hid rfl⟩
                  case round =>
                    clear HR
                    obtain ⟨wx, rfl⟩ : ∃ wx, wx = wr := ⟨_, rfl⟩
                    obtain ⟨j, du, rfl, hkj, hjb, HR, HU⟩ := hrel
                    by_cases hjl : j < b
                    · have q8 : (j : Int) < (b : Int) := by omega
                      obtain ⟨G, cw, fw, HG⟩ := HR.out.family
                      cases hl : ltInt (G j) (G (j - 1)) with
                      | true =>
                        go_wp2_with fail
                        go_quiet (first | (go_at_call 152; refine Calls.quiet_of_same (less_is hl _)))
                        go_wp2_with fail
                        obtain ⟨w3, hw3, H3, cw3, fw3⟩ := RowIs.on HR HG nq
                        rw [hw3]
                        clear hw3 cw fw HR nq
                        go_region
                        all_goals go_wp2
                        go_roundw
                        case rel => exact ⟨j + 1, swp du j (j - 1), by go_num, by omega, by omega, Lib.hid (H3.out.swap (by omega) (by omega) (HG.out _) (HG.out _)).drew, Lib.hid (by rw [← HU.out, shiftUp_go ltInt b j du hjl (by rw [← HG.out, ← HG.out]; exact hl)])⟩
                        case measure => simp [intOf]; omega
                      | false =>
                        go_wp2_with fail
                        go_quiet (first | (go_at_call 152; refine Calls.quiet_of_same (less_is hl _)))
                        go_wp2_with fail
                        have HF : Hid (fixUp ltInt b k dj = du) := Lib.hid (by unfold fixUp; rw [if_pos hbk, ← HU.out, shiftUp_stop ltInt b j du (Or.inr (by rw [← HG.out, ← HG.out]; exact hl))])
                        go_roundw
                        case rel => exact ⟨k, s + 1, _, rfl, by go_num, by omega, by omega, by omega, Lib.hid (HR.out.drewN nq), Lib.hid (by rw [← HO.out, pi_go ltInt a b s i k dk hs HK.out hkne h50, HD.out]; exact by rw [HF.out])⟩
                        case measure => simp [intOf]; omega
                    · obtain rfl : j = b := by omega
                      have q8 : ¬ (j : Int) < (j : Int) := by omega
                      have HF : Hid (fixUp ltInt j k dj = du) := Lib.hid (by unfold fixUp; rw [if_pos hbk, ← HU.out, shiftUp_stop ltInt j j du (Or.inl (by omega))])
                      go_wp2_with fail
                      go_roundw
                      case rel => exact ⟨k, s + 1, _, rfl, by go_num, by omega, by omega, by omega, HR, Lib.hid (by rw [← HO.out, pi_go ltInt a j s i k dk hs HK.out hkne h50, HD.out]; exact by rw [HF.out])⟩
                      case measure => simp [intOf]; omega
                · have q7 : ¬ (2 : Int) ≤ (b : Int) - (k : Int) := by omega
                  have HF : Hid (fixUp ltInt b k dj = dj) := Lib.hid (by unfold fixUp; rw [if_neg hbk])
                  go_wp2_with fail
                  go_roundw
                  case rel => exact ⟨k, s + 1, _, rfl, by go_num, by omega, by omega, by omega, HR, Lib.hid (by rw [← HO.out, pi_go ltInt a b s i k dk hs HK.out hkne h50, HD.out]; exact by rw [HF.out])⟩
                  case measure => simp [intOf]; omega
        · obtain rfl : k = b := by omega
          have q2 : decide ((k : Int) < (k : Int)) = false := decide_eq_false (by omega)
          have q3 : ((k : Int) == (k : Int)) = true := beq_iff_eq.2 rfl
          go_wp2_with fail
          go_quiet (first | (go_at_call 152; refine Calls.quiet_of_same (less_u _ _ _)))
          go_wp2_with fail
          have hv : partialInsertionSort ltInt d a k = (dk, true) := by
            unfold partialInsertionSort
            rw [← HO.out, pi_true ltInt a k s i dk hs (by rw [← HS.out, scanSorted_stop ltInt dk k k (Or.inl (by omega))])]
          rw [hv]
          go_ret
          exact ⟨rfl, HR.out.drewN nq⟩
    · obtain rfl : s = 5 := by omega
      go_wp2_with fail
      have hv : partialInsertionSort ltInt d a b = (dk, false) := by
        unfold partialInsertionSort
        rw [← HO.out]
        exact pi_end ltInt a b i dk
      rw [hv]
      go_ret
      exact ⟨rfl, HR.out⟩
end Go.Proofs.Ytpibaahiboajhaa
