/-
  Sorting a row of uint64: the insertion sort, the heap.
-/
import Derived.Test.YtpibaahiboajhaaSrt2
import Derived.Sort.WalkB2
import Derived.Sort.WalkB3
set_option linter.unusedSimpArgs false
set_option linter.unusedVariables false
namespace Go.Proofs.Ytpibaahiboajhaa
open Go.RowKit Go.Cib
attribute [local go_sem] cell_set Later.cell Later.frozen Grw.cell Grw.frozen
open Go.Sort Go.Proofs

set_option maxRecDepth 100000 in
set_option maxHeartbeats 8000000 in
theorem insertion_u {w wr : World} {blk off n cap a b : Nat} {d : Array Int} (h : RowIs w blk off n wr d) (hab : a ≤ b) (hb : b ≤ n) (hn : n ≤ 1000000) :
    Calls Try.prog 146 #[.slice (some ⟨blk, off, none⟩) n cap, .int .i64 a, .int .i64 b] wr fun e w' => e = .returned (.tuple #[]) ∧ RowIs w blk off n w' (insertionSort ltInt d a b) := by
  have H := Lib.hid h
  clear h
  go_enter Try.func146, Try.ntmps146
  go_wp2
  go_loopw [6] (fun vi wq => ∃ (i : Nat) (dk : Array Int), vi = .int .i64 i ∧ a < i ∧ i ≤ b + 1 ∧ Hid (RowIs w blk off n wq dk) ∧ Hid (insOuter ltInt a b i dk = insOuter ltInt a b (a + 1) d)) (fun vi _ => b + 1 - (intOf vi).toNat)
  case atStart => exact ⟨a + 1, d, by go_num, by omega, by omega, H, Lib.hid rfl⟩
  case round =>
    clear H
    obtain ⟨wq, rfl⟩ : ∃ wq, wq = wr := ⟨_, rfl⟩
    obtain ⟨i, dk, rfl, hai, hib, HR, HE⟩ := hrel
    by_cases hlt : i < b
    · have q1 : (i : Int) < (b : Int) := by omega
      go_wp2_with fail
      go_loopw [7] (fun vj wq => ∃ (j : Nat) (dj : Array Int), vj = .int .i64 j ∧ a ≤ j ∧ j ≤ i ∧ Hid (RowIs w blk off n wq dj) ∧ Hid (insInner ltInt a j dj = insInner ltInt a i dk)) (fun vj _ => (intOf vj).toNat)
      case atStart => exact ⟨i, dk, rfl, by omega, Nat.le_refl _, HR, Lib.hid rfl⟩
      case round =>
        clear HR
        obtain ⟨wu, rfl⟩ : ∃ wu, wu = wr := ⟨_, rfl⟩
        obtain ⟨j, dj, rfl, haj, hji, HR, HI⟩ := hrel
        have out : (j ≤ a ∨ ltInt dj[j]! dj[j - 1]! = false) → insOuter ltInt a b (i + 1) dj = insOuter ltInt a b (a + 1) d := fun hs => by
          rw [← HE.out, insOuter_go _ _ _ _ _ hlt, ← HI.out, insInner_stop _ _ _ _ hs]
        have OUT := Lib.hid out
        clear out
        by_cases hja : a < j
        · have q2 : (a : Int) < (j : Int) := by omega
          obtain ⟨G, cw, fw, HG⟩ := HR.out.family
          go_wp2_with fail
          go_quiet (first | (go_at_call 152; refine Calls.quiet_of_same (less_u _ _ _)))
          go_wp2
          · have hl : ltInt (G j) (G (j - 1)) = true := by assumption
            go_region
            all_goals go_wp2
            go_roundw
            case rel =>
              refine ⟨j - 1, swp dj j (j - 1), by congr 1; omega, by omega, by omega, Lib.hid (((HR.out.drewN _).swap (by omega) (by omega) (HG.out _) (HG.out _))), Lib.hid ?_⟩
              rw [← HI.out, insInner_go ltInt a j dj hja (by rw [← HG.out, ← HG.out]; exact hl)]
            case measure => simp [intOf]; omega
          · have hl : ltInt (G j) (G (j - 1)) = false := by assumption
            go_roundw
            case rel => exact ⟨i + 1, dj, by go_num, by omega, by omega, Lib.hid (HR.out.drewN nq), Lib.hid (OUT.out (Or.inr (by rw [← HG.out, ← HG.out]; exact hl)))⟩
            case measure => simp [intOf]; omega
        · have q2 : ¬ (a : Int) < (j : Int) := by omega
          go_wp2_with fail
          go_quiet (first | (go_at_call 152; refine Calls.quiet_of_same (less_u _ _ _)))
          go_wp2
          go_roundw
          case rel => exact ⟨i + 1, dj, by go_num, by omega, by omega, Lib.hid (HR.out.drewN nq), Lib.hid (OUT.out (Or.inl (by omega)))⟩
          case measure => simp [intOf]; omega
    · have q1 : ¬ (i : Int) < (b : Int) := by omega
      go_wp2
      go_end0
      refine ⟨rfl, ?_⟩
      unfold insertionSort
      rw [← HE.out, insOuter_stop _ _ _ _ _ hlt]
      exact HR.out
set_option maxRecDepth 100000 in
set_option maxHeartbeats 8000000 in
theorem sift_u {w wr : World} {blk off n cap lo hi F : Nat} {d : Array Int} (h : RowIs w blk off n wr d) (hlo : lo ≤ hi) (hb : F + hi ≤ n) (hn : n ≤ 1000000) :
    Calls Try.prog 172 #[.slice (some ⟨blk, off, none⟩) n cap, .int .i64 lo, .int .i64 hi, .int .i64 F] wr fun e w' => e = .returned (.tuple #[]) ∧ RowIs w blk off n w' (siftDown ltInt hi F lo d) := by
  have H := Lib.hid h
  clear h
  go_enter Try.func172, Try.ntmps172
  go_wp2
  go_loopg [8] (hi - lo) (fun k s8 wq => ∃ (root : Nat) (dk : Array Int), s8 = .int .i64 root ∧ root ≤ hi ∧ hi - root ≤ k ∧ Hid (RowIs w blk off n wq dk) ∧ Hid (siftDown ltInt hi F root dk = siftDown ltInt hi F lo d))
  case atStart => exact ⟨lo, d, rfl, hlo, Nat.le_refl _, H, Lib.hid rfl⟩
  case round =>
    clear H
    obtain ⟨wq, rfl⟩ : ∃ wq, wq = wr := ⟨_, rfl⟩
    obtain ⟨root, dk, rfl, hr, hk, HR, HE⟩ := hrel
    by_cases h0 : hi ≤ 2 * root + 1
    · have h0z : (hi : Int) ≤ 2 * (root : Int) + 1 := by omega
      go_wp2
      go_end0
      refine ⟨rfl, ?_⟩
      have he := HE.out
      rw [sd_end ltInt dk h0] at he
      rw [← he]
      exact HR.out
    · have h0z : ¬ ((hi : Int) ≤ 2 * (root : Int) + 1) := by omega
      obtain ⟨G, cw, fw, HG⟩ := HR.out.family
      by_cases h1 : 2 * root + 2 < hi
      · have h1z : 2 * (root : Int) + 1 + 1 < (hi : Int) := by omega
        go_wp2_with fail
        go_quiet (first | (go_at_call 152; refine Calls.quiet_of_same (less_u _ _ _)))
        go_wp2_with fail
        · have hL : ltInt (G (F + (2 * root + 1))) (G (F + (2 * root + 1 + 1))) = true := by assumption
          obtain ⟨w2, hw2, H2, cw2, fw2⟩ := RowIs.on HR HG nq
          rw [hw2]
          clear hw2 cw fw HR nq
          go_quiet (first | (go_at_call 152; refine Calls.quiet_of_same (less_u _ _ _)))
          go_wp2_with fail
          · have hS : ltInt (G (F + root)) (G (F + (2 * root + 1 + 1))) = false := by
              have : (!ltInt (G (F + root)) (G (F + (2 * root + 1 + 1)))) = true := by assumption
              simpa using this
            (try simp only [Exit.inBlock, Exit.then])
            refine bodyPost_ret (results_none rfl _ _ _) rfl ?_
            refine ⟨rfl, ?_⟩
            have he := HE.out
            rw [sd_right_stop ltInt dk h1 (by rw [← HG.out, ← HG.out]; exact hL) (by rw [← HG.out, ← HG.out]; exact hS)] at he
            rw [← he]
            exact H2.out.drewN nq
          · have hS : ltInt (G (F + root)) (G (F + (2 * root + 1 + 1))) = true := by
              have : (!ltInt (G (F + root)) (G (F + (2 * root + 1 + 1)))) = false := by assumption
              simpa using this
            obtain ⟨w3, hw3, H3, cw3, fw3⟩ := RowIs.on H2 HG nq
            rw [hw3]
            clear hw3 cw2 fw2 H2 nq
            go_region
            go_wp2
            go_roundg (hi - (2 * root + 2))
            case measure => omega
            case rel =>
              have he := HE.out
              rw [sd_right_go ltInt dk h1 (by rw [← HG.out, ← HG.out]; exact hL) (by rw [← HG.out, ← HG.out]; exact hS)] at he
              exact ⟨2 * root + 2, swp dk (F + root) (F + (2 * root + 2)), by go_num, by omega, Nat.le_refl _, Lib.hid (H3.out.swap (by omega) (by omega) (HG.out _) (HG.out _)).drew, Lib.hid he⟩
        · have hL : ltInt (G (F + (2 * root + 1))) (G (F + (2 * root + 1 + 1))) = false := by assumption
          obtain ⟨w2, hw2, H2, cw2, fw2⟩ := RowIs.on HR HG nq
          rw [hw2]
          clear hw2 cw fw HR nq
          go_quiet (first | (go_at_call 152; refine Calls.quiet_of_same (less_u _ _ _)))
          go_wp2_with fail
          · have hS : ltInt (G (F + root)) (G (F + (2 * root + 1))) = false := by
              have : (!ltInt (G (F + root)) (G (F + (2 * root + 1)))) = true := by assumption
              simpa using this
            (try simp only [Exit.inBlock, Exit.then])
            refine bodyPost_ret (results_none rfl _ _ _) rfl ?_
            refine ⟨rfl, ?_⟩
            have he := HE.out
            rw [sd_left_stop ltInt dk (by omega) (fun _ => by rw [← HG.out, ← HG.out]; exact hL) (by rw [← HG.out, ← HG.out]; exact hS)] at he
            rw [← he]
            exact H2.out.drewN nq
          · have hS : ltInt (G (F + root)) (G (F + (2 * root + 1))) = true := by
              have : (!ltInt (G (F + root)) (G (F + (2 * root + 1)))) = false := by assumption
              simpa using this
            obtain ⟨w3, hw3, H3, cw3, fw3⟩ := RowIs.on H2 HG nq
            rw [hw3]
            clear hw3 cw2 fw2 H2 nq
            go_region
            go_wp2
            go_roundg (hi - (2 * root + 1))
            case measure => omega
            case rel =>
              have he := HE.out
              rw [sd_left_go ltInt dk (by omega) (fun _ => by rw [← HG.out, ← HG.out]; exact hL) (by rw [← HG.out, ← HG.out]; exact hS)] at he
              exact ⟨2 * root + 1, swp dk (F + root) (F + (2 * root + 1)), by go_num, by omega, Nat.le_refl _, Lib.hid (H3.out.swap (by omega) (by omega) (HG.out _) (HG.out _)).drew, Lib.hid he⟩
      · have h1z : decide (2 * (root : Int) + 1 + 1 < (hi : Int)) = false := decide_eq_false (by omega)
        go_wp2_with fail
        go_quiet (first | (go_at_call 152; refine Calls.quiet_of_same (less_u _ _ _)))
        go_wp2_with fail
        obtain ⟨w2, hw2, H2, cw2, fw2⟩ := RowIs.on HR HG nq
        rw [hw2]
        clear hw2 cw fw HR nq
        go_quiet (first | (go_at_call 152; refine Calls.quiet_of_same (less_u _ _ _)))
        go_wp2_with fail
        · have hS : ltInt (G (F + root)) (G (F + (2 * root + 1))) = false := by
            have : (!ltInt (G (F + root)) (G (F + (2 * root + 1)))) = true := by assumption
            simpa using this
          (try simp only [Exit.inBlock, Exit.then])
          refine bodyPost_ret (results_none rfl _ _ _) rfl ?_
          refine ⟨rfl, ?_⟩
          have he := HE.out
          rw [sd_left_stop ltInt dk (by omega) (fun h => absurd h h1) (by rw [← HG.out, ← HG.out]; exact hS)] at he
          rw [← he]
          exact H2.out.drewN nq
        · have hS : ltInt (G (F + root)) (G (F + (2 * root + 1))) = true := by
            have : (!ltInt (G (F + root)) (G (F + (2 * root + 1)))) = false := by assumption
            simpa using this
          obtain ⟨w3, hw3, H3, cw3, fw3⟩ := RowIs.on H2 HG nq
          rw [hw3]
          clear hw3 cw2 fw2 H2 nq
          go_region
          go_wp2
          go_roundg (hi - (2 * root + 1))
          case measure => omega
          case rel =>
            have he := HE.out
            rw [sd_left_go ltInt dk (by omega) (fun h => absurd h h1) (by rw [← HG.out, ← HG.out]; exact hS)] at he
            exact ⟨2 * root + 1, swp dk (F + root) (F + (2 * root + 1)), by go_num, by omega, Nat.le_refl _, Lib.hid (H3.out.swap (by omega) (by omega) (HG.out _) (HG.out _)).drew, Lib.hid he⟩
end Go.Proofs.Ytpibaahiboajhaa
