/-
  OracleEnds, walked.
-/
import Derived.Test.YtpibaahiboajhaaOsc4
set_option linter.unusedSimpArgs false
set_option linter.unusedVariables false
namespace Go.Proofs.Ytpibaahiboajhaa
open Go.RowKit Go.Cib
attribute [local go_sem] cell_set Later.cell Later.frozen Grw.cell Grw.frozen
open Go.Sort Go.Proofs Go.Shelf

theorem run_max_i (ts : Array TypeId) (t : TypeId) (x y : Int) (w : World) : (Builtin.max_ ts t #[.int .i64 x, .int .i64 y]).run Try.prog w = .ok (.int .i64 (max x y)) w := by
  rw [run_max_int2]
  congr 2
  omega
attribute [local go_sem ↓] run_max_i
theorem rep_mem {n : Nat} (s : Int) : s ∈ List.replicate n (3 : Int) ↔ 0 < n ∧ s = 3 := by
  rw [List.mem_replicate]
  constructor
  · rintro ⟨h, rfl⟩; exact ⟨by omega, rfl⟩
  · rintro ⟨h, rfl⟩; exact ⟨by omega, rfl⟩
theorem rep_erase (n : Nat) : (List.replicate n (3 : Int)).erase 3 = List.replicate (n - 1) 3 := by
  cases n with
  | zero => rfl
  | succ n => rw [List.replicate_succ, List.erase_cons_head]; rfl
theorem hor_rep (n : Nat) (h : Int) (h3 : 3 ≤ h) : hor h (List.replicate n 3) = if n = 0 then h else 3 := by
  obtain ⟨a1, a2, a3⟩ := hor_spec (List.replicate n 3) h
  by_cases h0 : n = 0
  · subst h0
    rfl
  · rw [if_neg h0]
    have := a2 3 ((rep_mem 3).2 ⟨by omega, rfl⟩)
    rcases a3 with e | e
    · omega
    · exact ((rep_mem _).1 e).2
theorem ohor_rep {w : World} {o b : Nat} {last most : Int} {n : Nat} (h : OrcAt w o b last most (List.replicate n 3)) (h3 : 3 ≤ last) :
    Calls Try.prog 31 #[.pointer (some ⟨o, 0, none⟩)] w fun e w' => e = .returned (.int .u64 (if n = 0 then last else 3)) ∧ Below w.heap.size w w' := by
  rw [← hor_rep n last h3]
  cases n with
  | zero => exact ohor_ok (xs := []) h (by simp) (by simp) (by simp)
  | succ n => exact ohor_ok (xs := [3]) h (by simp) (fun s => by rw [rep_mem]; simp) (by simp)
set_option maxRecDepth 100000 in
set_option maxHeartbeats 8000000 in
theorem ends_good (n m : Nat) (more : Int) (hn : n ≤ 60) (hm : m ≤ 60) (h0 : 0 ≤ more) (h1 : more ≤ 1099511627776) (w : World) : Calls Try.prog 5 #[.int .i64 n, .int .i64 m, .int .u64 more] w fun e w' => e = .returned (.bool true) ∧ Below w.heap.size w w' := by
  have q1 : decide ((n : Int) < 0) = false := decide_eq_false (by omega)
  have q2 : decide ((60 : Int) < (n : Int)) = false := decide_eq_false (by omega)
  have q3 : decide ((m : Int) < 0) = false := decide_eq_false (by omega)
  have q4 : decide ((60 : Int) < (m : Int)) = false := decide_eq_false (by omega)
  have q5 : decide ((1099511627776 : Int) < more) = false := decide_eq_false (by omega)
  have n1 := onew_ok w 3 1125899906842624 (by omega) (by omega) (by omega)
  go_enter Try.func5, Try.ntmps5
  go_wp2_with fail
  refine n1.mono ?_
  rintro e w1 ⟨rfl, h1', b1⟩
  obtain ⟨o, ho⟩ : ∃ o, w.heap.size + 1 = o := ⟨_, rfl⟩
  obtain ⟨b, hb⟩ : ∃ b, w.heap.size = b := ⟨_, rfl⟩
  rw [ho, hb] at h1'
  rw [ho]
  have hbo : w.heap.size ≤ o := by omega
  have hbb : w.heap.size ≤ b := by omega
  have HO := Lib.hid h1'
  have HB := Lib.hid b1
  clear n1 ho hb h1' b1 q1 q2 q3 q4 q5
  go_wp2_with fail
  go_loopw [8] (fun vi wq => ∃ i : Nat, i ≤ n ∧ vi = .int .i64 i ∧ Hid (OrcAt wq o b 3 1125899906842624 (List.replicate i 3)) ∧ Hid (Below w.heap.size w wq)) (fun vi _ => n - (intOf vi).toNat)
  case atStart => exact ⟨0, Nat.zero_le _, rfl, HO, HB⟩
  case round =>
    clear HO HB
    obtain ⟨wq, rfl⟩ : ∃ wq, wq = wr := ⟨_, rfl⟩
    obtain ⟨i, hi, rfl, HO, HB⟩ := hrel
    by_cases hil : i < n
    · have q1 : (i : Int) < (n : Int) := by omega
      have c1 := obegin_ok HO.out (by simp; omega)
      rw [← List.replicate_succ] at c1
      go_wp2_with fail
      refine c1.mono ?_
      rintro e w2 ⟨rfl, h2, k2⟩
      have HO2 := Lib.hid h2
      have HB2 := Lib.hid (keep_two HB.out k2 hbo hbb HB.out.size)
      clear h2 k2 c1
      go_wp2_with fail
      exact ⟨⟨i + 1, by omega, by go_num, HO2, HB2⟩, by simp [intOf]; omega⟩
    · obtain rfl : i = n := by omega
      have q1 : ¬ (i : Int) < (i : Int) := by omega
      obtain ⟨n, rfl⟩ : ∃ n, n = i := ⟨_, rfl⟩
      have c1 := opub_ok (4 + more) HO.out
      rw [decide_eq_true (by omega), if_pos (by omega)] at c1
      obtain ⟨L, hL⟩ : ∃ L, 4 + more = L := ⟨_, rfl⟩
      have hL3 : 4 ≤ L := by omega
      rw [hL] at c1
      go_wp2_with fail
      refine c1.mono ?_
      rintro e w2 ⟨rfl, h2, k2⟩
      have HO2 := Lib.hid h2
      have HB2 := Lib.hid (keep_two HB.out k2 hbo hbb HB.out.size)
      clear h2 k2 c1 HO HB
      go_wp2_with fail
      go_loopw [9] (fun vj wq => ∃ j : Nat, j ≤ m ∧ vj = .int .i64 j ∧ Hid (OrcAt wq o b L 1125899906842624 (List.replicate (n - j) 3)) ∧ Hid (Below w.heap.size w wq)) (fun vj _ => m - (intOf vj).toNat)
      case atStart => exact ⟨0, Nat.zero_le _, rfl, HO2, HB2⟩
      case round =>
        clear HO2 HB2
        obtain ⟨wu, rfl⟩ : ∃ wu, wu = wr := ⟨_, rfl⟩
        obtain ⟨j, hj, rfl, HO, HB⟩ := hrel
        by_cases hjl : j < m
        · have q2 : (j : Int) < (m : Int) := by omega
          have c2 := oend_ok 3 HO.out
          rw [rep_erase, show n - j - 1 = n - (j + 1) by omega] at c2
          have hd : decide ((3 : Int) ∈ List.replicate (n - j) (3 : Int)) = decide ((j : Int) < (n : Int)) := decide_eq_decide.2 (by rw [rep_mem]; constructor <;> intro h <;> omega)
          rw [hd] at c2
          go_wp2_with fail
          refine c2.mono ?_
          rintro e w3 ⟨rfl, h3, k3⟩
          have HO3 := Lib.hid h3
          have HB3 := Lib.hid (keep_two HB.out k3 hbo hbb HB.out.size)
          clear h3 k3 c2 hd
          go_wp2_with fail
          exact ⟨⟨j + 1, by omega, by go_num, HO3, HB3⟩, by simp [intOf]; omega⟩
        · obtain rfl : j = m := by omega
          have q2 : ¬ (j : Int) < (j : Int) := by omega
          obtain ⟨m, rfl⟩ : ∃ m, m = j := ⟨_, rfl⟩
          by_cases hmn : m < n
          · have q3 : (m : Int) < (n : Int) := by omega
            have c3 := oopen_ok HO.out
            rw [List.length_replicate] at c3
            have c4 := ohor_rep HO.out (by omega)
            rw [if_neg (by omega)] at c4
            have e1 : max 0 ((n : Int) - (m : Int)) = ((n - m : Nat) : Int) := by omega
            have e2 : decide (L ∈ List.replicate (n - m) (3 : Int)) = false := decide_eq_false (by rw [rep_mem]; omega)
            have E2 := Lib.hid e2
            clear e2
            go_wp2_with fail
            refine c3.mono ?_
            rintro e w9 ⟨rfl, h9⟩
            replace h9 := h9.symm
            subst h9
            clear c3
            go_wp2_with fail
            refine c4.mono ?_
            rintro e w4 ⟨rfl, t4⟩
            have c5 := oend_ok L (HO.out.below t4)
            rw [E2.out] at c5
            have HB4 := Lib.hid (below_then t4 HB.out)
            clear t4 c4
            go_wp2_with fail
            refine c5.mono ?_
            rintro e w5 ⟨rfl, h5, k5⟩
            have HB5 := Lib.hid (keep_two HB4.out k5 hbo hbb HB4.out.size)
            have c6 := stamps_any w5
            clear c5 h5 k5
            go_wp2_with fail
            refine c6.mono ?_
            rintro e w6 ⟨rfl, t6⟩
            have HB6 := Lib.hid (below_then t6 HB5.out)
            clear c6 t6
            go_wp2_with fail
            go_ret
            exact ⟨rfl, HB6.out⟩
          · have q3 : ¬ (m : Int) < (n : Int) := by omega
            have c3 := oopen_ok HO.out
            rw [List.length_replicate] at c3
            have c4 := ohor_rep HO.out (by omega)
            rw [if_pos (by omega)] at c4
            have e1 : max 0 ((n : Int) - (m : Int)) = ((n - m : Nat) : Int) := by omega
            have e2 : decide (L ∈ List.replicate (n - m) (3 : Int)) = false := decide_eq_false (by rw [rep_mem]; omega)
            have E2 := Lib.hid e2
            clear e2
            go_wp2_with fail
            refine c3.mono ?_
            rintro e w9 ⟨rfl, h9⟩
            replace h9 := h9.symm
            subst h9
            clear c3
            go_wp2_with fail
            refine c4.mono ?_
            rintro e w4 ⟨rfl, t4⟩
            have c5 := oend_ok L (HO.out.below t4)
            rw [E2.out] at c5
            have HB4 := Lib.hid (below_then t4 HB.out)
            clear t4 c4
            go_wp2_with fail
            refine c5.mono ?_
            rintro e w5 ⟨rfl, h5, k5⟩
            have HB5 := Lib.hid (keep_two HB4.out k5 hbo hbb HB4.out.size)
            have c6 := stamps_any w5
            clear c5 h5 k5
            go_wp2_with fail
            refine c6.mono ?_
            rintro e w6 ⟨rfl, t6⟩
            have HB6 := Lib.hid (below_then t6 HB5.out)
            clear c6 t6
            go_wp2_with fail
            go_ret
            exact ⟨rfl, HB6.out⟩
set_option maxRecDepth 100000 in
set_option maxHeartbeats 8000000 in
theorem ends_bad (n m more : Int) (h : ¬ (0 ≤ n ∧ n ≤ 60 ∧ 0 ≤ m ∧ m ≤ 60 ∧ more ≤ 1099511627776)) (w : World) : Calls Try.prog 5 #[.int .i64 n, .int .i64 m, .int .u64 more] w fun e w' => e = .returned (.bool true) ∧ Below w.heap.size w w' := by
  have st := stamps_any w
  obtain ⟨B1, hB1⟩ : ∃ B, decide (n < 0) = B := ⟨_, rfl⟩
  obtain ⟨B2, hB2⟩ : ∃ B, decide ((60 : Int) < n) = B := ⟨_, rfl⟩
  obtain ⟨B3, hB3⟩ : ∃ B, decide (m < 0) = B := ⟨_, rfl⟩
  obtain ⟨B4, hB4⟩ : ∃ B, decide ((60 : Int) < m) = B := ⟨_, rfl⟩
  obtain ⟨B5, hB5⟩ : ∃ B, decide ((1099511627776 : Int) < more) = B := ⟨_, rfl⟩
  have hor : (B1 || (B2 || (B3 || (B4 || B5)))) = true := by
    rw [← hB1, ← hB2, ← hB3, ← hB4, ← hB5]
    simp only [Bool.or_eq_true, decide_eq_true_eq]
    omega
  clear h
  cases B1 <;> cases B2 <;> cases B3 <;> cases B4 <;> cases B5 <;> first
    | (exfalso; revert hor; decide)
    | (clear hor
       go_enter Try.func5, Try.ntmps5
       go_wp2_with fail
       refine st.mono ?_
       rintro e w6 ⟨rfl, t6⟩
       have T6 := Lib.hid t6
       clear t6 st
       go_wp2_with fail
       go_ret
       exact ⟨rfl, T6.out⟩)
theorem ends_any (n m more : Int) (h0 : 0 ≤ more) (w : World) : Calls Try.prog 5 #[.int .i64 n, .int .i64 m, .int .u64 more] w fun e w' => e = .returned (.bool true) ∧ Below w.heap.size w w' := by
  by_cases h : 0 ≤ n ∧ n ≤ 60 ∧ 0 ≤ m ∧ m ≤ 60 ∧ more ≤ 1099511627776
  · obtain ⟨k, rfl⟩ : ∃ k : Nat, n = k := ⟨n.toNat, by omega⟩
    obtain ⟨l, rfl⟩ : ∃ l : Nat, m = l := ⟨m.toNat, by omega⟩
    exact ends_good k l more (by omega) (by omega) h0 h.2.2.2.2 w
  · exact ends_bad n m more h w
end Go.Proofs.Ytpibaahiboajhaa
