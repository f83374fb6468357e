/-
  Sorting a row of uint64: patterns broken; how long a number is.
-/
import Derived.Test.YtpibaahiboajhaaSrt8
import Derived.Test.YtpibaahiboajhaaBufK
import Derived.Sort.Walk7
import Derived.Sort.WalkA14
import Derived.Sort.EveryDepth
set_option linter.unusedSimpArgs false
set_option linter.unusedVariables false
namespace Go.Proofs.Ytpibaahiboajhaa
open Go.RowKit Go.Cib
attribute [local go_sem] cell_set Later.cell Later.frozen Grw.cell Grw.frozen
open Go.Sort Go.Proofs Go.Shelf

theorem xorshift_u (rb X : Nat) (hX : X < 18446744073709551616) (w : World) (hc : w.cell? ⟨rb, 0, none⟩ = some (.int .u64 X)) (hf : w.frozen? ⟨rb, 0, none⟩ = false) :
    Calls Try.prog 174 #[.pointer (some ⟨rb, 0, none⟩)] w fun e w' => e = .returned (.int .u64 (xorNextN X : Nat)) ∧ w' = (w.setCell ⟨rb, 0, none⟩ (.int .u64 (xorNextN X : Nat))).drewN 3 :=
  calls_of_every_depth fun D => AnySM.xorshift_NextInS (ρ := Try.sortW_ren) { Try.sortW with } D rb 0 X hX w hc hf
theorem nextPow_u (n : Nat) (hn : n < 4611686018427387904) (w : World) :
    Calls Try.prog 173 #[.int .i64 n] w fun e w' => e = .returned (.int .u64 ((1 <<< bitsLen n : Nat) : Int)) ∧ w' = w :=
  calls_of_every_depth fun D => AnySM.nextPowerOfTwoInS (ρ := Try.sortW_ren) { Try.sortW with } D n hn w
theorem bitsLen_u (n : Nat) (hn : n < 4611686018427387904) (w : World) :
    Calls Try.prog 132 #[.int .u64 (n : Int)] w fun e w' => e = .returned (.int .i64 (bitsLen n : Nat)) ∧ w' = w := by
  have h : Calls Try.prog 132 #[.int .u64 (n : Int)] w fun e w' => e = .returned (.int .i64 (Lib.bitLen (n : Int).toNat)) ∧ w' = w :=
    calls_of_every_depth fun D => AnySM.bits_LenInS (ρ := Try.sortW_ren) { Try.sortW with } D (n : Int) w (by omega) (by omega)
  rwa [Int.toNat_natCast, bitLen_eq _ (by omega)] at h

theorem heap_two {w : World} {sb blk i j : Nat} {o : Option Obj} {x y : Value} (h : w.heap[sb]? = o) (hne : blk < sb) : (((w.setCell ⟨blk, i, none⟩ x).setCell ⟨blk, j, none⟩ y).drew).heap[sb]? = o := by
  rw [← h]
  exact (Below.heap_setCell _ _ _ _ (by show sb ≠ blk; omega)).trans (Below.heap_setCell _ _ _ _ (by show sb ≠ blk; omega))
set_option maxRecDepth 100000 in
set_option maxHeartbeats 8000000 in
theorem break_go {w wr : World} {blk off n cap a L : Nat} {d : Array Int} (h : RowIs w blk off n wr d) (hb : a + L ≤ n) (hn : n ≤ 1000000) (h8 : 8 ≤ L) :
    Calls Try.prog 148 #[.slice (some ⟨blk, off, none⟩) n cap, .int .i64 a, .int .i64 ((a + L : Nat) : Int)] wr fun e w' => e = .returned (.tuple #[]) ∧ RowIs w blk off n w' (breakPatterns d a (a + L)) := by
  rw [breakPatterns_eq d a L h8]
  obtain ⟨M, hM⟩ : ∃ M : Nat, M = 1 <<< bitsLen L := ⟨_, rfl⟩
  have hM1 : 1 ≤ M := by rw [hM, Nat.one_shiftLeft]; exact Nat.two_pow_pos _
  have hM2 : M ≤ 2 * L := by rw [hM, Nat.one_shiftLeft]; exact two_pow_bitsLen_le (by omega)
  have hNP : ∀ w, Calls Try.prog 173 #[.int .i64 (L : Int)] w fun e w' => e = .returned (.int .u64 (M : Int)) ∧ w' = w := by rw [hM]; exact fun w => nextPow_u L (by omega) w
  rw [← hM]
  have hsb : w.heap.size ≤ wr.heap.size := h.grown.size
  have hA : Hid (RowIs w blk off n (wr.alloc (.cells #[.int .u64 (L : Int)] 243)) d) := Lib.hid (h.later (World.grownBy_alloc _ _ none) (fun k e => by cases e))
  obtain ⟨sb, hsbe⟩ : ∃ sb, wr.heap.size = sb := ⟨_, rfl⟩
  have hB : Hid ((wr.alloc (.cells #[.int .u64 (L : Int)] 243)).heap[sb]? = some (.cells #[.int .u64 ((UInt64.ofNat L).toNat : Int)] 243 (0, 0))) := Lib.hid (by
    rw [show (UInt64.ofNat L).toNat = L from by simp; omega, ← hsbe]
    exact World.alloc_heap_new _ _)
  rw [hsbe] at hsb
  have hsbl : blk < sb := by have := h.lt; omega
  clear hM h
  go_enter Try.func148, Try.ntmps148
  go_wp2_with (first | (go_at_call 173; rw [show ((a : Int) + (L : Int) - (a : Int)) = (L : Int) by omega]; refine (hNP _).mono ?_; rintro e w' ⟨rfl, rfl⟩))
  clear hNP
  go_loopw [9] (fun vi wq => ∃ (t : Nat) (r : UInt64) (dk : Array Int), vi = .int .i64 ((a + L / 4 * 2 - 1 + t : Nat) : Int) ∧ t ≤ 3 ∧ Hid (RowIs w blk off n wq dk) ∧ Hid (wq.heap[sb]? = some (.cells #[.int .u64 (r.toNat : Int)] 243 (0, 0))) ∧
      Hid (bpRest a L M (a + L / 4 * 2 - 1) (3 - t) t (r, dk) = bpRest a L M (a + L / 4 * 2 - 1) 3 0 (UInt64.ofNat L, d))) (fun vi _ => a + L / 4 * 2 + 3 - (intOf vi).toNat)
  case atStart => exact ⟨0, UInt64.ofNat L, d, by congr 1; omega, by omega, hA, hB, Lib.hid rfl⟩
  case round =>
    clear hA hB
    obtain ⟨wq, rfl⟩ : ∃ wq, wq = wr := ⟨_, rfl⟩
    obtain ⟨t, r, dk, rfl, ht, HW, HB, HR⟩ := hrel
    obtain ⟨I0, hI0⟩ : ∃ I0 : Nat, a + L / 4 * 2 - 1 + t = I0 := ⟨_, rfl⟩
    rw [hI0]
    obtain ⟨R, hRr⟩ : ∃ R : Nat, R = r.toNat := ⟨_, rfl⟩
    have lR : R < 18446744073709551616 := by rw [hRr]; exact r.toNat_lt
    obtain ⟨R', hR'⟩ : ∃ R' : Nat, R' = xorNextN R := ⟨_, rfl⟩
    have lR' : R' < 18446744073709551616 := by rw [hR']; exact xorNextN_lt R lR
    obtain ⟨O, hO⟩ : ∃ O : Nat, O = R' &&& (M - 1) := ⟨_, rfl⟩
    have lO : O ≤ M - 1 := by rw [hO]; exact Nat.and_le_right
    have eAnd : bits .and .u64 (R' : Int) ((M : Int) - 1) = (O : Int) := by
      rw [show ((M : Int) - 1) = ((M - 1 : Nat) : Int) by omega, bits_and_u64_nat _ _ lR' (by omega), hO]
    obtain ⟨hcB, hfB⟩ := cell_of_box_a HB.out
    rw [← hRr] at hcB
    have hNext : Calls Try.prog 174 #[.pointer (some ⟨sb, 0, none⟩)] wq fun e w' => e = .returned (.int .u64 (R' : Int)) ∧ w' = (wq.setCell ⟨sb, 0, none⟩ (.int .u64 (R' : Int))).drewN 3 := by
      rw [hR']; exact xorshift_u _ R lR wq hcB hfB
    have HN : Hid (R' = (xorNext r).toNat ∧ O = (xorNext r).toNat &&& (M - 1)) := by
      have e : R' = (xorNext r).toNat := by rw [hR', hRr, xorNext_toNat]
      exact Lib.hid ⟨e, by rw [hO, e]⟩
    have H3' : RowIs w blk off n ((wq.setCell ⟨sb, 0, none⟩ (.int .u64 (R' : Int))).drewN 3) dk := (HW.out.later (grownBy_setCell0_a _ _ _) (fun k e => by cases e; exact hsb)).drewN 3
    have hB3 : ((wq.setCell ⟨sb, 0, none⟩ (.int .u64 (R' : Int))).drewN 3).heap[sb]? = some (.cells #[.int .u64 ((xorNext r).toNat : Int)] 243 (0, 0)) := by
      rw [← HN.out.1]
      exact heap_setCell_box_a _ HB.out
    obtain ⟨w3, hw3⟩ : ∃ w3, (wq.setCell ⟨sb, 0, none⟩ (.int .u64 (R' : Int))).drewN 3 = w3 := ⟨_, rfl⟩
    rw [hw3] at H3' hB3 hNext
    have H3 := Lib.hid H3'
    have HB3' := Lib.hid hB3
    obtain ⟨G, cw, fw, HG⟩ := H3.out.family
    clear H3' hB3 hRr hR' hO hcB hfB hw3
    go_wp2_with (first | (go_at_call 174; refine hNext.mono ?_; rintro e w' ⟨rfl, rfl⟩))
    · -- the place is too far
      have hLO : L ≤ O := by omega
      have hI0n : I0 < n := by omega
      have hJn : a + (O - L) < n := by omega
      have HI0 := Lib.hid hI0
      have ht3 : t < 3 := by omega
      by_cases hEq : I0 = a + (O - L)
      · subst hEq
        clear hI0
        go_region
        all_goals
          have H4 := Lib.hid (H3.out.swap (i := a + (O - L)) (j := a + (O - L)) (by omega) (by omega) (HG.out _) (HG.out _))
          go_wp2
          go_roundw
          case rel =>
            have e9 := HI0.out
            refine ⟨t + 1, xorNext r, swp dk (a + (O - L)) (a + (O - L)), by first | rfl | (congr 1 <;> omega), by omega, ?_, ?_, ?_⟩
            · first | exact Lib.hid H4.out | exact Lib.hid H4.out.drew
            · exact Lib.hid (heap_two HB3'.out hsbl)
            · exact Lib.hid (by rw [← HR.out, bp_step a L M _ t r dk (O - L) (by omega) (by rw [← HN.out.2, if_pos (by omega)]), HI0.out])
          case measure =>
            have e9 := HI0.out
            simp [intOf]; omega
      · skip
        go_region
        all_goals
          have H4 := Lib.hid (H3.out.swap (i := I0) (j := a + (O - L)) (by omega) (by omega) (HG.out _) (HG.out _))
          go_wp2
          go_roundw
          case rel =>
            have e9 := HI0.out
            refine ⟨t + 1, xorNext r, swp dk (I0) (a + (O - L)), by first | rfl | (congr 1 <;> omega), by omega, ?_, ?_, ?_⟩
            · first | exact Lib.hid H4.out | exact Lib.hid H4.out.drew
            · exact Lib.hid (heap_two HB3'.out hsbl)
            · exact Lib.hid (by rw [← HR.out, bp_step a L M _ t r dk (O - L) (by omega) (by rw [← HN.out.2, if_pos (by omega)]), HI0.out])
          case measure =>
            have e9 := HI0.out
            simp [intOf]; omega
    · skip
      have hLO : ¬ L ≤ O := by omega
      have hI0n : I0 < n := by omega
      have hJn : a + O < n := by omega
      have HI0 := Lib.hid hI0
      have ht3 : t < 3 := by omega
      by_cases hEq : I0 = a + O
      · subst hEq
        clear hI0
        go_region
        all_goals
          have H4 := Lib.hid (H3.out.swap (i := a + O) (j := a + O) (by omega) (by omega) (HG.out _) (HG.out _))
          go_wp2
          go_roundw
          case rel =>
            have e9 := HI0.out
            refine ⟨t + 1, xorNext r, swp dk (a + O) (a + O), by first | rfl | (congr 1 <;> omega), by omega, ?_, ?_, ?_⟩
            · first | exact Lib.hid H4.out | exact Lib.hid H4.out.drew
            · exact Lib.hid (heap_two HB3'.out hsbl)
            · exact Lib.hid (by rw [← HR.out, bp_step a L M _ t r dk O (by omega) (by rw [← HN.out.2, if_neg (by omega)]), HI0.out])
          case measure =>
            have e9 := HI0.out
            simp [intOf]; omega
      · skip
        go_region
        all_goals
          have H4 := Lib.hid (H3.out.swap (i := I0) (j := a + O) (by omega) (by omega) (HG.out _) (HG.out _))
          go_wp2
          go_roundw
          case rel =>
            have e9 := HI0.out
            refine ⟨t + 1, xorNext r, swp dk (I0) (a + O), by first | rfl | (congr 1 <;> omega), by omega, ?_, ?_, ?_⟩
            · first | exact Lib.hid H4.out | exact Lib.hid H4.out.drew
            · exact Lib.hid (heap_two HB3'.out hsbl)
            · exact Lib.hid (by rw [← HR.out, bp_step a L M _ t r dk O (by omega) (by rw [← HN.out.2, if_neg (by omega)]), HI0.out])
          case measure =>
            have e9 := HI0.out
            simp [intOf]; omega
    · obtain rfl : t = 3 := by omega
      go_end0
      refine ⟨rfl, ?_⟩
      rw [← HR.out]
      exact HW.out

theorem break_u {w wr : World} {blk off n cap a b : Nat} {d : Array Int} (h : RowIs w blk off n wr d) (hab : a ≤ b) (hb : b ≤ n) (hn : n ≤ 1000000) :
    Calls Try.prog 148 #[.slice (some ⟨blk, off, none⟩) n cap, .int .i64 a, .int .i64 b] wr fun e w' => e = .returned (.tuple #[]) ∧ RowIs w blk off n w' (breakPatterns d a b) := by
  obtain ⟨L, rfl⟩ : ∃ L, b = a + L := ⟨b - a, by omega⟩
  by_cases h8 : 8 ≤ L
  · exact break_go h hb hn h8
  · have hv : breakPatterns d a (a + L) = d := by unfold breakPatterns; simp only [Nat.add_sub_cancel_left]; rw [if_neg h8]
    rw [hv]
    have H := Lib.hid h
    clear h
    go_enter Try.func148, Try.ntmps148
    go_wp2
    go_end0
    exact ⟨rfl, H.out⟩
end Go.Proofs.Ytpibaahiboajhaa
