/-
  Sorting a row of uint64: the pivot.
-/
import Derived.Test.YtpibaahiboajhaaSrt7
import Derived.Sort.Walk11
set_option linter.unusedSimpArgs false
set_option linter.unusedVariables false
namespace Go.Proofs.Ytpibaahiboajhaa
open Go.RowKit Go.Cib
attribute [local go_sem] cell_set Later.cell Later.frozen Grw.cell Grw.frozen
open Go.Sort Go.Proofs

set_option maxRecDepth 100000 in
set_option maxHeartbeats 16000000 in
theorem pivot_u {w wr : World} {blk off n cap a b : Nat} {d : Array Int} (h : RowIs w blk off n wr d) (hab : a < b) (hb : b ≤ n) (hn : n ≤ 1000000) :
    Calls Try.prog 149 #[.slice (some ⟨blk, off, none⟩) n cap, .int .i64 a, .int .i64 b] wr fun e w' =>
      e = .returned (.tuple #[.int .i64 (choosePivot ltInt d a b).1, .int .i64 (hintCode (choosePivot ltInt d a b).2)]) ∧ RowIs w blk off n w' d := by
  obtain ⟨wA, hwA⟩ : ∃ wA, wr.alloc (.cells #[.int .i64 0] 3) = wA := ⟨_, rfl⟩
  have hA : RowIs w blk off n wA d := by rw [← hwA]; exact h.later (World.grownBy_alloc _ _ none) (fun k e => by cases e)
  have cA : CntIs wA wr.heap.size 0 := by rw [← hwA]; exact ⟨_, World.alloc_heap_new _ _⟩
  have hsb : w.heap.size ≤ wr.heap.size := h.grown.size
  rw [choosePivot_eq]
  obtain ⟨I, hI⟩ : ∃ I : Nat, I = a + (b - a) / 4 * 1 := ⟨_, rfl⟩
  obtain ⟨J, hJ⟩ : ∃ J : Nat, J = a + (b - a) / 4 * 2 := ⟨_, rfl⟩
  obtain ⟨K, hK⟩ : ∃ K : Nat, K = a + (b - a) / 4 * 3 := ⟨_, rfl⟩
  have eI : ((a : Int) + ((b : Int) - (a : Int)) / 4) = (I : Int) := by omega
  have eJ : ((a : Int) + ((b : Int) - (a : Int)) / 4 * 2) = (J : Int) := by omega
  have eK : ((a : Int) + ((b : Int) - (a : Int)) / 4 * 3) = (K : Int) := by omega
  by_cases h8 : b - a ≥ 8
  · by_cases h50 : b - a ≥ 50
    · skip
      obtain ⟨i1, s1, h1⟩ : ∃ i1 s1, medianAdjacent ltInt d I 0 = (i1, s1) := ⟨_, _, rfl⟩
      obtain ⟨j1, s2, h2⟩ : ∃ j1 s2, medianAdjacent ltInt d J s1 = (j1, s2) := ⟨_, _, rfl⟩
      obtain ⟨k1, s3, h3⟩ : ∃ k1 s3, medianAdjacent ltInt d K s2 = (k1, s3) := ⟨_, _, rfl⟩
      obtain ⟨p, s, h4⟩ : ∃ p s, median ltInt d i1 j1 k1 s3 = (p, s) := ⟨_, _, rfl⟩
      have hraw : rawPivot ltInt d a b = (p, s) := by simp only [rawPivot, if_pos h8, if_pos h50, ← hI, ← hJ, ← hK, h1, h2, h3, h4]
      have m1 := medianAdjacent_mem ltInt d I 0; rw [h1] at m1
      have m2 := medianAdjacent_mem ltInt d J s1; rw [h2] at m2
      have m3 := medianAdjacent_mem ltInt d K s2; rw [h3] at m3
      have n1 := medianAdjacent_count ltInt d I 0; rw [h1] at n1
      have n2 := medianAdjacent_count ltInt d J s1; rw [h2] at n2
      have n3 := medianAdjacent_count ltInt d K s2; rw [h3] at n3
      simp only at m1 m2 m3 n1 n2 n3
      rw [hraw]
      obtain ⟨Hc, hHc⟩ : ∃ Hc : Int, Hc = hintCode (hintOf s) := ⟨_, rfl⟩
      have hh0 : s = 0 → Hc = 1 := fun h => by rw [hHc, h]; rfl
      have hh12 : s = 12 → Hc = 2 := fun h => by rw [hHc, h]; rfl
      have hhx : s ≠ 0 → s ≠ 12 → Hc = 0 := fun h1 h2 => by rw [hHc]; unfold hintOf; rw [if_neg h1, if_neg h2]; rfl
      simp only
      rw [← hHc]
      clear hHc
      have c1 := medianAdj_u (a := I) hA cA hsb (by omega) (by omega) hn (by omega) (cap := cap)
      rw [h1] at c1
      have c2 := fun (w1 : World) (t1 : RowIs w blk off n w1 d) (r1 : CntIs w1 wr.heap.size s1) => medianAdj_u (a := J) t1 r1 hsb (by omega) (by omega) hn (by omega) (cap := cap)
      rw [h2] at c2
      have c3 := fun (w1 : World) (t1 : RowIs w blk off n w1 d) (r1 : CntIs w1 wr.heap.size s2) => medianAdj_u (a := K) t1 r1 hsb (by omega) (by omega) hn (by omega) (cap := cap)
      rw [h3] at c3
      have c4 := fun (w1 : World) (t1 : RowIs w blk off n w1 d) (r1 : CntIs w1 wr.heap.size s3) => median_u (a := i1) (b := j1) (c := k1) t1 r1 hsb (by omega) (by omega) (by omega) hn (by omega) (cap := cap)
      rw [h4] at c4
      have q8 : (8 : Int) ≤ (b : Int) - (a : Int) := by omega
      have q50 : (50 : Int) ≤ (b : Int) - (a : Int) := by omega
      clear h1 h2 h3 h4 hI hJ hK m1 m2 m3 h hraw hA cA
      go_enter Try.func149, Try.ntmps149
      go_wp2_with fail
      clear hwA
      refine c1.mono ?_
      rintro e w1 ⟨rfl, t1, r1⟩
      have c2' := c2 w1 t1 r1
      clear c1 c2 t1 r1
      go_wp2_with fail
      refine c2'.mono ?_
      rintro e w2 ⟨rfl, t2, r2⟩
      have c3' := c3 w2 t2 r2
      clear c2' c3 t2 r2
      go_wp2_with fail
      refine c3'.mono ?_
      rintro e w3 ⟨rfl, t3, r3⟩
      have c4' := c4 w3 t3 r3
      clear c3' c4 t3 r3
      go_wp2_with fail
      refine c4'.mono ?_
      rintro e w4 ⟨rfl, t4, r4⟩
      have T := Lib.hid t4
      have C := Lib.hid r4
      clear c4' t4 r4
      have cs := C.out.cell
      have fs := C.out.frozen
      by_cases hs0 : s = 0
      · obtain rfl := hh0 hs0
        have e0 : (s : Int) = 0 := by omega
        have e1 : ((s : Int) == 0) = true := beq_iff_eq.2 e0
        have e2 : decide ((s : Int) = 0) = true := decide_eq_true e0
        clear e0 hs0 hh0 hh12 hhx
        go_wp2_with fail
        refine bodyPost_ret (v := .tuple #[.int .i64 p, .int .i64 1]) (by simp [results, Try.results149, go_sem, *]) rfl ?_
        exact ⟨rfl, T.out⟩
      · have e0 : ¬ (s : Int) = 0 := by omega
        have e1 : ((s : Int) == 0) = false := beq_eq_false_iff_ne.2 e0
        have e2 : decide ((s : Int) = 0) = false := decide_eq_false e0
        by_cases hs12 : s = 12
        · obtain rfl := hh12 hs12
          have e3 : (s : Int) = 12 := by omega
          have e4 : ((s : Int) == 12) = true := beq_iff_eq.2 e3
          have e5 : decide ((s : Int) = 12) = true := decide_eq_true e3
          clear e3 hs12 hh0 hh12 hhx hs0
          go_wp2_with fail
          refine bodyPost_ret (v := .tuple #[.int .i64 p, .int .i64 2]) (by simp [results, Try.results149, go_sem, *]) rfl ?_
          exact ⟨rfl, T.out⟩
        · obtain rfl := hhx hs0 hs12
          have e3 : ¬ (s : Int) = 12 := by omega
          have e4 : ((s : Int) == 12) = false := beq_eq_false_iff_ne.2 e3
          have e5 : decide ((s : Int) = 12) = false := decide_eq_false e3
          clear hs12 hh0 hh12 hhx
          go_wp2_with fail
          refine bodyPost_ret (v := .tuple #[.int .i64 p, .int .i64 0]) (by simp [results, Try.results149, go_sem, *]) rfl ?_
          exact ⟨rfl, T.out⟩
    · skip
      obtain ⟨p, s, h4⟩ : ∃ p s, median ltInt d I J K 0 = (p, s) := ⟨_, _, rfl⟩
      have hraw : rawPivot ltInt d a b = (p, s) := by simp only [rawPivot, if_pos h8, if_neg h50, ← hI, ← hJ, ← hK, h4]
      rw [hraw]
      obtain ⟨Hc, hHc⟩ : ∃ Hc : Int, Hc = hintCode (hintOf s) := ⟨_, rfl⟩
      have hh0 : s = 0 → Hc = 1 := fun h => by rw [hHc, h]; rfl
      have hh12 : s = 12 → Hc = 2 := fun h => by rw [hHc, h]; rfl
      have hhx : s ≠ 0 → s ≠ 12 → Hc = 0 := fun h1 h2 => by rw [hHc]; unfold hintOf; rw [if_neg h1, if_neg h2]; rfl
      simp only
      rw [← hHc]
      clear hHc
      have c4 := median_u (a := I) (b := J) (c := K) hA cA hsb (by omega) (by omega) (by omega) hn (by omega) (cap := cap)
      rw [h4] at c4
      have q8 : (8 : Int) ≤ (b : Int) - (a : Int) := by omega
      have q50 : ¬ (50 : Int) ≤ (b : Int) - (a : Int) := by omega
      clear h4 hI hJ hK h hraw hA cA
      go_enter Try.func149, Try.ntmps149
      go_wp2_with fail
      clear hwA
      refine c4.mono ?_
      rintro e w4 ⟨rfl, t4, r4⟩
      have T := Lib.hid t4
      have C := Lib.hid r4
      clear c4 t4 r4
      have cs := C.out.cell
      have fs := C.out.frozen
      by_cases hs0 : s = 0
      · obtain rfl := hh0 hs0
        have e0 : (s : Int) = 0 := by omega
        have e1 : ((s : Int) == 0) = true := beq_iff_eq.2 e0
        have e2 : decide ((s : Int) = 0) = true := decide_eq_true e0
        clear e0 hs0 hh0 hh12 hhx
        go_wp2_with fail
        refine bodyPost_ret (v := .tuple #[.int .i64 p, .int .i64 1]) (by simp [results, Try.results149, go_sem, *]) rfl ?_
        exact ⟨rfl, T.out⟩
      · have e0 : ¬ (s : Int) = 0 := by omega
        have e1 : ((s : Int) == 0) = false := beq_eq_false_iff_ne.2 e0
        have e2 : decide ((s : Int) = 0) = false := decide_eq_false e0
        by_cases hs12 : s = 12
        · obtain rfl := hh12 hs12
          have e3 : (s : Int) = 12 := by omega
          have e4 : ((s : Int) == 12) = true := beq_iff_eq.2 e3
          have e5 : decide ((s : Int) = 12) = true := decide_eq_true e3
          clear e3 hs12 hh0 hh12 hhx hs0
          go_wp2_with fail
          refine bodyPost_ret (v := .tuple #[.int .i64 p, .int .i64 2]) (by simp [results, Try.results149, go_sem, *]) rfl ?_
          exact ⟨rfl, T.out⟩
        · obtain rfl := hhx hs0 hs12
          have e3 : ¬ (s : Int) = 12 := by omega
          have e4 : ((s : Int) == 12) = false := beq_eq_false_iff_ne.2 e3
          have e5 : decide ((s : Int) = 12) = false := decide_eq_false e3
          clear hs12 hh0 hh12 hhx
          go_wp2_with fail
          refine bodyPost_ret (v := .tuple #[.int .i64 p, .int .i64 0]) (by simp [results, Try.results149, go_sem, *]) rfl ?_
          exact ⟨rfl, T.out⟩
  · skip
    have hraw : rawPivot ltInt d a b = (J, 0) := by simp only [rawPivot, if_neg h8, ← hJ]
    rw [hraw]
    have hc : hintCode (hintOf 0) = 1 := rfl
    simp only
    rw [hc]
    have q8 : ¬ (8 : Int) ≤ (b : Int) - (a : Int) := by omega
    have T := Lib.hid hA
    have cs := cA.cell
    clear hI hJ hK h hraw hA cA hc
    go_enter Try.func149, Try.ntmps149
    go_wp2_with fail
    refine bodyPost_ret (v := .tuple #[.int .i64 J, .int .i64 1]) (by simp [results, Try.results149, go_sem, *]) rfl ?_
    exact ⟨rfl, T.out⟩
end Go.Proofs.Ytpibaahiboajhaa
