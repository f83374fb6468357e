/-
  The coder's parity.
-/
import Derived.Test.YthhljmlpjnkfgaaGreatDec1
set_option linter.unusedSimpArgs false
set_option linter.unusedVariables false
namespace Go.Proofs.YthhljmlpjnkfgaaGreat
open Go.RowKit Go.Cib
attribute [local go_sem] cell_set Later.cell Later.frozen Grw.cell Grw.frozen

def evB (ss : Rws) : Bool := ss.all fun r => decide (r.length = (ra ss 0).length)
set_option maxRecDepth 100000 in
set_option maxHeartbeats 4000000 in
theorem even_any {w : World} {A : Option Addr} {N c : Nat} {S : Nat → Prop} {ss : Rws} (R : RdL RowR 1 S w A N ss) (hN : N ≤ 1000) :
    Calls Tryz.prog 67 #[.slice A N c] w fun e w' => e = .returned (.bool (evB ss)) ∧ w' = w := by
  have HR := Lib.hid R
  have hl := R.1
  have q0 : (N : Int) ≤ 1000 := by omega
  clear R
  go_enter Tryz.func67, Tryz.ntmps67
  go_wp2_with fail
  go_loopw [7] (fun vi wr => ∃ i : Nat, i ≤ N ∧ vi = .int .i64 i ∧ wr = w ∧ Hid (∀ j, j < i → (ra ss j).length = (ra ss 0).length)) (fun vi _ => N - (intOf vi).toNat)
  case atStart => exact ⟨0, Nat.zero_le _, rfl, rfl, Lib.hid fun j hj => absurd hj (Nat.not_lt_zero _)⟩
  case round =>
    obtain ⟨i, hi, rfl, hwr, HX⟩ := hrel
    rw [hwr]
    clear hwr
    have p0 : (0 : Int) ≤ (i : Int) := Int.natCast_nonneg _
    by_cases hlt : i < N
    · have p1 : (i : Int) < (N : Int) := by omega
      have p2 : (0 : Int) < (N : Int) := by omega
      obtain ⟨b, o, rfl, _, hb⟩ := HR.out.addr hlt
      obtain ⟨A1, m1, c1, v1, _, r1⟩ := row_at HR.out hlt
      obtain ⟨A0, m0, c0, v0, _, r0⟩ := row_at HR.out (k := 0) (by omega)
      rw [Nat.add_zero] at v0
      have e1 := r1.1
      have e0 := r0.1
      clear r1 r0
      by_cases h : m1 = m0
      · have e2 : ((m1 : Int) != (m0 : Int)) = false := by rw [h]; simp
        have HX2 : Hid (∀ j, j < i + 1 → (ra ss j).length = (ra ss 0).length) := Lib.hid fun j hj => by
          by_cases hji : j = i
          · rw [hji, e1, e0, h]
          · exact HX.out j (by omega)
        clear h e1 e0
        go_wp2_with fail
        exact ⟨⟨i + 1, by omega, by go_num, trivial, HX2⟩, by simp [intOf]; omega⟩
      · have e2 : ((m1 : Int) != (m0 : Int)) = true := by simp; omega
        have hE : evB ss = false := by
          unfold evB
          rw [List.all_eq_false]
          exact ⟨ra ss i, ra_mem (by omega), by simp; omega⟩
        have HE := Lib.hid hE
        clear hE h e1 e0
        go_wp2_with fail
        go_ret
        exact ⟨by rw [HE.out]; rfl, rfl⟩
    · have p1 : ¬ (i : Int) < (N : Int) := by omega
      have hE : evB ss = true := by
        unfold evB
        rw [List.all_eq_true]
        intro r hr
        obtain ⟨j, hj, rfl⟩ := List.mem_iff_getElem.1 hr
        have := HX.out j (by omega)
        rw [ra_some (List.getElem?_eq_getElem hj)] at this
        simpa using this
      have HE := Lib.hid hE
      clear hE
      go_wp2_with fail
      go_ret
      exact ⟨by rw [HE.out]; rfl, rfl⟩
theorem right2_any {w : World} {cb b k m N c : Nat} {A : Option Addr} {S : Nat → Prop} {ss : Rws} (H : CodAt w cb b k m) (R : RdL RowR 1 S w A N ss) (hN : N ≤ 1000) :
    Calls Tryz.prog 44 #[.pointer (some ⟨cb, 0, none⟩), .slice A N c] w fun e w' => e = .returned (.bool (decide (N = k) && evB ss)) ∧ w' = w := by
  obtain ⟨A1, c1, h1, _⟩ := H.box
  have k0 := h1.cell 0
  have hE := even_any (c := c) R hN
  clear h1 H
  go_enter Tryz.func44, Tryz.ntmps44
  by_cases h : N = k
  · have e1 : ((N : Int) == (k : Int)) = true := by rw [h]; simp
    have e2 : (decide (N = k) && evB ss) = evB ss := by rw [decide_eq_true h, Bool.true_and]
    rw [e2]
    clear h e2
    go_wp2_with (go_at_call 67; refine hE.mono ?_; rintro e w9 ⟨rfl, hw9⟩; rw [hw9]; clear hw9)
    go_ret
    exact ⟨rfl, rfl⟩
  · have e1 : ((N : Int) == (k : Int)) = false := by simp; omega
    have e2 : (decide (N = k) && evB ss) = false := by rw [decide_eq_false h, Bool.false_and]
    rw [e2]
    clear h e2 hE
    go_wp2_with fail
    go_ret
    exact ⟨rfl, rfl⟩
theorem of_any {w : World} {A : Option Addr} {n c j : Nat} {S : Nat → Prop} {l : List Nat} (R : RdL ByR 1 S w A n l) (hj : j < n) :
    Calls Tryz.prog 66 #[.slice A n c, .int .i64 (j : Int)] w fun e w' => e = .returned (.int .u8 (gt l j : Int)) ∧ w' = w := by
  obtain ⟨b, o, rfl, _, _⟩ := R.addr hj
  obtain ⟨v1, _⟩ := by_at R hj
  have q1 : (j : Int) < (n : Int) := by omega
  have q2 : (0 : Int) ≤ (j : Int) := Int.natCast_nonneg _
  clear R
  go_enter Tryz.func66, Tryz.ntmps66
  go_wp2_with fail
  go_ret
  exact ⟨rfl, rfl⟩
set_option maxRecDepth 100000 in
set_option maxHeartbeats 4000000 in
theorem sum_any {w : World} {cb b k m n cs cl : Nat} {As Al : Option Addr} {S1 S2 : Nat → Prop} {ss : Rws} {l : List Nat} (H : CodAt w cb b k m) (R1 : RdL RowR 1 S1 w As k ss) (R2 : RdL ByR 1 S2 w Al k l)
    (hev : ∀ r ∈ ss, r.length = n) (hn : n ≤ 1000000) :
    Calls Tryz.prog 65 #[.pointer (some ⟨cb, 0, none⟩), .slice As k cs, .func (.func 66) #[.slice Al k cl] #[]] w fun e w' => ∃ A' c', e = .returned (.slice A' n c') ∧ n ≤ c' ∧ RdL ByR 1 (fun j => w.heap.size ≤ j) w' A' n (combF l ss (List.replicate n 0)) ∧ Below w.heap.size w w' := by
  have HC := Lib.hid H
  have H1 := Lib.hid R1
  have H2 := Lib.hid R2
  have hk1 := H.k1
  have hkm := H.km
  have hsl := R1.1
  have hll := R2.1
  have q0 : (k : Int) ≤ 255 := by omega
  have q1 : (0 : Int) < (k : Int) := by omega
  have hrow : ∀ u, u < k → ∃ bb o, As = some ⟨bb, o, none⟩ ∧ bb < w.heap.size ∧ ∃ A c, w.cell? ⟨bb, o + u, none⟩ = some (.slice A n c) ∧ n ≤ c ∧ RdL ByR 1 S1 w A n (ra ss u) := fun u hu => by
    obtain ⟨bb, o, rfl, _, hb⟩ := R1.addr hu
    obtain ⟨A, mm, c, v, hc, hr⟩ := row_at R1 hu
    have hmm : mm = n := by rw [← hr.1]; exact hev _ (ra_mem (by omega))
    subst hmm
    exact ⟨bb, o, rfl, hb, A, c, v, hc, hr⟩
  have HROW := Lib.hid hrow
  obtain ⟨bs, os, rfl, hbs, Ar, cr, v0, hcr, hr0⟩ := hrow 0 (by omega)
  rw [Nat.add_zero] at v0
  have q4 : (n : Int) ≤ 1000000 := by omega
  have q5 : (0 : Int) ≤ (n : Int) := Int.natCast_nonneg _
  have hmk := makeBy n (by omega) w
  have hz := RowIn.made w n 5
  have hbz : Below w.heap.size w (w.alloc (.cells (Array.replicate n (.int .u8 0)) 5)) := (Below.refl _ _).alloc (Nat.le_refl _) _
  have hzr := hz.rd (S := fun j => w.heap.size ≤ j) (Nat.le_refl _)
  rw [List.length_replicate] at hzr
  obtain ⟨wA, hwA⟩ : ∃ wA, w.alloc (.cells (Array.replicate n (.int .u8 0)) 5) = wA := ⟨_, rfl⟩
  rw [hwA] at hmk hbz hzr
  have HZ := Lib.hid hzr
  have HBZ := Lib.hid hbz
  clear H R1 R2 hrow hz hbz hzr hwA hr0
  go_enter Tryz.func65, Tryz.ntmps65
  go_wp2_with fail
  clear hmk
  go_loopw [7, 17] (fun vs vi wr => ∃ (i : Nat) (A : Option Addr) (c : Nat), i ≤ k ∧ vi = .int .i64 i ∧ vs = .slice A n c ∧ n ≤ c ∧ Hid (RdL ByR 1 (fun j => w.heap.size ≤ j) wr A n (combF (l.take i) (ss.take i) (List.replicate n 0))) ∧ Hid (Below w.heap.size w wr)) (fun _ vi _ => k - (intOf vi).toNat)
  case atStart => exact ⟨0, _, n, Nat.zero_le _, rfl, rfl, Nat.le_refl _, by rw [List.take_zero, List.take_zero]; exact HZ, HBZ⟩
  case round =>
    clear HZ HBZ v0
    obtain ⟨i, A, c, hi, rfl, rfl, hc, HR, HB⟩ := hrel
    have p0 : (0 : Int) ≤ (i : Int) := Int.natCast_nonneg _
    by_cases hlt : i < k
    · have p1 : (i : Int) < (k : Int) := by omega
      obtain ⟨b2, o2, e2, _, A1, c1, v1, hc1, hr1⟩ := HROW.out i hlt
      injection e2 with e2
      injection e2 with e2 e3
      subst e2; subst e3
      have hbd : Below w.heap.size w wr.drew := HB.out.drew
      have v1' := (HB.out.cell (p := ⟨bs, os + i, none⟩) hbs).trans v1
      have hC := HC.out.below hbd
      obtain ⟨A9, c9, hbx, _⟩ := hC.box
      have s1 : wr.drew.cell? ⟨cb, 2, none⟩ = some (.pointer (some ⟨b, 0, none⟩)) := hbx.cell 2
      have hcl := hbx.lt
      have x1 : gt l i < 256 := gt_lt (by_byt H2.out) i
      have hof := of_any (w := wr.drew) (c := cl) (H2.out.below ByR.stable hbd) hlt
      have hfo := fold_any (w := wr.drew) (cp := c1) (cp2 := c) hC.fld x1 (hr1.below ByR.stable hbd) hn hc1 (HR.out.below ByR.stable (Below.refl _ _).drew) hn
      rw [← combF_take (by omega) (by omega)] at hfo
      clear hr1 hC hbx v1
      go_wp2_with fail
      refine wp_region_held_drew (S := fun w' => w'.cell? ⟨cb, 2, none⟩ = some (.pointer (some ⟨b, 0, none⟩))) (by kernel_rfl) (by first | exact s1 | exact s2) (fun hHeld => ?_)
      refine wpAnyH_take (i := 0) (v := ?_) rfl (by kernel_rfl) (by kernel_rfl) (by kernel_rfl) (fun _ _ _ h => h) (Or.inl ⟨by first | kernel_rfl | rfl, ?_⟩) (by assumption) ?_
      rotate_left
      · (intro wq hSw; (try dsimp only at hSw); (try simp (maxSteps := 2000000) only [List.getElem_toArray, List.getElem_cons_succ, List.getElem_cons_zero]); go_simp); try with_reducible rfl
      try simp (maxSteps := 2000000) only [List.getElem_toArray, List.getElem_cons_succ, List.getElem_cons_zero, Act.put, List.setIfInBounds_toArray, List.set_cons_zero, List.set_cons_succ]
      refine wpAnyH_take (i := 1) (v := ?_) rfl (by kernel_rfl) (by kernel_rfl) (by kernel_rfl) (fun _ _ _ h => h) (Or.inl ⟨by first | kernel_rfl | rfl, ?_⟩) (by assumption) ?_
      rotate_left
      · (intro wq hSw; (try dsimp only at hSw); (try simp (maxSteps := 2000000) only [List.getElem_toArray, List.getElem_cons_succ, List.getElem_cons_zero]); go_simp); try with_reducible rfl
      try simp (maxSteps := 2000000) only [List.getElem_toArray, List.getElem_cons_succ, List.getElem_cons_zero, Act.put, List.setIfInBounds_toArray, List.set_cons_zero, List.set_cons_succ]
      refine wpAnyH_take (i := 2) (v := ?_) rfl (by kernel_rfl) (by kernel_rfl) (by kernel_rfl) (fun _ _ _ h => h) (Or.inl ⟨by first | kernel_rfl | rfl, ?_⟩) (by assumption) ?_
      rotate_left
      · (intro wq hSw; (try dsimp only at hSw); (try simp (maxSteps := 2000000) only [List.getElem_toArray, List.getElem_cons_succ, List.getElem_cons_zero]); go_simp); try with_reducible rfl
      try simp (maxSteps := 2000000) only [List.getElem_toArray, List.getElem_cons_succ, List.getElem_cons_zero, Act.put, List.setIfInBounds_toArray, List.set_cons_zero, List.set_cons_succ]
      refine wpAnyH_take (i := 3) (v := ?_) rfl (by kernel_rfl) (by kernel_rfl) (by kernel_rfl) (fun _ _ _ h => h) (Or.inl ⟨by first | kernel_rfl | rfl, ?_⟩) (by assumption) ?_
      rotate_left
      · (intro wq hSw; (try dsimp only at hSw); (try simp (maxSteps := 2000000) only [List.getElem_toArray, List.getElem_cons_succ, List.getElem_cons_zero]); go_simp); try with_reducible rfl
      try simp (maxSteps := 2000000) only [List.getElem_toArray, List.getElem_cons_succ, List.getElem_cons_zero, Act.put, List.setIfInBounds_toArray, List.set_cons_zero, List.set_cons_succ]
      refine wpAnyH_take (i := 4) (v := ?_) rfl (by kernel_rfl) (by kernel_rfl) (by kernel_rfl) (fun _ _ _ h => h) (Or.inl ⟨by first | kernel_rfl | rfl, ?_⟩) (by assumption) ?_
      rotate_left
      · (intro wq hSw; (try dsimp only at hSw); (try simp (maxSteps := 2000000) only [List.getElem_toArray, List.getElem_cons_succ, List.getElem_cons_zero]); go_simp); try with_reducible rfl
      try simp (maxSteps := 2000000) only [List.getElem_toArray, List.getElem_cons_succ, List.getElem_cons_zero, Act.put, List.setIfInBounds_toArray, List.set_cons_zero, List.set_cons_succ]
      refine wpAnyH_take (i := 5) (v := ?_) rfl (by kernel_rfl) (by kernel_rfl) (by kernel_rfl) (fun _ _ _ h => h) (Or.inl ⟨by first | kernel_rfl | rfl, ?_⟩) (by assumption) ?_
      rotate_left
      · (intro wq hSw; (try dsimp only at hSw); (try simp (maxSteps := 2000000) only [List.getElem_toArray, List.getElem_cons_succ, List.getElem_cons_zero]); go_simp); try with_reducible rfl
      try simp (maxSteps := 2000000) only [List.getElem_toArray, List.getElem_cons_succ, List.getElem_cons_zero, Act.put, List.setIfInBounds_toArray, List.set_cons_zero, List.set_cons_succ]
      refine wpAnyH_take (i := 7) (v := ?_) rfl (by kernel_rfl) (by kernel_rfl) (by kernel_rfl) (fun _ _ _ h => h) (Or.inl ⟨by first | kernel_rfl | rfl, ?_⟩) (by assumption) ?_
      rotate_left
      · (intro wq hSw; (try dsimp only at hSw); (try simp (maxSteps := 2000000) only [List.getElem_toArray, List.getElem_cons_succ, List.getElem_cons_zero]); go_simp); try with_reducible rfl
      try simp (maxSteps := 2000000) only [List.getElem_toArray, List.getElem_cons_succ, List.getElem_cons_zero, Act.put, List.setIfInBounds_toArray, List.set_cons_zero, List.set_cons_succ]
      refine wpAnyH_take (i := 8) (v := ?_) rfl (by kernel_rfl) (by kernel_rfl) (by kernel_rfl) (fun _ _ _ h => h) (Or.inl ⟨by first | kernel_rfl | rfl, ?_⟩) (by assumption) ?_
      rotate_left
      · (intro wq hSw; (try dsimp only at hSw); (try simp (maxSteps := 2000000) only [List.getElem_toArray, List.getElem_cons_succ, List.getElem_cons_zero]); go_simp); try with_reducible rfl
      try simp (maxSteps := 2000000) only [List.getElem_toArray, List.getElem_cons_succ, List.getElem_cons_zero, Act.put, List.setIfInBounds_toArray, List.set_cons_zero, List.set_cons_succ]
      refine wpAnyH_ready (rs := [6]) (by kernel_rfl) (by simp) ?_
      refine AllReadyH.cons rfl (fun K hK => ?_) AllReadyH.nil
      try simp (maxSteps := 2000000) only [List.getElem_toArray, List.getElem_cons_succ, List.getElem_cons_zero]
      go_simp
      go_at_call 66
      refine hof.mono ?_
      rintro e w9 ⟨rfl, hw9⟩
      rw [hw9]
      clear hw9 hof
      try (go_wp2_with fail)
      refine hK.out _ _ (by first | exact s1 | exact s2) (fun hHeld => ?_)
      clear hK K
      try simp (maxSteps := 2000000) only [List.getElem_toArray, List.getElem_cons_succ, List.getElem_cons_zero, Act.put, List.setIfInBounds_toArray, List.set_cons_zero, List.set_cons_succ]
      refine wpAnyH_ready (rs := [9]) (by kernel_rfl) (by simp) ?_
      refine AllReadyH.cons rfl (fun K hK => ?_) AllReadyH.nil
      try simp (maxSteps := 2000000) only [List.getElem_toArray, List.getElem_cons_succ, List.getElem_cons_zero]
      go_simp
      go_at_call 77
      refine hfo.mono ?_
      rintro e w6 ⟨AN, cN, rfl, hcN, hrs, hb6⟩
      have hs9 := HB.out.size
      have s2 : w6.cell? ⟨cb, 2, none⟩ = some (.pointer (some ⟨b, 0, none⟩)) := (hb6.cell (p := ⟨cb, 2, none⟩) hcl).trans s1
      have HRS := Lib.hid (hrs.weaken ByR.stable (S' := fun j => w.heap.size ≤ j) (fun j hj => Nat.le_trans hs9 hj))
      have HB6 := Lib.hid (hbd.trans (hb6.mono hs9))
      clear hrs hb6 hfo
      try (go_wp2_with fail)
      refine hK.out _ _ (by first | exact s1 | exact s2) (fun hHeld => ?_)
      clear hK K
      try simp (maxSteps := 2000000) only [List.getElem_toArray, List.getElem_cons_succ, List.getElem_cons_zero, Act.put, List.setIfInBounds_toArray, List.set_cons_zero, List.set_cons_succ]
      refine wpAnyH_take (i := 10) (v := ?_) rfl (by kernel_rfl) (by kernel_rfl) (by kernel_rfl) (fun _ _ _ h => h) (Or.inl ⟨by first | kernel_rfl | rfl, ?_⟩) (by assumption) ?_
      rotate_left
      · (intro wq hSw; (try dsimp only at hSw); (try simp (maxSteps := 2000000) only [List.getElem_toArray, List.getElem_cons_succ, List.getElem_cons_zero]); go_simp); try with_reducible rfl
      try simp (maxSteps := 2000000) only [List.getElem_toArray, List.getElem_cons_succ, List.getElem_cons_zero, Act.put, List.setIfInBounds_toArray, List.set_cons_zero, List.set_cons_succ]
      refine wpAnyH_done (by kernel_rfl) ?_ _
      clear s1 s2 hHeld v1'
      go_wp2_with fail
      exact ⟨⟨i + 1, AN, cN, by omega, by go_num, rfl, hcN, HRS, HB6⟩, by simp [intOf]; omega⟩
    · have p1 : ¬ (i : Int) < (k : Int) := by omega
      obtain rfl : i = k := by omega
      rw [List.take_of_length_le (by omega), List.take_of_length_le (by omega)] at HR
      go_wp2_with fail
      go_ret
      exact ⟨A, c, rfl, hc, HR.out, HB.out⟩
end Go.Proofs.YthhljmlpjnkfgaaGreat
