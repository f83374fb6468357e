/-
  Elimination, column by column.
-/
import Derived.Test.YthhljmlpjnkfgaaGreatMat7
set_option linter.unusedSimpArgs false
set_option linter.unusedVariables false
namespace Go.Proofs.YthhljmlpjnkfgaaGreat
open Go.RowKit Go.Cib
attribute [local go_sem] cell_set Later.cell Later.frozen Grw.cell Grw.frozen

theorem eliF_succ (c col d : Nat) (a : Rws) : eliF (c + 1) col d a = if d = a.length then (d, a) else match pvF col (a.drop d) d with
    | none => eliF c (col + 1) d a
    | some k => eliF c (col + 1) (d + 1) (clF d col (swF a d k)) := rfl
theorem far2 {w : World} {p g i : Nat} (h : p ≠ g) {v : Option Value} {u : Value} (hc : w.cell? ⟨p, 1, none⟩ = v) : (w.setCell ⟨g, i, none⟩ u).cell? ⟨p, 1, none⟩ = v := (World.cell?_setCell_other _ _ _ _ (fun e => h (by injection e with e; exact e.symm))).trans hc
set_option maxRecDepth 100000 in
set_option maxHeartbeats 8000000 in
theorem eliminate_any {w : World} {p b m base g n c cols : Nat} {a : Rws} (H : WorkAt w p b m base g n c a) (F : Fld w b) (hbb : b < base) (hn : n ≤ 1000) (hcol : cols ≤ m) (hm : m ≤ 1000) :
    Calls Tryz.prog 95 #[.pointer (some ⟨p, 0, none⟩), .int .i64 (cols : Int)] w fun e w' => e = .returned (.int .i64 ((eliF cols 0 0 a).1 : Int)) ∧ WorkAt w' p b m base g n c (eliF cols 0 0 a).2 ∧ KeepB g w w' := by
  have HW := Lib.hid H
  have HF := Lib.hid F
  have q0 : (0 : Int) ≤ (cols : Int) := Int.natCast_nonneg _
  have q1 : (cols : Int) ≤ 1000 := by omega
  have q2 : (n : Int) ≤ 1000 := by omega
  clear H F
  obtain ⟨R, hR⟩ : ∃ R, eliF cols 0 0 a = R := ⟨_, rfl⟩
  rw [hR]
  have HR := Lib.hid hR
  clear hR
  go_enter Tryz.func95, Tryz.ntmps95
  go_wp2_with fail
  go_loopw [5, 9] (fun vd vi wr => ∃ (col d : Nat) (a' : Rws), col ≤ cols ∧ d ≤ n ∧ vi = .int .i64 col ∧ vd = .int .i64 d ∧ Hid (eliF (cols - col) col d a' = R) ∧ Hid (WorkAt wr p b m base g n c a') ∧ Hid (KeepB g w wr)) (fun _ vi _ => cols - (intOf vi).toNat)
  case atStart => exact ⟨0, 0, a, Nat.zero_le _, Nat.zero_le _, rfl, rfl, HR, HW, Lib.hid (Keep.refl _ _)⟩
  case round =>
    clear HR HW a
    obtain ⟨col, d, a, hc, hd, rfl, rfl, HR, HM, HK⟩ := hrel
    have p0 : (0 : Int) ≤ (col : Int) := Int.natCast_nonneg _
    have p2 : (0 : Int) ≤ (d : Int) := Int.natCast_nonneg _
    have hal := HM.out.shp.1
    have k1 := HM.out.box.cell 1
    by_cases hlt : col < cols
    · have p1 : (col : Int) < (cols : Int) := by omega
      have hE := HR.out
      rw [show cols - col = (cols - (col + 1)) + 1 by omega, eliF_succ] at hE
      by_cases hdn : d = n
      · rw [if_pos (by omega)] at hE
        have e1 : ((d : Int) == (n : Int)) = true := by rw [hdn]; simp
        have h1 : R.1 = d := by rw [← hE]
        have h2 : R.2 = a := by rw [← hE]
        have H1 := Lib.hid h1
        have H2 := Lib.hid h2
        clear hE h1 h2 hdn
        go_wp2_with fail
        go_ret
        rw [H1.out, H2.out]
        exact ⟨rfl, HM.out, HK.out⟩
      · rw [if_neg (by omega)] at hE
        have e1 : ((d : Int) == (n : Int)) = false := by simpa using (by omega : ¬ (d : Int) = (n : Int))
        have hpv := pivot_any HM.out (d := d) (col := col) (by omega) hn (by omega) hm
        cases hp : pvF col (a.drop d) d with
        | none =>
          rw [hp] at hE
          have hI : pvI col a d = -1 := by unfold pvI; rw [hp]
          rw [hI] at hpv
          have HE := Lib.hid hE
          clear hp hI hE hdn
          go_wp2_with (go_at_call 107; refine hpv.mono ?_; rintro e w9 ⟨rfl, hw9⟩; rw [hw9]; clear hw9)
          exact ⟨⟨col + 1, d, a, by omega, hd, by go_num, rfl, HE, HM, HK⟩, by simp [intOf]; omega⟩
        | some k =>
          rw [hp] at hE
          have hI : pvI col a d = (k : Int) := by unfold pvI; rw [hp]
          rw [hI] at hpv
          obtain ⟨r, x1, x2, x3⟩ := pvF_some hp
          rw [List.getElem?_drop, show d + (k - d) = k by omega] at x1
          have hkn : k < n := by rw [← hal]; exact (List.getElem?_eq_some_iff.1 x1).1
          have x4 : gt (ra a k) col ≠ 0 := by rw [ra_some x1]; exact x2
          have hsw : gt (ra (swF a d k) d) col ≠ 0 := by
            rw [swF_ra _ _ _ (by omega)]
            split
            · rename_i e; rw [e]; exact x4
            · rw [if_pos rfl]; exact x4
          obtain ⟨Ad, cd, vd, fd0, hcd, hrd⟩ := HM.out.row (i := d) (by omega)
          obtain ⟨Ak, ck, vk, fk0, hck, hrk⟩ := HM.out.row hkn
          have hw1 := HM.out.set (i := d) (by omega) hck hrk
          have hw2 := hw1.set (i := k) hkn hcd (hrd.setCell ByR.stable (fun h => h.2.1 rfl) _)
          have hww : WorkAt ((wr.setCell ⟨g, d, none⟩ (.slice Ak m ck)).setCell ⟨g, k, none⟩ (.slice Ad m cd)).drew p b m base g n c (swF a d k) := hw2.below (Below.refl _ _).drew
          obtain ⟨_, _, v5, f5, _, _⟩ := hw1.row hkn
          have HE := Lib.hid hE
          have HS := Lib.hid hsw
          have HW2 := Lib.hid hww
          have p5 : (k : Int) < (n : Int) := by omega
          have p6 : (0 : Int) ≤ (k : Int) := Int.natCast_nonneg _
          have p7 : (d : Int) < (n : Int) := by omega
          have p8 : ¬ (k : Int) < 0 := by omega
          have hpg := HM.out.pg
          have s2 : (wr.drew.setCell ⟨g, d, none⟩ (.slice Ak m ck)).cell? ⟨p, 1, none⟩ = some (.slice (some ⟨g, 0, none⟩) n c) := far2 hpg k1
          have s3 : ((wr.drew.setCell ⟨g, d, none⟩ (.slice Ak m ck)).setCell ⟨g, k, none⟩ (.slice Ad m cd)).cell? ⟨p, 1, none⟩ = some (.slice (some ⟨g, 0, none⟩) n c) := far2 hpg s2
          have s1 : wr.drew.cell? ⟨p, 1, none⟩ = some (.slice (some ⟨g, 0, none⟩) n c) ∧ wr.drew.cell? ⟨g, d, none⟩ = some (.slice Ad m cd) ∧ wr.drew.cell? ⟨g, k, none⟩ = some (.slice Ak m ck) := ⟨k1, vd, vk⟩
          clear hp hI hE hdn hw1 hw2 hww x1 x2 x3 x4 hrd hrk hsw
          go_wp2_with (go_at_call 107; refine hpv.mono ?_; rintro e w9 ⟨rfl, hw9⟩; rw [hw9]; clear hw9 hpv)
          refine wp_region_held_drew (S := fun w' => w'.cell? ⟨p, 1, none⟩ = some (.slice (some ⟨g, 0, none⟩) n c)) (by kernel_rfl) (by first | exact s1.1 | exact s2 | exact s3) (fun hHeld => ?_)
          refine wpAnyH_take (i := 0) (v := ?_) rfl (by kernel_rfl) (by kernel_rfl) (by kernel_rfl) (fun _ _ _ h => h) (Or.inl ⟨by first | kernel_rfl | rfl, ?_⟩) (by assumption) ?_
          rotate_left
          · (intro wq hSw; (try dsimp only at hSw); (try simp (maxSteps := 2000000) only [List.getElem_toArray, List.getElem_cons_succ, List.getElem_cons_zero]); go_simp); try with_reducible rfl
          try simp (maxSteps := 2000000) only [List.getElem_toArray, List.getElem_cons_succ, List.getElem_cons_zero, Act.put, List.setIfInBounds_toArray, List.set_cons_zero, List.set_cons_succ]
          refine wpAnyH_take (i := 1) (v := ?_) rfl (by kernel_rfl) (by kernel_rfl) (by kernel_rfl) (fun _ _ _ h => h) (Or.inl ⟨by first | kernel_rfl | rfl, ?_⟩) (by assumption) ?_
          rotate_left
          · (intro wq hSw; (try dsimp only at hSw); (try simp (maxSteps := 2000000) only [List.getElem_toArray, List.getElem_cons_succ, List.getElem_cons_zero]); go_simp); try with_reducible rfl
          try simp (maxSteps := 2000000) only [List.getElem_toArray, List.getElem_cons_succ, List.getElem_cons_zero, Act.put, List.setIfInBounds_toArray, List.set_cons_zero, List.set_cons_succ]
          refine wpAnyH_take (i := 2) (v := ?_) rfl (by kernel_rfl) (by kernel_rfl) (by kernel_rfl) (fun _ _ _ h => h) (Or.inl ⟨by first | kernel_rfl | rfl, ?_⟩) (by assumption) ?_
          rotate_left
          · (intro wq hSw; (try dsimp only at hSw); (try simp (maxSteps := 2000000) only [List.getElem_toArray, List.getElem_cons_succ, List.getElem_cons_zero]); go_simp); try with_reducible rfl
          try simp (maxSteps := 2000000) only [List.getElem_toArray, List.getElem_cons_succ, List.getElem_cons_zero, Act.put, List.setIfInBounds_toArray, List.set_cons_zero, List.set_cons_succ]
          refine wpAnyH_take (i := 3) (v := ?_) rfl (by kernel_rfl) (by kernel_rfl) (by kernel_rfl) (fun _ _ _ h => h) (Or.inl ⟨by first | kernel_rfl | rfl, ?_⟩) (by assumption) ?_
          rotate_left
          · (intro wq hSw; (try dsimp only at hSw); (try simp (maxSteps := 2000000) only [List.getElem_toArray, List.getElem_cons_succ, List.getElem_cons_zero]); go_simp); try with_reducible rfl
          try simp (maxSteps := 2000000) only [List.getElem_toArray, List.getElem_cons_succ, List.getElem_cons_zero, Act.put, List.setIfInBounds_toArray, List.set_cons_zero, List.set_cons_succ]
          refine wpAnyH_take (i := 4) (v := ?_) rfl (by kernel_rfl) (by kernel_rfl) (by kernel_rfl) (fun _ _ _ h => h) (Or.inl ⟨by first | kernel_rfl | rfl, ?_⟩) (by assumption) ?_
          rotate_left
          · (intro wq hSw; (try dsimp only at hSw); (try simp (maxSteps := 2000000) only [List.getElem_toArray, List.getElem_cons_succ, List.getElem_cons_zero]); go_simp); try with_reducible rfl
          try simp (maxSteps := 2000000) only [List.getElem_toArray, List.getElem_cons_succ, List.getElem_cons_zero, Act.put, List.setIfInBounds_toArray, List.set_cons_zero, List.set_cons_succ]
          refine wpAnyH_take (i := 5) (v := ?_) rfl (by kernel_rfl) (by kernel_rfl) (by kernel_rfl) (fun _ _ _ h => h) (Or.inl ⟨by first | kernel_rfl | rfl, ?_⟩) (by assumption) ?_
          rotate_left
          · (intro wq hSw; (try dsimp only at hSw); (try simp (maxSteps := 2000000) only [List.getElem_toArray, List.getElem_cons_succ, List.getElem_cons_zero]); go_simp); try with_reducible rfl
          try simp (maxSteps := 2000000) only [List.getElem_toArray, List.getElem_cons_succ, List.getElem_cons_zero, Act.put, List.setIfInBounds_toArray, List.set_cons_zero, List.set_cons_succ]
          refine wpAnyH_take (i := 6) (v := ?_) rfl (by kernel_rfl) (by kernel_rfl) (by kernel_rfl) (fun _ _ _ h => h) (Or.inl ⟨by first | kernel_rfl | rfl, ?_⟩) (by assumption) ?_
          rotate_left
          · (intro wq hSw; (try dsimp only at hSw); (try simp (maxSteps := 2000000) only [List.getElem_toArray, List.getElem_cons_succ, List.getElem_cons_zero]); go_simp); try with_reducible rfl
          try simp (maxSteps := 2000000) only [List.getElem_toArray, List.getElem_cons_succ, List.getElem_cons_zero, Act.put, List.setIfInBounds_toArray, List.set_cons_zero, List.set_cons_succ]
          refine wpAnyH_take (i := 7) (v := ?_) rfl (by kernel_rfl) (by kernel_rfl) (by kernel_rfl) (fun _ _ _ h => h) (Or.inl ⟨by first | kernel_rfl | rfl, ?_⟩) (by assumption) ?_
          rotate_left
          · (intro wq hSw; (try dsimp only at hSw); (try simp (maxSteps := 2000000) only [List.getElem_toArray, List.getElem_cons_succ, List.getElem_cons_zero]); go_simp); try with_reducible rfl
          try simp (maxSteps := 2000000) only [List.getElem_toArray, List.getElem_cons_succ, List.getElem_cons_zero, Act.put, List.setIfInBounds_toArray, List.set_cons_zero, List.set_cons_succ]
          refine wpAnyH_take (i := 8) (v := ?_) rfl (by kernel_rfl) (by kernel_rfl) (by kernel_rfl) (fun _ _ _ h => h) (Or.inl ⟨by first | kernel_rfl | rfl, ?_⟩) (by assumption) ?_
          rotate_left
          · (intro wq hSw; (try dsimp only at hSw); (try simp (maxSteps := 2000000) only [List.getElem_toArray, List.getElem_cons_succ, List.getElem_cons_zero]); go_simp); try with_reducible rfl
          try simp (maxSteps := 2000000) only [List.getElem_toArray, List.getElem_cons_succ, List.getElem_cons_zero, Act.put, List.setIfInBounds_toArray, List.set_cons_zero, List.set_cons_succ]
          refine wpAnyH_take (i := 9) (v := ?_) rfl (by kernel_rfl) (by kernel_rfl) (by kernel_rfl) (fun _ _ _ h => h) (Or.inl ⟨by first | kernel_rfl | rfl, ?_⟩) (by assumption) ?_
          rotate_left
          · (intro wq hSw; (try dsimp only at hSw); (try simp (maxSteps := 2000000) only [List.getElem_toArray, List.getElem_cons_succ, List.getElem_cons_zero]); go_simp); try with_reducible rfl
          try simp (maxSteps := 2000000) only [List.getElem_toArray, List.getElem_cons_succ, List.getElem_cons_zero, Act.put, List.setIfInBounds_toArray, List.set_cons_zero, List.set_cons_succ]
          refine wpAnyH_take (i := 10) (v := ?_) rfl (by kernel_rfl) (by kernel_rfl) (by kernel_rfl) (fun _ _ _ h => h) (Or.inl ⟨by first | kernel_rfl | rfl, ?_⟩) (by assumption) ?_
          rotate_left
          · (intro wq hSw; (try dsimp only at hSw); (try simp (maxSteps := 2000000) only [List.getElem_toArray, List.getElem_cons_succ, List.getElem_cons_zero]); go_simp); try with_reducible rfl
          try simp (maxSteps := 2000000) only [List.getElem_toArray, List.getElem_cons_succ, List.getElem_cons_zero, Act.put, List.setIfInBounds_toArray, List.set_cons_zero, List.set_cons_succ]
          refine wpAnyH_take (i := 11) (v := ?_) rfl (by kernel_rfl) (by kernel_rfl) (by kernel_rfl) (fun _ _ _ h => h) (Or.inl ⟨by first | kernel_rfl | rfl, ?_⟩) (by assumption) ?_
          rotate_left
          · (intro wq hSw; (try dsimp only at hSw); (try simp (maxSteps := 2000000) only [List.getElem_toArray, List.getElem_cons_succ, List.getElem_cons_zero]); go_simp); try with_reducible rfl
          try simp (maxSteps := 2000000) only [List.getElem_toArray, List.getElem_cons_succ, List.getElem_cons_zero, Act.put, List.setIfInBounds_toArray, List.set_cons_zero, List.set_cons_succ]
          refine wpAnyH_take (i := 12) (v := ?_) rfl (by kernel_rfl) (by kernel_rfl) (by kernel_rfl) (fun _ _ _ h => h) (Or.inl ⟨by first | kernel_rfl | rfl, ?_⟩) (by assumption) ?_
          rotate_left
          · (intro wq hSw; (try dsimp only at hSw); (try simp (maxSteps := 2000000) only [List.getElem_toArray, List.getElem_cons_succ, List.getElem_cons_zero]); go_simp); try with_reducible rfl
          try simp (maxSteps := 2000000) only [List.getElem_toArray, List.getElem_cons_succ, List.getElem_cons_zero, Act.put, List.setIfInBounds_toArray, List.set_cons_zero, List.set_cons_succ]
          refine wpAnyH_take (i := 13) (v := ?_) rfl (by kernel_rfl) (by kernel_rfl) (by kernel_rfl) (fun _ _ _ h => h) (Or.inl ⟨by first | kernel_rfl | rfl, ?_⟩) (by assumption) ?_
          rotate_left
          · (intro wq hSw; (try dsimp only at hSw); (try simp (maxSteps := 2000000) only [List.getElem_toArray, List.getElem_cons_succ, List.getElem_cons_zero]); go_simp); try with_reducible rfl
          try simp (maxSteps := 2000000) only [List.getElem_toArray, List.getElem_cons_succ, List.getElem_cons_zero, Act.put, List.setIfInBounds_toArray, List.set_cons_zero, List.set_cons_succ]
          refine wpAnyH_take (i := 14) (v := ?_) rfl (by kernel_rfl) (by kernel_rfl) (by kernel_rfl) (fun _ _ _ h => h) (Or.inl ⟨by first | kernel_rfl | rfl, ?_⟩) (by assumption) ?_
          rotate_left
          · (intro wq hSw; (try dsimp only at hSw); (try simp (maxSteps := 2000000) only [List.getElem_toArray, List.getElem_cons_succ, List.getElem_cons_zero]); go_simp); try with_reducible rfl
          try simp (maxSteps := 2000000) only [List.getElem_toArray, List.getElem_cons_succ, List.getElem_cons_zero, Act.put, List.setIfInBounds_toArray, List.set_cons_zero, List.set_cons_succ]
          refine wpAnyH_take (i := 15) (v := ?_) rfl (by kernel_rfl) (by kernel_rfl) (by kernel_rfl) (fun _ _ _ h => h) (Or.inl ⟨by first | kernel_rfl | rfl, ?_⟩) (by assumption) ?_
          rotate_left
          · (intro wq hSw; (try dsimp only at hSw); (try simp (maxSteps := 2000000) only [List.getElem_toArray, List.getElem_cons_succ, List.getElem_cons_zero]); go_simp); try with_reducible rfl
          try simp (maxSteps := 2000000) only [List.getElem_toArray, List.getElem_cons_succ, List.getElem_cons_zero, Act.put, List.setIfInBounds_toArray, List.set_cons_zero, List.set_cons_succ]
          refine wpAnyH_take (i := 17) (v := ?_) rfl (by kernel_rfl) (by kernel_rfl) (by kernel_rfl) (fun _ _ _ h => h) (Or.inl ⟨by first | kernel_rfl | rfl, ?_⟩) (by assumption) ?_
          rotate_left
          · (intro wq hSw; (try dsimp only at hSw); (try simp (maxSteps := 2000000) only [List.getElem_toArray, List.getElem_cons_succ, List.getElem_cons_zero]); go_simp); try with_reducible rfl
          try simp (maxSteps := 2000000) only [List.getElem_toArray, List.getElem_cons_succ, List.getElem_cons_zero, Act.put, List.setIfInBounds_toArray, List.set_cons_zero, List.set_cons_succ]
          refine wpAnyH_take (i := 18) (v := ?_) rfl (by kernel_rfl) (by kernel_rfl) (by kernel_rfl) (fun _ _ _ h => h) (Or.inl ⟨by first | kernel_rfl | rfl, ?_⟩) (by assumption) ?_
          rotate_left
          · (intro wq hSw; (try dsimp only at hSw); (try simp (maxSteps := 2000000) only [List.getElem_toArray, List.getElem_cons_succ, List.getElem_cons_zero]); go_simp); try with_reducible rfl
          try simp (maxSteps := 2000000) only [List.getElem_toArray, List.getElem_cons_succ, List.getElem_cons_zero, Act.put, List.setIfInBounds_toArray, List.set_cons_zero, List.set_cons_succ]
          refine wpAnyH_take (i := 19) (v := ?_) rfl (by kernel_rfl) (by kernel_rfl) (by kernel_rfl) (fun _ _ _ h => h) (Or.inl ⟨by first | kernel_rfl | rfl, ?_⟩) (by assumption) ?_
          rotate_left
          · (intro wq hSw; (try dsimp only at hSw); (try simp (maxSteps := 2000000) only [List.getElem_toArray, List.getElem_cons_succ, List.getElem_cons_zero]); go_simp); try with_reducible rfl
          try simp (maxSteps := 2000000) only [List.getElem_toArray, List.getElem_cons_succ, List.getElem_cons_zero, Act.put, List.setIfInBounds_toArray, List.set_cons_zero, List.set_cons_succ]
          refine wpAnyH_take (i := 20) (v := ?_) rfl (by kernel_rfl) (by kernel_rfl) (by kernel_rfl) (fun _ _ _ h => h) (Or.inl ⟨by first | kernel_rfl | rfl, ?_⟩) (by assumption) ?_
          rotate_left
          · (intro wq hSw; (try dsimp only at hSw); (try simp (maxSteps := 2000000) only [List.getElem_toArray, List.getElem_cons_succ, List.getElem_cons_zero]); go_simp); try with_reducible rfl
          try simp (maxSteps := 2000000) only [List.getElem_toArray, List.getElem_cons_succ, List.getElem_cons_zero, Act.put, List.setIfInBounds_toArray, List.set_cons_zero, List.set_cons_succ]
          refine wpAnyH_take (i := 21) (v := ?_) rfl (by kernel_rfl) (by kernel_rfl) (by kernel_rfl) (fun _ _ _ h => h) (Or.inl ⟨by first | kernel_rfl | rfl, ?_⟩) (by assumption) ?_
          rotate_left
          · (intro wq hSw; (try dsimp only at hSw); (try simp (maxSteps := 2000000) only [List.getElem_toArray, List.getElem_cons_succ, List.getElem_cons_zero]); go_simp); try with_reducible rfl
          try simp (maxSteps := 2000000) only [List.getElem_toArray, List.getElem_cons_succ, List.getElem_cons_zero, Act.put, List.setIfInBounds_toArray, List.set_cons_zero, List.set_cons_succ]
          refine wpAnyH_take (i := 22) (v := ?_) rfl (by kernel_rfl) (by kernel_rfl) (by kernel_rfl) (fun _ _ _ h => h) (Or.inl ⟨by first | kernel_rfl | rfl, ?_⟩) (by assumption) ?_
          rotate_left
          · (intro wq hSw; (try dsimp only at hSw); (try simp (maxSteps := 2000000) only [List.getElem_toArray, List.getElem_cons_succ, List.getElem_cons_zero]); go_simp); try with_reducible rfl
          try simp (maxSteps := 2000000) only [List.getElem_toArray, List.getElem_cons_succ, List.getElem_cons_zero, Act.put, List.setIfInBounds_toArray, List.set_cons_zero, List.set_cons_succ]
          refine wpAnyH_ready (rs := [16, 23]) (by kernel_rfl) (by simp) ?_
          refine AllReadyH.cons rfl (fun K hK => ?_) (AllReadyH.cons rfl (fun K hK => ?_) AllReadyH.nil)
          · try simp (maxSteps := 2000000) only [List.getElem_toArray, List.getElem_cons_succ, List.getElem_cons_zero]
            go_simp
            refine hK.out _ _ (by first | exact s1.1 | exact s2 | exact s3) (fun hHeld => ?_)
            clear hK K
            try simp (maxSteps := 2000000) only [List.getElem_toArray, List.getElem_cons_succ, List.getElem_cons_zero, Act.put, List.setIfInBounds_toArray, List.set_cons_zero, List.set_cons_succ]
            refine wpAnyH_ready (rs := [23]) (by kernel_rfl) (by simp) ?_
            refine AllReadyH.cons rfl (fun K hK => ?_) AllReadyH.nil
            try simp (maxSteps := 2000000) only [List.getElem_toArray, List.getElem_cons_succ, List.getElem_cons_zero]
            go_simp
            refine hK.out _ _ (by first | exact s1.1 | exact s2 | exact s3) (fun hHeld => ?_)
            clear hK K
            try simp (maxSteps := 2000000) only [List.getElem_toArray, List.getElem_cons_succ, List.getElem_cons_zero, Act.put, List.setIfInBounds_toArray, List.set_cons_zero, List.set_cons_succ]
            refine wpAnyH_take (i := 24) (v := ?_) rfl (by kernel_rfl) (by kernel_rfl) (by kernel_rfl) (fun _ _ _ h => h) (Or.inl ⟨by first | kernel_rfl | rfl, ?_⟩) (by assumption) ?_
            rotate_left
            · (intro wq hSw; (try dsimp only at hSw); (try simp (maxSteps := 2000000) only [List.getElem_toArray, List.getElem_cons_succ, List.getElem_cons_zero]); go_simp); try with_reducible rfl
            try simp (maxSteps := 2000000) only [List.getElem_toArray, List.getElem_cons_succ, List.getElem_cons_zero, Act.put, List.setIfInBounds_toArray, List.set_cons_zero, List.set_cons_succ]
            refine wpAnyH_ready (rs := [25]) (by kernel_rfl) (by simp) ?_
            refine AllReadyH.cons rfl (fun K hK => ?_) AllReadyH.nil
            try simp (maxSteps := 2000000) only [List.getElem_toArray, List.getElem_cons_succ, List.getElem_cons_zero]
            go_simp
            refine hK.out _ _ (by first | exact s1.1 | exact s2 | exact s3) (fun hHeld => ?_)
            clear hK K
            try simp (maxSteps := 2000000) only [List.getElem_toArray, List.getElem_cons_succ, List.getElem_cons_zero, Act.put, List.setIfInBounds_toArray, List.set_cons_zero, List.set_cons_succ]
            refine wpAnyH_take (i := 26) (v := ?_) rfl (by kernel_rfl) (by kernel_rfl) (by kernel_rfl) (fun _ _ _ h => h) (Or.inl ⟨by first | kernel_rfl | rfl, ?_⟩) (by assumption) ?_
            rotate_left
            · (intro wq hSw; (try dsimp only at hSw); (try simp (maxSteps := 2000000) only [List.getElem_toArray, List.getElem_cons_succ, List.getElem_cons_zero]); go_simp); try with_reducible rfl
            try simp (maxSteps := 2000000) only [List.getElem_toArray, List.getElem_cons_succ, List.getElem_cons_zero, Act.put, List.setIfInBounds_toArray, List.set_cons_zero, List.set_cons_succ]
            refine wpAnyH_ready (rs := [27]) (by kernel_rfl) (by simp) ?_
            refine AllReadyH.cons rfl (fun K hK => ?_) AllReadyH.nil
            try simp (maxSteps := 2000000) only [List.getElem_toArray, List.getElem_cons_succ, List.getElem_cons_zero]
            go_simp
            refine hK.out _ _ (by first | exact s1.1 | exact s2 | exact s3) (fun hHeld => ?_)
            clear hK K
            try simp (maxSteps := 2000000) only [List.getElem_toArray, List.getElem_cons_succ, List.getElem_cons_zero, Act.put, List.setIfInBounds_toArray, List.set_cons_zero, List.set_cons_succ]
            refine wpAnyH_done (by kernel_rfl) ?_ _
            have hk2 : KeepB g w ((wr.setCell ⟨g, d, none⟩ (.slice Ak m ck)).setCell ⟨g, k, none⟩ (.slice Ad m cd)).drew := keep_drew <| Keep.setCell (F := fun k => k = g) (p := ⟨g, k, none⟩) (Keep.setCell (F := fun k => k = g) (p := ⟨g, d, none⟩) HK.out (fun _ => rfl) _) (fun _ => rfl) _
            have HK2 := Lib.hid hk2
            clear hk2 s1 s2 s3 hHeld k1 vd vk fd0 fk0 v5 f5
            generalize ((wr.setCell ⟨g, d, none⟩ (.slice Ak m ck)).setCell ⟨g, k, none⟩ (.slice Ad m cd)).drew = w5 at *
            have hcl := clean_any HW2.out (HF.out.keep (HK2.out.block b HF.out.lt (by have := HM.out.hg; omega))) hbb (at' := d) (col := col) (by omega) hn (by omega) hm HS.out
            go_wp2_with (go_at_call 108; refine hcl.mono ?_; rintro e w6 ⟨rfl, h6, h7⟩; have H6 := Lib.hid h6; have H7 := Lib.hid (HK2.out.trans h7 (fun _ h _ => h)); clear h6 h7 hcl)
            exact ⟨⟨col + 1, d + 1, _, by omega, by omega, by go_num, by go_num, HE, H6, H7⟩, by simp [intOf]; omega⟩
          · try simp (maxSteps := 2000000) only [List.getElem_toArray, List.getElem_cons_succ, List.getElem_cons_zero]
            go_simp
            refine hK.out _ _ (by first | exact s1.1 | exact s2 | exact s3) (fun hHeld => ?_)
            clear hK K
            try simp (maxSteps := 2000000) only [List.getElem_toArray, List.getElem_cons_succ, List.getElem_cons_zero, Act.put, List.setIfInBounds_toArray, List.set_cons_zero, List.set_cons_succ]
            refine wpAnyH_ready (rs := [16]) (by kernel_rfl) (by simp) ?_
            refine AllReadyH.cons rfl (fun K hK => ?_) AllReadyH.nil
            try simp (maxSteps := 2000000) only [List.getElem_toArray, List.getElem_cons_succ, List.getElem_cons_zero]
            go_simp
            refine hK.out _ _ (by first | exact s1.1 | exact s2 | exact s3) (fun hHeld => ?_)
            clear hK K
            try simp (maxSteps := 2000000) only [List.getElem_toArray, List.getElem_cons_succ, List.getElem_cons_zero, Act.put, List.setIfInBounds_toArray, List.set_cons_zero, List.set_cons_succ]
            refine wpAnyH_take (i := 24) (v := ?_) rfl (by kernel_rfl) (by kernel_rfl) (by kernel_rfl) (fun _ _ _ h => h) (Or.inl ⟨by first | kernel_rfl | rfl, ?_⟩) (by assumption) ?_
            rotate_left
            · (intro wq hSw; (try dsimp only at hSw); (try simp (maxSteps := 2000000) only [List.getElem_toArray, List.getElem_cons_succ, List.getElem_cons_zero]); go_simp); try with_reducible rfl
            try simp (maxSteps := 2000000) only [List.getElem_toArray, List.getElem_cons_succ, List.getElem_cons_zero, Act.put, List.setIfInBounds_toArray, List.set_cons_zero, List.set_cons_succ]
            refine wpAnyH_ready (rs := [25]) (by kernel_rfl) (by simp) ?_
            refine AllReadyH.cons rfl (fun K hK => ?_) AllReadyH.nil
            try simp (maxSteps := 2000000) only [List.getElem_toArray, List.getElem_cons_succ, List.getElem_cons_zero]
            go_simp
            refine hK.out _ _ (by first | exact s1.1 | exact s2 | exact s3) (fun hHeld => ?_)
            clear hK K
            try simp (maxSteps := 2000000) only [List.getElem_toArray, List.getElem_cons_succ, List.getElem_cons_zero, Act.put, List.setIfInBounds_toArray, List.set_cons_zero, List.set_cons_succ]
            refine wpAnyH_take (i := 26) (v := ?_) rfl (by kernel_rfl) (by kernel_rfl) (by kernel_rfl) (fun _ _ _ h => h) (Or.inl ⟨by first | kernel_rfl | rfl, ?_⟩) (by assumption) ?_
            rotate_left
            · (intro wq hSw; (try dsimp only at hSw); (try simp (maxSteps := 2000000) only [List.getElem_toArray, List.getElem_cons_succ, List.getElem_cons_zero]); go_simp); try with_reducible rfl
            try simp (maxSteps := 2000000) only [List.getElem_toArray, List.getElem_cons_succ, List.getElem_cons_zero, Act.put, List.setIfInBounds_toArray, List.set_cons_zero, List.set_cons_succ]
            refine wpAnyH_ready (rs := [27]) (by kernel_rfl) (by simp) ?_
            refine AllReadyH.cons rfl (fun K hK => ?_) AllReadyH.nil
            try simp (maxSteps := 2000000) only [List.getElem_toArray, List.getElem_cons_succ, List.getElem_cons_zero]
            go_simp
            refine hK.out _ _ (by first | exact s1.1 | exact s2 | exact s3) (fun hHeld => ?_)
            clear hK K
            try simp (maxSteps := 2000000) only [List.getElem_toArray, List.getElem_cons_succ, List.getElem_cons_zero, Act.put, List.setIfInBounds_toArray, List.set_cons_zero, List.set_cons_succ]
            refine wpAnyH_done (by kernel_rfl) ?_ _
            have hk2 : KeepB g w ((wr.setCell ⟨g, d, none⟩ (.slice Ak m ck)).setCell ⟨g, k, none⟩ (.slice Ad m cd)).drew := keep_drew <| Keep.setCell (F := fun k => k = g) (p := ⟨g, k, none⟩) (Keep.setCell (F := fun k => k = g) (p := ⟨g, d, none⟩) HK.out (fun _ => rfl) _) (fun _ => rfl) _
            have HK2 := Lib.hid hk2
            clear hk2 s1 s2 s3 hHeld k1 vd vk fd0 fk0 v5 f5
            generalize ((wr.setCell ⟨g, d, none⟩ (.slice Ak m ck)).setCell ⟨g, k, none⟩ (.slice Ad m cd)).drew = w5 at *
            have hcl := clean_any HW2.out (HF.out.keep (HK2.out.block b HF.out.lt (by have := HM.out.hg; omega))) hbb (at' := d) (col := col) (by omega) hn (by omega) hm HS.out
            go_wp2_with (go_at_call 108; refine hcl.mono ?_; rintro e w6 ⟨rfl, h6, h7⟩; have H6 := Lib.hid h6; have H7 := Lib.hid (HK2.out.trans h7 (fun _ h _ => h)); clear h6 h7 hcl)
            exact ⟨⟨col + 1, d + 1, _, by omega, by omega, by go_num, by go_num, HE, H6, H7⟩, by simp [intOf]; omega⟩
    · have p1 : ¬ (col : Int) < (cols : Int) := by omega
      have hE := HR.out
      rw [show cols - col = 0 by omega] at hE
      have h1 : R.1 = d := by rw [← hE]; rfl
      have h2 : R.2 = a := by rw [← hE]; rfl
      have H1 := Lib.hid h1
      have H2 := Lib.hid h2
      clear hE h1 h2
      go_wp2_with fail
      go_ret
      rw [H1.out, H2.out]
      exact ⟨rfl, HM.out, HK.out⟩
end Go.Proofs.YthhljmlpjnkfgaaGreat
