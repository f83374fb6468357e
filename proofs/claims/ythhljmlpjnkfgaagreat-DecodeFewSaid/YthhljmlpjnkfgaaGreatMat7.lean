/-
  A column is made nought in all rows but one.
-/
import Derived.Test.YthhljmlpjnkfgaaGreatMat6
set_option linter.unusedSimpArgs false
set_option linter.unusedVariables false
namespace Go.Proofs.YthhljmlpjnkfgaaGreat
open Go.RowKit Go.Cib
attribute [local go_sem] cell_set Later.cell Later.frozen Grw.cell Grw.frozen

def mixP (at' k i : Nat) : Bool := decide (i ≠ at') && decide (i < k)
theorem mix_zero {at' col : Nat} {a : Rws} : elF (mixP at' 0) at' col a = a := ra_ext (elF_len ..) fun i hi => by
  rw [elF_ra _ _ _ (by rw [elF_len] at hi; exact hi), if_neg (by unfold mixP; simp)]
theorem mix_fold {at' col k : Nat} {a : Rws} (hne : k ≠ at') (hk : k < a.length) : elF (mixP at' (k + 1)) at' col a = (elF (mixP at' k) at' col a).set k (fd (gt (ra a k) col) (ra a at') (ra a k)) := ra_ext (by rw [elF_len, List.length_set, elF_len]) fun i hi => by
  rw [elF_len] at hi
  rw [ra_set _ _ _ (by rw [elF_len]; exact hi), elF_ra _ _ _ hi, elF_ra _ _ _ hi]
  by_cases e : i = k
  · subst e
    rw [if_pos rfl, if_pos (by unfold mixP; simp [hne])]
  · rw [if_neg e]
    have : mixP at' (k + 1) i = mixP at' k i := by unfold mixP; congr 1; simp; omega
    rw [this]
theorem mix_same {at' col k n m : Nat} {a : Rws} (hs : Shp n m a) (hat : at' < n) (h : k = at' ∨ gt (ra a k) col = 0) (hk : k < n) : elF (mixP at' (k + 1)) at' col a = elF (mixP at' k) at' col a := ra_ext (by rw [elF_len, elF_len]) fun i hi => by
  rw [elF_len] at hi
  rw [elF_ra _ _ _ hi, elF_ra _ _ _ hi]
  by_cases e : i = k
  · subst e
    have e2 : mixP at' i i = false := by unfold mixP; simp
    rw [if_neg (c := mixP at' i i = true) (by rw [e2]; decide)]
    rcases h with h | h
    · rw [if_neg (by unfold mixP; simp [h])]
    · split
      · rw [h, fd_zero (by rw [(hs.row hk).1, (hs.row hat).1]; exact Nat.le_refl _)]
      · rfl
  · have : mixP at' (k + 1) i = mixP at' k i := by unfold mixP; congr 1; simp; omega
    rw [this]
theorem mix_end {at' col n : Nat} {a : Rws} (hl : a.length = n) : elF (mixP at' n) at' col a = elF (fun i => decide (i ≠ at')) at' col a := ra_ext (by rw [elF_len, elF_len]) fun i hi => by
  rw [elF_len] at hi
  rw [elF_ra _ _ _ hi, elF_ra _ _ _ hi]
  have : mixP at' n i = decide (i ≠ at') := by unfold mixP; rw [decide_eq_true (by omega : i < n), Bool.and_true]
  rw [this]
theorem mix_at {at' col k i : Nat} {a : Rws} (hi : i < a.length) (h : i = at' ∨ k ≤ i) : ra (elF (mixP at' k) at' col a) i = ra a i := by
  rw [elF_ra _ _ _ hi, if_neg (by unfold mixP; simp; omega)]
theorem clF_eq {at' col n : Nat} {a : Rws} (hl : a.length = n) : clF at' col a = elF (mixP at' n) at' col (scF at' (inv (gt (ra a at') col)) a) := by
  unfold clF
  rw [mix_end (by rw [scF_len]; exact hl)]
theorem scF_set {j c : Nat} {a : Rws} (hj : j < a.length) : scF j c a = a.set j (sc c (ra a j)) := ra_ext (by rw [scF_len, List.length_set]) fun i hi => by
  rw [scF_len] at hi
  rw [scF_ra _ _ hi, ra_set _ _ _ hi]
  split
  · rename_i e; rw [e]
  · rfl
theorem dv_one {x : Nat} : dv 1 x = inv x := gm_one (inv_lt x)

/-- What only changes a block. -/
abbrev KeepB (g : Nat) (w w' : World) : Prop := Keep (fun k => k = g) w w'
set_option maxRecDepth 100000 in
set_option maxHeartbeats 8000000 in
theorem clean_any {w : World} {p b m base g n c : Nat} {a : Rws} (H : WorkAt w p b m base g n c a) (F : Fld w b) (hbb : b < base) {at' col : Nat} (hat : at' < n) (hn : n ≤ 1000) (hcol : col < m) (hm : m ≤ 1000) (hv : gt (ra a at') col ≠ 0) :
    Calls Tryz.prog 108 #[.pointer (some ⟨p, 0, none⟩), .int .i64 (at' : Int), .int .i64 (col : Int)] w fun e w' => e = .returned (.tuple #[]) ∧ WorkAt w' p b m base g n c (clF at' col a) ∧ KeepB g w w' := by
  have k0 := H.box.cell 0
  have k1 := H.box.cell 1
  have lp := H.box.lt
  have hnc := H.nc
  have hal := H.shp.1
  obtain ⟨A, c', v1, _, hc1, hr⟩ := H.row hat
  obtain ⟨bb, o, rfl, ⟨hb1, hb2, hb3⟩, hbl⟩ := hr.addr hcol
  have HRr := Lib.hid hr
  obtain ⟨v2, x2⟩ := by_at hr hcol
  have lg0 : g < w.heap.size := by obtain ⟨cur, h1, _⟩ := H.cur; exact h1.lt
  have hdv := fun (y : Later w.heap.size w) => div_any (F.below y.ok) (a := 1) (c := gt (ra a at') col) (by decide) hv x2
  rw [dv_one] at hdv
  have HW := Lib.hid H
  have HF := Lib.hid F
  have q0 : (0 : Int) ≤ (at' : Int) := Int.natCast_nonneg _
  have q1 : (at' : Int) < (n : Int) := by omega
  have q2 : (0 : Int) ≤ (col : Int) := Int.natCast_nonneg _
  have q3 : (col : Int) < (m : Int) := by omega
  have q4 : (m : Int) ≤ 1000 := by omega
  have q5 : (n : Int) ≤ 1000 := by omega
  clear H F hr
  go_enter Tryz.func108, Tryz.ntmps108
  go_wp2_with fail
  refine wp_region_later (by kernel_rfl) (by kernel_rfl) ?_
  repeat (go_big_quiet_step ((go_at_call 50; exact Later.call _ (hdv _) (Nat.le_refl _))))
  refine wpQuiet_nil ?_
  rintro _ ⟨z, rfl⟩
  clear hdv
  have s1 : z.to.drew.cell? ⟨p, 0, none⟩ = some (.pointer (some ⟨b, 0, none⟩)) ∧ z.to.drew.cell? ⟨p, 1, none⟩ = some (.slice (some ⟨g, 0, none⟩) n c) ∧ z.to.drew.cell? ⟨g, at', none⟩ = some (.slice (some ⟨bb, o, none⟩) m c') := ⟨(z.cell lp).trans k0, (z.cell lp).trans k1, (z.cell lg0).trans v1⟩
  have HZ := Lib.hid (HW.out.below (z.ok.drew))
  have hsc := scale_any (w := z.to.drew) (cp := c') (HF.out.below z.ok.drew) (inv_lt (gt (ra a at') col)) (HRr.out.below ByR.stable z.ok.drew) (by omega)
  go_wp2_with fail
  refine wp_region_L (S := fun w' => w'.cell? ⟨p, 0, none⟩ = some (.pointer (some ⟨b, 0, none⟩)) ∧ w'.cell? ⟨p, 1, none⟩ = some (.slice (some ⟨g, 0, none⟩) n c) ∧ w'.cell? ⟨g, at', none⟩ = some (.slice (some ⟨bb, o, none⟩) m c')) [19] (by kernel_rfl) (by first | exact s1 | exact s2) (fun hHeld => ?_)
  refine wpAnyL_take (i := 0) (v := ?_) rfl (by kernel_rfl) (by kernel_rfl) (by kernel_rfl) (by kernel_rfl) (fun _ _ _ h => h) (Or.inl ⟨by first | kernel_rfl | rfl, ?_⟩) (by assumption) ?_
  rotate_left
  · (intro wq0 hSw; (try dsimp only at hSw); (try simp (maxSteps := 2000000) only [List.getElem_toArray, List.getElem_cons_succ, List.getElem_cons_zero]); go_simp); try with_reducible rfl
  try simp (maxSteps := 2000000) only [List.getElem_toArray, List.getElem_cons_succ, List.getElem_cons_zero, Act.put, List.setIfInBounds_toArray, List.set_cons_zero, List.set_cons_succ]
  refine wpAnyL_take (i := 1) (v := ?_) rfl (by kernel_rfl) (by kernel_rfl) (by kernel_rfl) (by kernel_rfl) (fun _ _ _ h => h) (Or.inl ⟨by first | kernel_rfl | rfl, ?_⟩) (by assumption) ?_
  rotate_left
  · (intro wq0 hSw; (try dsimp only at hSw); (try simp (maxSteps := 2000000) only [List.getElem_toArray, List.getElem_cons_succ, List.getElem_cons_zero]); go_simp); try with_reducible rfl
  try simp (maxSteps := 2000000) only [List.getElem_toArray, List.getElem_cons_succ, List.getElem_cons_zero, Act.put, List.setIfInBounds_toArray, List.set_cons_zero, List.set_cons_succ]
  refine wpAnyL_take (i := 2) (v := ?_) rfl (by kernel_rfl) (by kernel_rfl) (by kernel_rfl) (by kernel_rfl) (fun _ _ _ h => h) (Or.inl ⟨by first | kernel_rfl | rfl, ?_⟩) (by assumption) ?_
  rotate_left
  · (intro wq0 hSw; (try dsimp only at hSw); (try simp (maxSteps := 2000000) only [List.getElem_toArray, List.getElem_cons_succ, List.getElem_cons_zero]); go_simp); try with_reducible rfl
  try simp (maxSteps := 2000000) only [List.getElem_toArray, List.getElem_cons_succ, List.getElem_cons_zero, Act.put, List.setIfInBounds_toArray, List.set_cons_zero, List.set_cons_succ]
  refine wpAnyL_take (i := 3) (v := ?_) rfl (by kernel_rfl) (by kernel_rfl) (by kernel_rfl) (by kernel_rfl) (fun _ _ _ h => h) (Or.inl ⟨by first | kernel_rfl | rfl, ?_⟩) (by assumption) ?_
  rotate_left
  · (intro wq0 hSw; (try dsimp only at hSw); (try simp (maxSteps := 2000000) only [List.getElem_toArray, List.getElem_cons_succ, List.getElem_cons_zero]); go_simp); try with_reducible rfl
  try simp (maxSteps := 2000000) only [List.getElem_toArray, List.getElem_cons_succ, List.getElem_cons_zero, Act.put, List.setIfInBounds_toArray, List.set_cons_zero, List.set_cons_succ]
  refine wpAnyL_take (i := 4) (v := ?_) rfl (by kernel_rfl) (by kernel_rfl) (by kernel_rfl) (by kernel_rfl) (fun _ _ _ h => h) (Or.inl ⟨by first | kernel_rfl | rfl, ?_⟩) (by assumption) ?_
  rotate_left
  · (intro wq0 hSw; (try dsimp only at hSw); (try simp (maxSteps := 2000000) only [List.getElem_toArray, List.getElem_cons_succ, List.getElem_cons_zero]); go_simp); try with_reducible rfl
  try simp (maxSteps := 2000000) only [List.getElem_toArray, List.getElem_cons_succ, List.getElem_cons_zero, Act.put, List.setIfInBounds_toArray, List.set_cons_zero, List.set_cons_succ]
  refine wpAnyL_take (i := 5) (v := ?_) rfl (by kernel_rfl) (by kernel_rfl) (by kernel_rfl) (by kernel_rfl) (fun _ _ _ h => h) (Or.inl ⟨by first | kernel_rfl | rfl, ?_⟩) (by assumption) ?_
  rotate_left
  · (intro wq0 hSw; (try dsimp only at hSw); (try simp (maxSteps := 2000000) only [List.getElem_toArray, List.getElem_cons_succ, List.getElem_cons_zero]); go_simp); try with_reducible rfl
  try simp (maxSteps := 2000000) only [List.getElem_toArray, List.getElem_cons_succ, List.getElem_cons_zero, Act.put, List.setIfInBounds_toArray, List.set_cons_zero, List.set_cons_succ]
  refine wpAnyL_take (i := 6) (v := ?_) rfl (by kernel_rfl) (by kernel_rfl) (by kernel_rfl) (by kernel_rfl) (fun _ _ _ h => h) (Or.inl ⟨by first | kernel_rfl | rfl, ?_⟩) (by assumption) ?_
  rotate_left
  · (intro wq0 hSw; (try dsimp only at hSw); (try simp (maxSteps := 2000000) only [List.getElem_toArray, List.getElem_cons_succ, List.getElem_cons_zero]); go_simp); try with_reducible rfl
  try simp (maxSteps := 2000000) only [List.getElem_toArray, List.getElem_cons_succ, List.getElem_cons_zero, Act.put, List.setIfInBounds_toArray, List.set_cons_zero, List.set_cons_succ]
  refine wpAnyL_take (i := 7) (v := ?_) rfl (by kernel_rfl) (by kernel_rfl) (by kernel_rfl) (by kernel_rfl) (fun _ _ _ h => h) (Or.inl ⟨by first | kernel_rfl | rfl, ?_⟩) (by assumption) ?_
  rotate_left
  · (intro wq0 hSw; (try dsimp only at hSw); (try simp (maxSteps := 2000000) only [List.getElem_toArray, List.getElem_cons_succ, List.getElem_cons_zero]); go_simp); try with_reducible rfl
  try simp (maxSteps := 2000000) only [List.getElem_toArray, List.getElem_cons_succ, List.getElem_cons_zero, Act.put, List.setIfInBounds_toArray, List.set_cons_zero, List.set_cons_succ]
  refine wpAnyL_take (i := 8) (v := ?_) rfl (by kernel_rfl) (by kernel_rfl) (by kernel_rfl) (by kernel_rfl) (fun _ _ _ h => h) (Or.inl ⟨by first | kernel_rfl | rfl, ?_⟩) (by assumption) ?_
  rotate_left
  · (intro wq0 hSw; (try dsimp only at hSw); (try simp (maxSteps := 2000000) only [List.getElem_toArray, List.getElem_cons_succ, List.getElem_cons_zero]); go_simp); try with_reducible rfl
  try simp (maxSteps := 2000000) only [List.getElem_toArray, List.getElem_cons_succ, List.getElem_cons_zero, Act.put, List.setIfInBounds_toArray, List.set_cons_zero, List.set_cons_succ]
  refine wpAnyL_take (i := 9) (v := ?_) rfl (by kernel_rfl) (by kernel_rfl) (by kernel_rfl) (by kernel_rfl) (fun _ _ _ h => h) (Or.inl ⟨by first | kernel_rfl | rfl, ?_⟩) (by assumption) ?_
  rotate_left
  · (intro wq0 hSw; (try dsimp only at hSw); (try simp (maxSteps := 2000000) only [List.getElem_toArray, List.getElem_cons_succ, List.getElem_cons_zero]); go_simp); try with_reducible rfl
  try simp (maxSteps := 2000000) only [List.getElem_toArray, List.getElem_cons_succ, List.getElem_cons_zero, Act.put, List.setIfInBounds_toArray, List.set_cons_zero, List.set_cons_succ]
  refine wpAnyL_take (i := 10) (v := ?_) rfl (by kernel_rfl) (by kernel_rfl) (by kernel_rfl) (by kernel_rfl) (fun _ _ _ h => h) (Or.inl ⟨by first | kernel_rfl | rfl, ?_⟩) (by assumption) ?_
  rotate_left
  · (intro wq0 hSw; (try dsimp only at hSw); (try simp (maxSteps := 2000000) only [List.getElem_toArray, List.getElem_cons_succ, List.getElem_cons_zero]); go_simp); try with_reducible rfl
  try simp (maxSteps := 2000000) only [List.getElem_toArray, List.getElem_cons_succ, List.getElem_cons_zero, Act.put, List.setIfInBounds_toArray, List.set_cons_zero, List.set_cons_succ]
  refine wpAnyL_take (i := 11) (v := ?_) rfl (by kernel_rfl) (by kernel_rfl) (by kernel_rfl) (by kernel_rfl) (fun _ _ _ h => h) (Or.inl ⟨by first | kernel_rfl | rfl, ?_⟩) (by assumption) ?_
  rotate_left
  · (intro wq0 hSw; (try dsimp only at hSw); (try simp (maxSteps := 2000000) only [List.getElem_toArray, List.getElem_cons_succ, List.getElem_cons_zero]); go_simp); try with_reducible rfl
  try simp (maxSteps := 2000000) only [List.getElem_toArray, List.getElem_cons_succ, List.getElem_cons_zero, Act.put, List.setIfInBounds_toArray, List.set_cons_zero, List.set_cons_succ]
  refine wpAnyL_take (i := 12) (v := ?_) rfl (by kernel_rfl) (by kernel_rfl) (by kernel_rfl) (by kernel_rfl) (fun _ _ _ h => h) (Or.inl ⟨by first | kernel_rfl | rfl, ?_⟩) (by assumption) ?_
  rotate_left
  · (intro wq0 hSw; (try dsimp only at hSw); (try simp (maxSteps := 2000000) only [List.getElem_toArray, List.getElem_cons_succ, List.getElem_cons_zero]); go_simp); try with_reducible rfl
  try simp (maxSteps := 2000000) only [List.getElem_toArray, List.getElem_cons_succ, List.getElem_cons_zero, Act.put, List.setIfInBounds_toArray, List.set_cons_zero, List.set_cons_succ]
  refine wpAnyL_take (i := 13) (v := ?_) rfl (by kernel_rfl) (by kernel_rfl) (by kernel_rfl) (by kernel_rfl) (fun _ _ _ h => h) (Or.inl ⟨by first | kernel_rfl | rfl, ?_⟩) (by assumption) ?_
  rotate_left
  · (intro wq0 hSw; (try dsimp only at hSw); (try simp (maxSteps := 2000000) only [List.getElem_toArray, List.getElem_cons_succ, List.getElem_cons_zero]); go_simp); try with_reducible rfl
  try simp (maxSteps := 2000000) only [List.getElem_toArray, List.getElem_cons_succ, List.getElem_cons_zero, Act.put, List.setIfInBounds_toArray, List.set_cons_zero, List.set_cons_succ]
  refine wpAnyL_take (i := 14) (v := ?_) rfl (by kernel_rfl) (by kernel_rfl) (by kernel_rfl) (by kernel_rfl) (fun _ _ _ h => h) (Or.inl ⟨by first | kernel_rfl | rfl, ?_⟩) (by assumption) ?_
  rotate_left
  · (intro wq0 hSw; (try dsimp only at hSw); (try simp (maxSteps := 2000000) only [List.getElem_toArray, List.getElem_cons_succ, List.getElem_cons_zero]); go_simp); try with_reducible rfl
  try simp (maxSteps := 2000000) only [List.getElem_toArray, List.getElem_cons_succ, List.getElem_cons_zero, Act.put, List.setIfInBounds_toArray, List.set_cons_zero, List.set_cons_succ]
  refine wpAnyL_take (i := 15) (v := ?_) rfl (by kernel_rfl) (by kernel_rfl) (by kernel_rfl) (by kernel_rfl) (fun _ _ _ h => h) (Or.inl ⟨by first | kernel_rfl | rfl, ?_⟩) (by assumption) ?_
  rotate_left
  · (intro wq0 hSw; (try dsimp only at hSw); (try simp (maxSteps := 2000000) only [List.getElem_toArray, List.getElem_cons_succ, List.getElem_cons_zero]); go_simp); try with_reducible rfl
  try simp (maxSteps := 2000000) only [List.getElem_toArray, List.getElem_cons_succ, List.getElem_cons_zero, Act.put, List.setIfInBounds_toArray, List.set_cons_zero, List.set_cons_succ]
  refine wpAnyL_take (i := 16) (v := ?_) rfl (by kernel_rfl) (by kernel_rfl) (by kernel_rfl) (by kernel_rfl) (fun _ _ _ h => h) (Or.inl ⟨by first | kernel_rfl | rfl, ?_⟩) (by assumption) ?_
  rotate_left
  · (intro wq0 hSw; (try dsimp only at hSw); (try simp (maxSteps := 2000000) only [List.getElem_toArray, List.getElem_cons_succ, List.getElem_cons_zero]); go_simp); try with_reducible rfl
  try simp (maxSteps := 2000000) only [List.getElem_toArray, List.getElem_cons_succ, List.getElem_cons_zero, Act.put, List.setIfInBounds_toArray, List.set_cons_zero, List.set_cons_succ]
  refine wpAnyL_ready (rs := [17]) (by kernel_rfl) (by simp) ?_
  refine AllReadyL.cons rfl (fun K hK => ?_) AllReadyL.nil
  try simp (maxSteps := 2000000) only [List.getElem_toArray, List.getElem_cons_succ, List.getElem_cons_zero]
  go_simp
  go_at_call 114
  refine hsc.mono ?_
  rintro e w2 ⟨gs, rfl, hgs, hrs, hb2⟩
  have HB2 := Lib.hid hb2
  have hw2 := HZ.out.below (w' := w2) hb2
  have c2 := (hb2.cell (p := ⟨p, 0, none⟩) (Nat.lt_of_lt_of_le lp z.ok.size)).trans s1.1
  have c3 := (hb2.cell (p := ⟨p, 1, none⟩) (Nat.lt_of_lt_of_le lp z.ok.size)).trans s1.2.1
  have c4 := (hb2.cell (p := ⟨g, at', none⟩) (Nat.lt_of_lt_of_le lg0 z.ok.size)).trans s1.2.2
  have s2 : w2.cell? ⟨p, 0, none⟩ = some (.pointer (some ⟨b, 0, none⟩)) ∧ w2.cell? ⟨p, 1, none⟩ = some (.slice (some ⟨g, 0, none⟩) n c) ∧ w2.cell? ⟨g, at', none⟩ = some (.slice (some ⟨bb, o, none⟩) m c') := ⟨c2, c3, c4⟩
  have f2 : w2.frozen? ⟨g, at', none⟩ = false := by obtain ⟨_, _, _, h, _⟩ := hw2.row hat; exact h
  have HW2 := Lib.hid hw2
  have HRS := Lib.hid hrs
  clear hsc hb2 hw2 hrs c2 c3 c4
  try (go_wp2_with fail)
  refine hK.out _ _ (by first | exact s1 | exact s2) (fun hHeld => ?_)
  clear hK K
  try simp (maxSteps := 2000000) only [List.getElem_toArray, List.getElem_cons_succ, List.getElem_cons_zero, Act.put, List.setIfInBounds_toArray, List.set_cons_zero, List.set_cons_succ]
  refine wpAnyL_take (i := 18) (v := ?_) rfl (by kernel_rfl) (by kernel_rfl) (by kernel_rfl) (by kernel_rfl) (fun _ _ _ h => h) (Or.inl ⟨by first | kernel_rfl | rfl, ?_⟩) (by assumption) ?_
  rotate_left
  · (intro wq0 hSw; (try dsimp only at hSw); (try simp (maxSteps := 2000000) only [List.getElem_toArray, List.getElem_cons_succ, List.getElem_cons_zero]); go_simp); try with_reducible rfl
  try simp (maxSteps := 2000000) only [List.getElem_toArray, List.getElem_cons_succ, List.getElem_cons_zero, Act.put, List.setIfInBounds_toArray, List.set_cons_zero, List.set_cons_succ]
  refine wpAnyL_ready (rs := [19]) (by kernel_rfl) (by simp) ?_
  refine AllReadyL.last rfl (by decide) (fun K hK => ?_) AllReadyL.nil
  try simp (maxSteps := 2000000) only [List.getElem_toArray, List.getElem_cons_succ, List.getElem_cons_zero]
  go_simp
  refine hK.out _ _ ?_
  clear hK K
  try simp (maxSteps := 2000000) only [List.getElem_toArray, List.getElem_cons_succ, List.getElem_cons_zero, Act.put, List.setIfInBounds_toArray, List.set_cons_zero, List.set_cons_succ]
  refine wpAnyL_done (by kernel_rfl) ?_ _
  obtain ⟨a1, ha1⟩ : ∃ a1, a1 = scF at' (inv (gt (ra a at') col)) a := ⟨_, rfl⟩
  have hs1 : z.to.drew.heap.size = z.to.heap.size := rfl
  have zsz := z.ok.size
  have hw3 := HW2.out.set (i := at') (c' := m) (r := sc (inv (gt (ra a at') col)) (ra a at')) hat (Nat.le_refl _) (HRS.out.weaken ByR.stable fun k hk => by
    have hk2 : z.to.drew.heap.size ≤ k := hk
    have := HW2.out.hg
    have := HW2.out.hp
    have hb0 : base ≤ p := HW2.out.hp
    refine ⟨by omega, by omega, by omega⟩)
  rw [← scF_set (by omega), ← ha1] at hw3
  have hk3 : KeepB g w (w2.setCell ⟨g, at', none⟩ (.slice (some ⟨gs, 0, none⟩) m m)) := Keep.setCell (F := fun k => k = g) (p := ⟨g, at', none⟩) (Keep.of_below (z.ok.drew.trans (HB2.out.mono (by rw [hs1]; exact zsz)))) (fun _ => rfl) _
  have hf3 : Fld (w2.setCell ⟨g, at', none⟩ (.slice (some ⟨gs, 0, none⟩) m m)) b := (HF.out.below (z.ok.drew.trans (HB2.out.mono (by rw [hs1]; exact zsz)))).keep (Below.heap_setCell _ _ _ _ (by have := HW2.out.hg; dsimp only; omega))
  have h31 := hw3.box.cell 1
  generalize w2.setCell ⟨g, at', none⟩ (.slice (some ⟨gs, 0, none⟩) m m) = w3 at *
  have HW3 := Lib.hid hw3
  have HK3 := Lib.hid hk3
  have HF3 := Lib.hid hf3
  have hsh1 := hw3.shp
  have hl1 := hsh1.1
  have HA1 := Lib.hid ha1
  clear hw3 hk3 hf3 s1 s2 f2 hHeld HW2 HRS HB2 HZ hgs v1 v2 k0 k1 hs1 zsz ha1
  go_wp2_with fail
  go_loopw [52] (fun vi wr => ∃ k : Nat, k ≤ n ∧ vi = .int .i64 k ∧ Hid (WorkAt wr p b m base g n c (elF (mixP at' k) at' col a1)) ∧ Hid (KeepB g w3 wr)) (fun vi _ => n - (intOf vi).toNat)
  case atStart => exact ⟨0, Nat.zero_le _, rfl, by rw [mix_zero]; exact HW3, Lib.hid (Keep.refl _ _)⟩
  case round =>
    obtain ⟨k, hk, rfl, HM, HK⟩ := hrel
    have p0 : (0 : Int) ≤ (k : Int) := Int.natCast_nonneg _
    by_cases hlt : k < n
    · have p1 : (k : Int) < (n : Int) := by omega
      obtain ⟨A, d', v1, f1, hd1, hr⟩ := HM.out.row hlt
      rw [mix_at (by omega) (.inr (Nat.le_refl _))] at hr
      obtain ⟨b4, o4, rfl, ⟨g1, g2, g3⟩, hbl4⟩ := hr.addr hcol
      obtain ⟨v2, x4⟩ := by_at hr hcol
      have HR4 := Lib.hid hr
      clear hr
      by_cases hka : k = at'
      · have e1 : ((k : Int) != (at' : Int)) = false := by rw [hka]; simp
        have hms := mix_same hsh1 (col := col) hat (.inl hka) hlt
        rw [← hms] at HM
        clear hka hms
        go_wp2_with fail
        exact ⟨⟨k + 1, by omega, by go_num, HM, HK⟩, by simp [intOf]; omega⟩
      · have e1 : ((k : Int) != (at' : Int)) = true := by simpa using (by omega : ¬ (k : Int) = (at' : Int))
        by_cases h0 : gt (ra a1 k) col = 0
        · have hms := mix_same hsh1 (col := col) hat (.inr h0) hlt
          rw [← hms] at HM
          rw [h0] at v2
          clear hms h0 x4
          go_wp2_with fail
          exact ⟨⟨k + 1, by omega, by go_num, HM, HK⟩, by simp [intOf]; omega⟩
        · have e2 : (((gt (ra a1 k) col : Nat) : Int) != 0) = true := by simpa using h0
          have hmf := mix_fold (col := col) hka (by omega : k < a1.length)
          obtain ⟨A5, d5, v5, _, hd5, hr5⟩ := HM.out.row hat
          rw [mix_at (by omega) (.inl rfl)] at hr5
          have k0 := HM.out.box.cell 0
          have k1 := HM.out.box.cell 1
          have lp1 := HM.out.box.lt
          have lg1 : g < wr.heap.size := by obtain ⟨cur, h1, _⟩ := HM.out.cur; exact h1.lt
          have hfr : Fld wr b := HF3.out.keep (HK.out.block b HF3.out.lt (by have := HM.out.hg; omega))
          have hfo := fold_any (w := wr.drew) (cp := d5) (cp2 := d') (hfr.keep (w' := wr.drew) rfl) x4 (hr5.below (w' := wr.drew) ByR.stable (Below.refl _ _).drew) (by omega) hd5 (HR4.out.below (w' := wr.drew) ByR.stable (Below.refl _ _).drew) (by omega)
          have HD := Lib.hid (HM.out.below (w' := wr.drew) (Below.refl _ _).drew)
          have HMF := Lib.hid hmf
          have s1 : wr.drew.cell? ⟨p, 0, none⟩ = some (.pointer (some ⟨b, 0, none⟩)) ∧ wr.drew.cell? ⟨p, 1, none⟩ = some (.slice (some ⟨g, 0, none⟩) n c) ∧ wr.drew.cell? ⟨g, at', none⟩ = some (.slice A5 m d5) ∧ wr.drew.cell? ⟨b4, o4 + col, none⟩ = some (.int .u8 (gt (ra a1 k) col : Int)) := ⟨k0, k1, v5, v2⟩
          clear hmf hr5 hfr h0
          go_wp2_with fail
          refine wp_region_L (S := fun w' => w'.cell? ⟨p, 0, none⟩ = some (.pointer (some ⟨b, 0, none⟩)) ∧ w'.cell? ⟨p, 1, none⟩ = some (.slice (some ⟨g, 0, none⟩) n c) ∧ w'.cell? ⟨g, at', none⟩ = some (.slice A5 m d5) ∧ w'.cell? ⟨b4, o4 + col, none⟩ = some (.int .u8 (gt (ra a1 k) col : Int))) [23] (by kernel_rfl) (by first | exact s1 | exact s2) (fun hHeld => ?_)
          refine wpAnyL_take (i := 0) (v := ?_) rfl (by kernel_rfl) (by kernel_rfl) (by kernel_rfl) (by kernel_rfl) (fun _ _ _ h => h) (Or.inl ⟨by first | kernel_rfl | rfl, ?_⟩) (by assumption) ?_
          rotate_left
          · (intro wq0 hSw; (try dsimp only at hSw); (try simp (maxSteps := 2000000) only [List.getElem_toArray, List.getElem_cons_succ, List.getElem_cons_zero]); go_simp); try with_reducible rfl
          try simp (maxSteps := 2000000) only [List.getElem_toArray, List.getElem_cons_succ, List.getElem_cons_zero, Act.put, List.setIfInBounds_toArray, List.set_cons_zero, List.set_cons_succ]
          refine wpAnyL_take (i := 1) (v := ?_) rfl (by kernel_rfl) (by kernel_rfl) (by kernel_rfl) (by kernel_rfl) (fun _ _ _ h => h) (Or.inl ⟨by first | kernel_rfl | rfl, ?_⟩) (by assumption) ?_
          rotate_left
          · (intro wq0 hSw; (try dsimp only at hSw); (try simp (maxSteps := 2000000) only [List.getElem_toArray, List.getElem_cons_succ, List.getElem_cons_zero]); go_simp); try with_reducible rfl
          try simp (maxSteps := 2000000) only [List.getElem_toArray, List.getElem_cons_succ, List.getElem_cons_zero, Act.put, List.setIfInBounds_toArray, List.set_cons_zero, List.set_cons_succ]
          refine wpAnyL_take (i := 2) (v := ?_) rfl (by kernel_rfl) (by kernel_rfl) (by kernel_rfl) (by kernel_rfl) (fun _ _ _ h => h) (Or.inl ⟨by first | kernel_rfl | rfl, ?_⟩) (by assumption) ?_
          rotate_left
          · (intro wq0 hSw; (try dsimp only at hSw); (try simp (maxSteps := 2000000) only [List.getElem_toArray, List.getElem_cons_succ, List.getElem_cons_zero]); go_simp); try with_reducible rfl
          try simp (maxSteps := 2000000) only [List.getElem_toArray, List.getElem_cons_succ, List.getElem_cons_zero, Act.put, List.setIfInBounds_toArray, List.set_cons_zero, List.set_cons_succ]
          refine wpAnyL_take (i := 3) (v := ?_) rfl (by kernel_rfl) (by kernel_rfl) (by kernel_rfl) (by kernel_rfl) (fun _ _ _ h => h) (Or.inl ⟨by first | kernel_rfl | rfl, ?_⟩) (by assumption) ?_
          rotate_left
          · (intro wq0 hSw; (try dsimp only at hSw); (try simp (maxSteps := 2000000) only [List.getElem_toArray, List.getElem_cons_succ, List.getElem_cons_zero]); go_simp); try with_reducible rfl
          try simp (maxSteps := 2000000) only [List.getElem_toArray, List.getElem_cons_succ, List.getElem_cons_zero, Act.put, List.setIfInBounds_toArray, List.set_cons_zero, List.set_cons_succ]
          refine wpAnyL_take (i := 4) (v := ?_) rfl (by kernel_rfl) (by kernel_rfl) (by kernel_rfl) (by kernel_rfl) (fun _ _ _ h => h) (Or.inl ⟨by first | kernel_rfl | rfl, ?_⟩) (by assumption) ?_
          rotate_left
          · (intro wq0 hSw; (try dsimp only at hSw); (try simp (maxSteps := 2000000) only [List.getElem_toArray, List.getElem_cons_succ, List.getElem_cons_zero]); go_simp); try with_reducible rfl
          try simp (maxSteps := 2000000) only [List.getElem_toArray, List.getElem_cons_succ, List.getElem_cons_zero, Act.put, List.setIfInBounds_toArray, List.set_cons_zero, List.set_cons_succ]
          refine wpAnyL_take (i := 5) (v := ?_) rfl (by kernel_rfl) (by kernel_rfl) (by kernel_rfl) (by kernel_rfl) (fun _ _ _ h => h) (Or.inl ⟨by first | kernel_rfl | rfl, ?_⟩) (by assumption) ?_
          rotate_left
          · (intro wq0 hSw; (try dsimp only at hSw); (try simp (maxSteps := 2000000) only [List.getElem_toArray, List.getElem_cons_succ, List.getElem_cons_zero]); go_simp); try with_reducible rfl
          try simp (maxSteps := 2000000) only [List.getElem_toArray, List.getElem_cons_succ, List.getElem_cons_zero, Act.put, List.setIfInBounds_toArray, List.set_cons_zero, List.set_cons_succ]
          refine wpAnyL_take (i := 6) (v := ?_) rfl (by kernel_rfl) (by kernel_rfl) (by kernel_rfl) (by kernel_rfl) (fun _ _ _ h => h) (Or.inl ⟨by first | kernel_rfl | rfl, ?_⟩) (by assumption) ?_
          rotate_left
          · (intro wq0 hSw; (try dsimp only at hSw); (try simp (maxSteps := 2000000) only [List.getElem_toArray, List.getElem_cons_succ, List.getElem_cons_zero]); go_simp); try with_reducible rfl
          try simp (maxSteps := 2000000) only [List.getElem_toArray, List.getElem_cons_succ, List.getElem_cons_zero, Act.put, List.setIfInBounds_toArray, List.set_cons_zero, List.set_cons_succ]
          refine wpAnyL_take (i := 7) (v := ?_) rfl (by kernel_rfl) (by kernel_rfl) (by kernel_rfl) (by kernel_rfl) (fun _ _ _ h => h) (Or.inl ⟨by first | kernel_rfl | rfl, ?_⟩) (by assumption) ?_
          rotate_left
          · (intro wq0 hSw; (try dsimp only at hSw); (try simp (maxSteps := 2000000) only [List.getElem_toArray, List.getElem_cons_succ, List.getElem_cons_zero]); go_simp); try with_reducible rfl
          try simp (maxSteps := 2000000) only [List.getElem_toArray, List.getElem_cons_succ, List.getElem_cons_zero, Act.put, List.setIfInBounds_toArray, List.set_cons_zero, List.set_cons_succ]
          refine wpAnyL_take (i := 8) (v := ?_) rfl (by kernel_rfl) (by kernel_rfl) (by kernel_rfl) (by kernel_rfl) (fun _ _ _ h => h) (Or.inl ⟨by first | kernel_rfl | rfl, ?_⟩) (by assumption) ?_
          rotate_left
          · (intro wq0 hSw; (try dsimp only at hSw); (try simp (maxSteps := 2000000) only [List.getElem_toArray, List.getElem_cons_succ, List.getElem_cons_zero]); go_simp); try with_reducible rfl
          try simp (maxSteps := 2000000) only [List.getElem_toArray, List.getElem_cons_succ, List.getElem_cons_zero, Act.put, List.setIfInBounds_toArray, List.set_cons_zero, List.set_cons_succ]
          refine wpAnyL_take (i := 9) (v := ?_) rfl (by kernel_rfl) (by kernel_rfl) (by kernel_rfl) (by kernel_rfl) (fun _ _ _ h => h) (Or.inl ⟨by first | kernel_rfl | rfl, ?_⟩) (by assumption) ?_
          rotate_left
          · (intro wq0 hSw; (try dsimp only at hSw); (try simp (maxSteps := 2000000) only [List.getElem_toArray, List.getElem_cons_succ, List.getElem_cons_zero]); go_simp); try with_reducible rfl
          try simp (maxSteps := 2000000) only [List.getElem_toArray, List.getElem_cons_succ, List.getElem_cons_zero, Act.put, List.setIfInBounds_toArray, List.set_cons_zero, List.set_cons_succ]
          refine wpAnyL_take (i := 10) (v := ?_) rfl (by kernel_rfl) (by kernel_rfl) (by kernel_rfl) (by kernel_rfl) (fun _ _ _ h => h) (Or.inl ⟨by first | kernel_rfl | rfl, ?_⟩) (by assumption) ?_
          rotate_left
          · (intro wq0 hSw; (try dsimp only at hSw); (try simp (maxSteps := 2000000) only [List.getElem_toArray, List.getElem_cons_succ, List.getElem_cons_zero]); go_simp); try with_reducible rfl
          try simp (maxSteps := 2000000) only [List.getElem_toArray, List.getElem_cons_succ, List.getElem_cons_zero, Act.put, List.setIfInBounds_toArray, List.set_cons_zero, List.set_cons_succ]
          refine wpAnyL_take (i := 11) (v := ?_) rfl (by kernel_rfl) (by kernel_rfl) (by kernel_rfl) (by kernel_rfl) (fun _ _ _ h => h) (Or.inl ⟨by first | kernel_rfl | rfl, ?_⟩) (by assumption) ?_
          rotate_left
          · (intro wq0 hSw; (try dsimp only at hSw); (try simp (maxSteps := 2000000) only [List.getElem_toArray, List.getElem_cons_succ, List.getElem_cons_zero]); go_simp); try with_reducible rfl
          try simp (maxSteps := 2000000) only [List.getElem_toArray, List.getElem_cons_succ, List.getElem_cons_zero, Act.put, List.setIfInBounds_toArray, List.set_cons_zero, List.set_cons_succ]
          refine wpAnyL_take (i := 12) (v := ?_) rfl (by kernel_rfl) (by kernel_rfl) (by kernel_rfl) (by kernel_rfl) (fun _ _ _ h => h) (Or.inl ⟨by first | kernel_rfl | rfl, ?_⟩) (by assumption) ?_
          rotate_left
          · (intro wq0 hSw; (try dsimp only at hSw); (try simp (maxSteps := 2000000) only [List.getElem_toArray, List.getElem_cons_succ, List.getElem_cons_zero]); go_simp); try with_reducible rfl
          try simp (maxSteps := 2000000) only [List.getElem_toArray, List.getElem_cons_succ, List.getElem_cons_zero, Act.put, List.setIfInBounds_toArray, List.set_cons_zero, List.set_cons_succ]
          refine wpAnyL_take (i := 13) (v := ?_) rfl (by kernel_rfl) (by kernel_rfl) (by kernel_rfl) (by kernel_rfl) (fun _ _ _ h => h) (Or.inl ⟨by first | kernel_rfl | rfl, ?_⟩) (by assumption) ?_
          rotate_left
          · (intro wq0 hSw; (try dsimp only at hSw); (try simp (maxSteps := 2000000) only [List.getElem_toArray, List.getElem_cons_succ, List.getElem_cons_zero]); go_simp); try with_reducible rfl
          try simp (maxSteps := 2000000) only [List.getElem_toArray, List.getElem_cons_succ, List.getElem_cons_zero, Act.put, List.setIfInBounds_toArray, List.set_cons_zero, List.set_cons_succ]
          refine wpAnyL_take (i := 14) (v := ?_) rfl (by kernel_rfl) (by kernel_rfl) (by kernel_rfl) (by kernel_rfl) (fun _ _ _ h => h) (Or.inl ⟨by first | kernel_rfl | rfl, ?_⟩) (by assumption) ?_
          rotate_left
          · (intro wq0 hSw; (try dsimp only at hSw); (try simp (maxSteps := 2000000) only [List.getElem_toArray, List.getElem_cons_succ, List.getElem_cons_zero]); go_simp); try with_reducible rfl
          try simp (maxSteps := 2000000) only [List.getElem_toArray, List.getElem_cons_succ, List.getElem_cons_zero, Act.put, List.setIfInBounds_toArray, List.set_cons_zero, List.set_cons_succ]
          refine wpAnyL_take (i := 15) (v := ?_) rfl (by kernel_rfl) (by kernel_rfl) (by kernel_rfl) (by kernel_rfl) (fun _ _ _ h => h) (Or.inl ⟨by first | kernel_rfl | rfl, ?_⟩) (by assumption) ?_
          rotate_left
          · (intro wq0 hSw; (try dsimp only at hSw); (try simp (maxSteps := 2000000) only [List.getElem_toArray, List.getElem_cons_succ, List.getElem_cons_zero]); go_simp); try with_reducible rfl
          try simp (maxSteps := 2000000) only [List.getElem_toArray, List.getElem_cons_succ, List.getElem_cons_zero, Act.put, List.setIfInBounds_toArray, List.set_cons_zero, List.set_cons_succ]
          refine wpAnyL_take (i := 16) (v := ?_) rfl (by kernel_rfl) (by kernel_rfl) (by kernel_rfl) (by kernel_rfl) (fun _ _ _ h => h) (Or.inl ⟨by first | kernel_rfl | rfl, ?_⟩) (by assumption) ?_
          rotate_left
          · (intro wq0 hSw; (try dsimp only at hSw); (try simp (maxSteps := 2000000) only [List.getElem_toArray, List.getElem_cons_succ, List.getElem_cons_zero]); go_simp); try with_reducible rfl
          try simp (maxSteps := 2000000) only [List.getElem_toArray, List.getElem_cons_succ, List.getElem_cons_zero, Act.put, List.setIfInBounds_toArray, List.set_cons_zero, List.set_cons_succ]
          refine wpAnyL_take (i := 17) (v := ?_) rfl (by kernel_rfl) (by kernel_rfl) (by kernel_rfl) (by kernel_rfl) (fun _ _ _ h => h) (Or.inl ⟨by first | kernel_rfl | rfl, ?_⟩) (by assumption) ?_
          rotate_left
          · (intro wq0 hSw; (try dsimp only at hSw); (try simp (maxSteps := 2000000) only [List.getElem_toArray, List.getElem_cons_succ, List.getElem_cons_zero]); go_simp); try with_reducible rfl
          try simp (maxSteps := 2000000) only [List.getElem_toArray, List.getElem_cons_succ, List.getElem_cons_zero, Act.put, List.setIfInBounds_toArray, List.set_cons_zero, List.set_cons_succ]
          refine wpAnyL_take (i := 18) (v := ?_) rfl (by kernel_rfl) (by kernel_rfl) (by kernel_rfl) (by kernel_rfl) (fun _ _ _ h => h) (Or.inl ⟨by first | kernel_rfl | rfl, ?_⟩) (by assumption) ?_
          rotate_left
          · (intro wq0 hSw; (try dsimp only at hSw); (try simp (maxSteps := 2000000) only [List.getElem_toArray, List.getElem_cons_succ, List.getElem_cons_zero]); go_simp); try with_reducible rfl
          try simp (maxSteps := 2000000) only [List.getElem_toArray, List.getElem_cons_succ, List.getElem_cons_zero, Act.put, List.setIfInBounds_toArray, List.set_cons_zero, List.set_cons_succ]
          refine wpAnyL_take (i := 19) (v := ?_) rfl (by kernel_rfl) (by kernel_rfl) (by kernel_rfl) (by kernel_rfl) (fun _ _ _ h => h) (Or.inl ⟨by first | kernel_rfl | rfl, ?_⟩) (by assumption) ?_
          rotate_left
          · (intro wq0 hSw; (try dsimp only at hSw); (try simp (maxSteps := 2000000) only [List.getElem_toArray, List.getElem_cons_succ, List.getElem_cons_zero]); go_simp); try with_reducible rfl
          try simp (maxSteps := 2000000) only [List.getElem_toArray, List.getElem_cons_succ, List.getElem_cons_zero, Act.put, List.setIfInBounds_toArray, List.set_cons_zero, List.set_cons_succ]
          refine wpAnyL_take (i := 20) (v := ?_) rfl (by kernel_rfl) (by kernel_rfl) (by kernel_rfl) (by kernel_rfl) (fun _ _ _ h => h) (Or.inl ⟨by first | kernel_rfl | rfl, ?_⟩) (by assumption) ?_
          rotate_left
          · (intro wq0 hSw; (try dsimp only at hSw); (try simp (maxSteps := 2000000) only [List.getElem_toArray, List.getElem_cons_succ, List.getElem_cons_zero]); go_simp); try with_reducible rfl
          try simp (maxSteps := 2000000) only [List.getElem_toArray, List.getElem_cons_succ, List.getElem_cons_zero, Act.put, List.setIfInBounds_toArray, List.set_cons_zero, List.set_cons_succ]
          refine wpAnyL_ready (rs := [21]) (by kernel_rfl) (by simp) ?_
          refine AllReadyL.cons rfl (fun K hK => ?_) AllReadyL.nil
          try simp (maxSteps := 2000000) only [List.getElem_toArray, List.getElem_cons_succ, List.getElem_cons_zero]
          go_simp
          go_at_call 77
          refine hfo.mono ?_
          rintro e w5 ⟨AN, cN, rfl, hcN, hrs, hb2⟩
          have HB5 := Lib.hid hb2
          have hw5 := HD.out.below (w' := w5) hb2
          have c2 := (hb2.cell (p := ⟨p, 0, none⟩) lp1).trans s1.1
          have c3 := (hb2.cell (p := ⟨p, 1, none⟩) lp1).trans s1.2.1
          have c4 := (hb2.cell (p := ⟨g, at', none⟩) lg1).trans s1.2.2.1
          have c5 := (hb2.cell (p := ⟨b4, o4 + col, none⟩) hbl4).trans s1.2.2.2
          have s2 : w5.cell? ⟨p, 0, none⟩ = some (.pointer (some ⟨b, 0, none⟩)) ∧ w5.cell? ⟨p, 1, none⟩ = some (.slice (some ⟨g, 0, none⟩) n c) ∧ w5.cell? ⟨g, at', none⟩ = some (.slice A5 m d5) ∧ w5.cell? ⟨b4, o4 + col, none⟩ = some (.int .u8 (gt (ra a1 k) col : Int)) := ⟨c2, c3, c4, c5⟩
          obtain ⟨_, _, c6, f6, _, _⟩ := hw5.row hlt
          have HW5 := Lib.hid hw5
          have HRS := Lib.hid hrs
          have HCN := Lib.hid hcN
          clear hfo hb2 hw5 hrs c2 c3 c4 c5 hcN
          try (go_wp2_with fail)
          refine hK.out _ _ (by first | exact s1 | exact s2) (fun hHeld => ?_)
          clear hK K
          try simp (maxSteps := 2000000) only [List.getElem_toArray, List.getElem_cons_succ, List.getElem_cons_zero, Act.put, List.setIfInBounds_toArray, List.set_cons_zero, List.set_cons_succ]
          refine wpAnyL_take (i := 22) (v := ?_) rfl (by kernel_rfl) (by kernel_rfl) (by kernel_rfl) (by kernel_rfl) (fun _ _ _ h => h) (Or.inl ⟨by first | kernel_rfl | rfl, ?_⟩) (by assumption) ?_
          rotate_left
          · (intro wq0 hSw; (try dsimp only at hSw); (try simp (maxSteps := 2000000) only [List.getElem_toArray, List.getElem_cons_succ, List.getElem_cons_zero]); go_simp); try with_reducible rfl
          try simp (maxSteps := 2000000) only [List.getElem_toArray, List.getElem_cons_succ, List.getElem_cons_zero, Act.put, List.setIfInBounds_toArray, List.set_cons_zero, List.set_cons_succ]
          refine wpAnyL_ready (rs := [23]) (by kernel_rfl) (by simp) ?_
          refine AllReadyL.last rfl (by decide) (fun K hK => ?_) AllReadyL.nil
          try simp (maxSteps := 2000000) only [List.getElem_toArray, List.getElem_cons_succ, List.getElem_cons_zero]
          go_simp
          refine hK.out _ _ ?_
          clear hK K
          try simp (maxSteps := 2000000) only [List.getElem_toArray, List.getElem_cons_succ, List.getElem_cons_zero, Act.put, List.setIfInBounds_toArray, List.set_cons_zero, List.set_cons_succ]
          refine wpAnyL_done (by kernel_rfl) ?_ _
          have hw6 := HW5.out.set (i := k) hlt HCN.out (HRS.out.weaken ByR.stable fun j hj => by
            have hj2 : wr.heap.size ≤ j := hj
            have := HW5.out.hg
            refine ⟨by omega, by omega, by omega⟩)
          rw [← HMF.out] at hw6
          have hk6 : KeepB g w3 (w5.setCell ⟨g, k, none⟩ (.slice AN m cN)) := Keep.setCell (F := fun k => k = g) (p := ⟨g, k, none⟩) (keep_drew HK.out |>.trans (Keep.of_below (F := fun _ => False) HB5.out) (fun _ h => h.elim)) (fun _ => rfl) _
          have HW6 := Lib.hid hw6
          have HK6 := Lib.hid hk6
          clear hw6 hk6 s1 s2 hHeld
          go_wp2_with fail
          exact ⟨⟨k + 1, by omega, by go_num, HW6, HK6⟩, by simp [intOf]; omega⟩
    · have p1 : ¬ (k : Int) < (n : Int) := by omega
      obtain rfl : k = n := by omega
      rw [HA1.out, ← clF_eq hal] at HM
      go_wp2_with fail
      go_end0
      exact ⟨rfl, HM.out, HK3.out.trans HK.out (fun _ h _ => h)⟩
end Go.Proofs.YthhljmlpjnkfgaaGreat
