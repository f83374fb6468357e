/-
  BufferOvers, walked.
-/
import Derived.Test.YtpibaahiboajhaaBuf15
set_option linter.unusedSimpArgs false
set_option linter.unusedVariables false
namespace Go.Proofs.Ytpibaahiboajhaa
open Go.RowKit Go.Cib
attribute [local go_sem] cell_set Later.cell Later.frozen Grw.cell Grw.frozen

theorem over_mem {L : List Wr} {f t : ByteArray} : ∀ {xs O : List Fd} {z : Fd}, z ∈ overL L f t O xs → z ∈ O ∨ z ∈ xs
  | [], O, z, h => .inl h
  | g :: r, O, z, h => by
    unfold overL at h
    rcases List.mem_append.1 h with h | h
    · exact .inl (List.mem_of_mem_take h)
    · rcases List.mem_append.1 h with h | h
      · exact .inr (by have := (List.mem_filter.1 h).1; rw [List.mem_singleton.1 this]; simp)
      · rcases over_mem h with h | h
        · exact .inl (List.mem_of_mem_drop h)
        · exact .inr (List.mem_cons_of_mem _ h)
theorem shown_places {L : List Wr} {f t : ByteArray} {z : Fd} (h : z ∈ shownL f t L) : z.places = [] := by
  unfold shownL at h
  obtain ⟨y, hy, rfl⟩ := List.mem_map.1 h
  rfl
theorem seen_places {L : List Wr} {f t : ByteArray} {xs : List Fd} {most : Int} (h : ∀ x ∈ xs, FdOk x) : ∀ x ∈ seenL L f t xs most, x.places.length ≤ 1000000 := by
  intro x hx
  unfold seenL at hx
  rcases over_mem (List.mem_of_mem_take hx) with h2 | h2
  · rw [shown_places h2]; simp
  · have := (h x h2).2.2; omega
theorem seen_len {L : List Wr} {f t : ByteArray} {xs : List Fd} {most : Int} (hL : L.length ≤ 16) : (seenL L f t xs most).length ≤ 16 + xs.length := by
  unfold seenL
  have h1 := over_len L f t (shownL f t L) xs
  have h2 := shown_len (f := f) (t := t) L
  rw [List.length_take]; omega

set_option maxRecDepth 100000 in
set_option maxHeartbeats 8000000 in
theorem overs26_any {w : World} {A A2 : Option Addr} {m c m2 c2 : Nat} {acts : List BAct} {xs : List Fd} (f t : ByteArray) (most : Int) (R : Hid (RdL BActR 3 (fun _ => True) w A m acts)) (RF : Hid (RdL FdR 6 (fun _ => True) w A2 m2 xs)) :
    Calls Try.prog 10 #[.slice A m c, .slice A2 m2 c2, .agg #[.string f, .string t], .int .i64 most] w fun e w' => e = .returned (.bool true) ∧ Below w.heap.size w w' := by
  have wX0 : Below w.heap.size w (w.alloc (.cells #[.string f, .string t] 56)) := (by repeat (first | (with_reducible exact Below.refl _ _) | (with_reducible assumption) | (with_reducible refine Below.drew ?_) | (with_reducible refine Below.setCell ?_ ?_ _) | (with_reducible refine Below.alloc ?_ ?_ _) | (with_reducible refine Below.later ?_ ?_ _) | (first | (with_reducible exact Nat.le_refl _) | omega | (simp only [World.size_alloc, World.size_setCell, World.size_drew] <;> omega))))
  have X0 := BoxAt.new w #[.string f, .string t] 56
  obtain ⟨wx, hw1⟩ : ∃ w1, w.alloc (.cells #[.string f, .string t] 56) = w1 := ⟨_, rfl⟩
  rw [hw1] at wX0 X0
  have R0 : Hid (RdL BActR 3 (fun q => q < wx.heap.size) wx A m acts) := Lib.hid ((R.out.below BActR.stable wX0).stable BActR.stable (fun b _ hlt => ⟨hlt, rfl⟩))
  have RB := Lib.hid (RF.out.below FdR.stable wX0)
  have WX := Lib.hid wX0
  have hyl := X0.lt
  have s0 := fun w' (hb : Below wx.heap.size wx w') => (hb.cell (p := ⟨w.heap.size, 0, none⟩) hyl).trans (X0.cell 0)
  have s1 := fun w' (hb : Below wx.heap.size wx w') => (hb.cell (p := ⟨w.heap.size, 1, none⟩) hyl).trans (X0.cell 1)
  have hfl : xs.length = m2 := RF.out.1
  clear X0 wX0
  go_enter Try.func10, Try.ntmps10
  go_wp2_with fail
  clear hw1
  refine (fewB_any R0).mono ?_
  rintro e w1 ⟨⟨r0, rfl, hm0⟩, b1⟩
  cases r0 with
  | false =>
    clear hm0
    go_wp2_with fail
    refine (overlays_any w1).mono ?_
    rintro e w' ⟨rfl, hb⟩
    go_wp2_with fail
    go_ret
    exact ⟨rfl, below_then (below_then hb b1) WX.out⟩
  | true =>
  obtain ⟨hm60, hvl⟩ := hm0 rfl
  have HVL := Lib.hid hvl
  clear hm0 hvl
  have hsmall := small_any (c := c2) (Lib.hid (RB.out.below FdR.stable b1))
  go_wp2_with fail
  refine hsmall.mono ?_
  rintro e w2 ⟨⟨r1, rfl, hm1⟩, t2⟩
  have b2 := below_then t2 b1
  clear t2 hsmall
  cases r1 with
  | false =>
    clear hm1
    go_wp2_with fail
    refine (overlays_any w2).mono ?_
    rintro e w' ⟨rfl, hb⟩
    go_wp2_with fail
    go_ret
    exact ⟨rfl, below_then (below_then hb b2) WX.out⟩
  | true =>
  obtain ⟨hm2, hok⟩ := hm1 rfl
  have HFD := Lib.hid hok
  have HOK : Hid (∀ x ∈ xs, x.key.size ≤ 1000 ∧ x.val.length ≤ 1000000 ∧ x.places.length ≤ 1000000) := Lib.hid (fun x hx => by obtain ⟨h1, h2, h3⟩ := HFD.out x hx; omega)
  clear hm1 hok
  have v0 := s0 w2 b2; have v1 := s1 w2 b2
  by_cases hf : f.size ≤ 60
  · have e1 : ¬ (60 : Int) < (f.size : Int) := by omega
    by_cases ht : t.size ≤ 60
    · have e2 : ¬ (60 : Int) < (t.size : Int) := by omega
      go_wp2_with fail
      clear v0 v1
      refine (bnew_any w2).mono ?_
      rintro e w3 ⟨b, bb, rfl, hbw, hbbw, hbl, hbbl, h3, t3⟩
      have hs2 := b2.size
      have hs3 := t3.size
      have hbbw2 : wx.heap.size ≤ bb := by omega
      have HT3 := Lib.hid (two_new (w := w) h3)
      have hA : Below w3.heap.size w3 (w3.alloc (.cells #[.slice none 0 0] 97)) := (Below.refl _ _).alloc (Nat.le_refl _) _
      have B3 := Lib.hid (below_then (below_then hA t3) b2)
      obtain ⟨x, hx⟩ : ∃ x, w3.heap.size = x := ⟨_, rfl⟩
      have hxw : wx.heap.size ≤ x := by omega
      obtain ⟨w4, hw4⟩ : ∃ w4, w3.alloc (.cells #[.slice none 0 0] 97) = w4 := ⟨_, rfl⟩
      rw [hw4] at HT3 B3
      rw [hx] at HT3
      clear h3 t3 hA hbl hbbl hbw hbbw hs2 hs3 b1 b2
      go_wp2_with fail
      clear hw4 hx
      go_loopw [11] (fun vi wr => ∃ (i : Nat) (L : List Wr), i ≤ m ∧ vi = .int .i64 i ∧ Hid (TwoB wr b bb x L) ∧ Hid (Below wx.heap.size wx wr)) (fun vi _ => m - (intOf vi).toNat)
      case atStart => exact ⟨0, [], Nat.zero_le _, rfl, HT3, B3⟩
      case round =>
        clear HT3 B3
        obtain ⟨wq, rfl⟩ : ∃ wq, wq = wr := ⟨_, rfl⟩
        obtain ⟨i, L, hi, rfl, HW, HB⟩ := hrel
        have q2 : (0 : Int) ≤ (i : Int) := Int.natCast_nonneg _
        have bq := HB.out
        by_cases hlt : i < m
        · have q1 : (i : Int) < (m : Int) := by omega
          obtain ⟨bo, oo, a, VA, vm, vc, rfl, ha, hbo, _, hr, d0, d1, d2⟩ := bact_at R0.out hlt
          have u0 := (bq.cell (p := ⟨bo, oo + i * 3, none⟩) hbo).trans d0
          have u1 := (bq.cell (p := ⟨bo, oo + i * 3 + 1, none⟩) hbo).trans d1
          have u2 := (bq.cell (p := ⟨bo, oo + i * 3 + 2, none⟩) hbo).trans d2
          have hvm : vm ≤ 1000000 := by have := HVL.out a (List.mem_of_getElem? ha); have h2 : a.val.length = vm := hr.1; omega
          have HV := Lib.hid (hr.below U8R.stable bq)
          have hact := act26_any HW a (c := vc) HV (fun q hq => by have : q < wx.heap.size := hq; omega) hvm
          clear d0 d1 d2 ha hr s0 s1
          go_wp2_with fail
          refine hact.mono ?_
          rintro e w5 ⟨rfl, t5, k5⟩
          have K5 : Below wx.heap.size wx w5 := ((Keep.of_later bq).trans (G := fun q => q = bb ∨ q = x) k5 (fun q h _ => by rcases h with h | h <;> omega)).below (Nat.le_refl _) (fun q h => h)
          have T5 := Lib.hid t5
          have K5h := Lib.hid K5
          clear t5 k5 K5 hact u0 u1 u2 bq
          go_wp2_with fail
          exact ⟨⟨i + 1, wrW L (actW a), by omega, by go_num, T5, K5h⟩, by simp [intOf]; omega⟩
        · obtain rfl : i = m := by omega
          have q1 : ¬ (i : Int) < (i : Int) := by omega
          have hL16 := HW.out.our.ok.len
          have HPL : Hid (∀ y ∈ seenL L f t xs most, y.places.length ≤ 1000000) := Lib.hid (seen_places HFD.out)
          have hsl := seen_len (L := L) (f := f) (t := t) (xs := xs) (most := most) hL16
          go_wp2_with fail
          refine wp_region_held_drew (S := fun w' => Below wx.heap.size wx w') (by kernel_rfl) (by first | assumption | exact bq.drew | exact (by repeat (first | (with_reducible exact Below.refl _ _) | (with_reducible assumption) | (with_reducible refine Below.drew ?_) | (with_reducible refine Below.setCell ?_ ?_ _) | (with_reducible refine Below.alloc ?_ ?_ _) | (with_reducible refine Below.later ?_ ?_ _) | (first | (with_reducible exact Nat.le_refl _) | omega | (simp only [World.size_alloc, World.size_setCell, World.size_drew] <;> omega))))) (fun hHeld => ?_)
          refine wpAnyH_take (i := 0) (v := ?_) rfl (by kernel_rfl) (by kernel_rfl) (by kernel_rfl) (fun _ _ _ h => h) (Or.inl ⟨by first | kernel_rfl | rfl, ?_⟩) (by assumption) ?_
          rotate_left
          · (intro wq hSw; (try dsimp only at hSw); (try simp (maxSteps := 2000000) only [List.getElem_toArray, List.getElem_cons_succ, List.getElem_cons_zero]); go_simp); try with_reducible rfl
          try simp (maxSteps := 2000000) only [List.getElem_toArray, List.getElem_cons_succ, List.getElem_cons_zero, Act.put, List.setIfInBounds_toArray, List.set_cons_zero, List.set_cons_succ]
          refine wpAnyH_take (i := 1) (v := ?_) rfl (by kernel_rfl) (by kernel_rfl) (by kernel_rfl) (fun _ _ _ h => h) (Or.inl ⟨by first | kernel_rfl | rfl, ?_⟩) (by assumption) ?_
          rotate_left
          · (intro wq hSw; (try dsimp only at hSw); (try simp (maxSteps := 2000000) only [List.getElem_toArray, List.getElem_cons_succ, List.getElem_cons_zero]); go_simp); try with_reducible rfl
          try simp (maxSteps := 2000000) only [List.getElem_toArray, List.getElem_cons_succ, List.getElem_cons_zero, Act.put, List.setIfInBounds_toArray, List.set_cons_zero, List.set_cons_succ]
          refine wpAnyH_take (i := 2) (v := ?_) rfl (by kernel_rfl) (by kernel_rfl) (by kernel_rfl) (fun _ _ _ h => h) (Or.inl ⟨by first | kernel_rfl | rfl, ?_⟩) (by assumption) ?_
          rotate_left
          · (intro wq hSw; (try dsimp only at hSw); (try simp (maxSteps := 2000000) only [List.getElem_toArray, List.getElem_cons_succ, List.getElem_cons_zero]); go_simp); try with_reducible rfl
          try simp (maxSteps := 2000000) only [List.getElem_toArray, List.getElem_cons_succ, List.getElem_cons_zero, Act.put, List.setIfInBounds_toArray, List.set_cons_zero, List.set_cons_succ]
          refine wpAnyH_take (i := 3) (v := ?_) rfl (by kernel_rfl) (by kernel_rfl) (by kernel_rfl) (fun _ _ _ h => h) (Or.inl ⟨by first | kernel_rfl | rfl, ?_⟩) (by assumption) ?_
          rotate_left
          · (intro wq hSw; (try dsimp only at hSw); (try simp (maxSteps := 2000000) only [List.getElem_toArray, List.getElem_cons_succ, List.getElem_cons_zero]); go_simp); try with_reducible rfl
          try simp (maxSteps := 2000000) only [List.getElem_toArray, List.getElem_cons_succ, List.getElem_cons_zero, Act.put, List.setIfInBounds_toArray, List.set_cons_zero, List.set_cons_succ]
          refine wpAnyH_take (i := 5) (v := ?_) rfl (by kernel_rfl) (by kernel_rfl) (by kernel_rfl) (fun _ _ _ h => h) (Or.inl ⟨by first | kernel_rfl | rfl, ?_⟩) (by assumption) ?_
          rotate_left
          · (intro wq hSw; (try dsimp only at hSw); (try simp (maxSteps := 2000000) only [List.getElem_toArray, List.getElem_cons_succ, List.getElem_cons_zero]); go_simp); try with_reducible rfl
          try simp (maxSteps := 2000000) only [List.getElem_toArray, List.getElem_cons_succ, List.getElem_cons_zero, Act.put, List.setIfInBounds_toArray, List.set_cons_zero, List.set_cons_succ]
          refine wpAnyH_take (i := 6) (v := ?_) rfl (by kernel_rfl) (by kernel_rfl) (by kernel_rfl) (fun _ _ _ h => h) (Or.inl ⟨by first | kernel_rfl | rfl, ?_⟩) (by assumption) ?_
          rotate_left
          · (intro wq hSw; (try dsimp only at hSw); (try simp (maxSteps := 2000000) only [List.getElem_toArray, List.getElem_cons_succ, List.getElem_cons_zero]); go_simp); try with_reducible rfl
          try simp (maxSteps := 2000000) only [List.getElem_toArray, List.getElem_cons_succ, List.getElem_cons_zero, Act.put, List.setIfInBounds_toArray, List.set_cons_zero, List.set_cons_succ]
          refine wpAnyH_take (i := 7) (v := ?_) rfl (by kernel_rfl) (by kernel_rfl) (by kernel_rfl) (fun _ _ _ h => h) (Or.inl ⟨by first | kernel_rfl | rfl, ?_⟩) (by assumption) ?_
          rotate_left
          · (intro wq hSw; (try dsimp only at hSw); (try simp (maxSteps := 2000000) only [List.getElem_toArray, List.getElem_cons_succ, List.getElem_cons_zero]); go_simp); try with_reducible rfl
          try simp (maxSteps := 2000000) only [List.getElem_toArray, List.getElem_cons_succ, List.getElem_cons_zero, Act.put, List.setIfInBounds_toArray, List.set_cons_zero, List.set_cons_succ]
          refine wpAnyH_take (i := 8) (v := ?_) rfl (by kernel_rfl) (by kernel_rfl) (by kernel_rfl) (fun _ _ _ h => h) (Or.inl ⟨by first | kernel_rfl | rfl, ?_⟩) (by assumption) ?_
          rotate_left
          · (intro wq hSw; (try dsimp only at hSw); (try simp (maxSteps := 2000000) only [List.getElem_toArray, List.getElem_cons_succ, List.getElem_cons_zero]); go_simp); try with_reducible rfl
          try simp (maxSteps := 2000000) only [List.getElem_toArray, List.getElem_cons_succ, List.getElem_cons_zero, Act.put, List.setIfInBounds_toArray, List.set_cons_zero, List.set_cons_succ]
          refine wpAnyH_ready (rs := [4]) (by kernel_rfl) (by simp) ?_
          refine AllReadyH.cons rfl (fun K hK => ?_) AllReadyH.nil
          try simp (maxSteps := 2000000) only [List.getElem_toArray, List.getElem_cons_succ, List.getElem_cons_zero]
          go_simp
          refine (over_any (Lib.hid (Or.inl ⟨b, bb, rfl, HW.out.our.below (Below.refl _ _).drew⟩)) f t most (c := c2) (Lib.hid (RB.out.below FdR.stable bq.drew)) (by omega) HOK.out).mono ?_
          rintro e w4 ⟨A4, c4, rfl, r4, t4⟩
          have b4 := below_then t4 bq.drew
          have T4 := Lib.hid (HW.out.below (below_then t4 (Below.refl _ _).drew))
          have R4 := Lib.hid r4
          clear r4 t4
          try (go_wp2_with fail)
          refine hK.out _ _ (by first | assumption | exact bq.drew | exact (by repeat (first | (with_reducible exact Below.refl _ _) | (with_reducible assumption) | (with_reducible refine Below.drew ?_) | (with_reducible refine Below.setCell ?_ ?_ _) | (with_reducible refine Below.alloc ?_ ?_ _) | (with_reducible refine Below.later ?_ ?_ _) | (first | (with_reducible exact Nat.le_refl _) | omega | (simp only [World.size_alloc, World.size_setCell, World.size_drew] <;> omega))))) (fun hHeld => ?_)
          clear hK K
          try simp (maxSteps := 2000000) only [List.getElem_toArray, List.getElem_cons_succ, List.getElem_cons_zero, Act.put, List.setIfInBounds_toArray, List.set_cons_zero, List.set_cons_succ]
          refine wpAnyH_ready (rs := [9]) (by kernel_rfl) (by simp) ?_
          refine AllReadyH.cons rfl (fun K hK => ?_) AllReadyH.nil
          try simp (maxSteps := 2000000) only [List.getElem_toArray, List.getElem_cons_succ, List.getElem_cons_zero]
          go_simp
          refine (rover_any (Lib.hid T4.out.doc) (Lib.hid T4.out.our.ok) f t most (c := c2) (Lib.hid (RB.out.below FdR.stable b4)) (by omega)).mono ?_
          rintro e w5 ⟨A5, c5, rfl, r5, t5⟩
          rw [seen_same T4.out.our.ok.rises] at r5 ⊢
          have b5 := below_then t5 b4
          have R5 := Lib.hid r5
          have R45 := Lib.hid (R4.out.below FdR.stable t5)
          clear r5 t5
          try (go_wp2_with fail)
          refine hK.out _ _ (by first | assumption | exact bq.drew | exact (by repeat (first | (with_reducible exact Below.refl _ _) | (with_reducible assumption) | (with_reducible refine Below.drew ?_) | (with_reducible refine Below.setCell ?_ ?_ _) | (with_reducible refine Below.alloc ?_ ?_ _) | (with_reducible refine Below.later ?_ ?_ _) | (first | (with_reducible exact Nat.le_refl _) | omega | (simp only [World.size_alloc, World.size_setCell, World.size_drew] <;> omega))))) (fun hHeld => ?_)
          clear hK K
          try simp (maxSteps := 2000000) only [List.getElem_toArray, List.getElem_cons_succ, List.getElem_cons_zero, Act.put, List.setIfInBounds_toArray, List.set_cons_zero, List.set_cons_succ]
          refine wpAnyH_ready (rs := [10]) (by kernel_rfl) (by simp) ?_
          refine AllReadyH.cons rfl (fun K hK => ?_) AllReadyH.nil
          try simp (maxSteps := 2000000) only [List.getElem_toArray, List.getElem_cons_succ, List.getElem_cons_zero]
          go_simp
          refine (sameFound_eq R45 R5 (by omega) HPL).mono ?_
          rintro e w6 ⟨rfl, t6⟩
          have b6 := below_then t6 b5
          clear t6
          try (go_wp2_with fail)
          refine hK.out _ _ (by first | assumption | exact bq.drew | exact (by repeat (first | (with_reducible exact Below.refl _ _) | (with_reducible assumption) | (with_reducible refine Below.drew ?_) | (with_reducible refine Below.setCell ?_ ?_ _) | (with_reducible refine Below.alloc ?_ ?_ _) | (with_reducible refine Below.later ?_ ?_ _) | (first | (with_reducible exact Nat.le_refl _) | omega | (simp only [World.size_alloc, World.size_setCell, World.size_drew] <;> omega))))) (fun hHeld => ?_)
          clear hK K
          try simp (maxSteps := 2000000) only [List.getElem_toArray, List.getElem_cons_succ, List.getElem_cons_zero, Act.put, List.setIfInBounds_toArray, List.set_cons_zero, List.set_cons_succ]
          refine wpAnyH_take (i := 11) (v := ?_) rfl (by kernel_rfl) (by kernel_rfl) (by kernel_rfl) (fun _ _ _ h => h) (Or.inl ⟨by first | kernel_rfl | rfl, ?_⟩) (by assumption) ?_
          rotate_left
          · (intro wq hSw; (try dsimp only at hSw); (try simp (maxSteps := 2000000) only [List.getElem_toArray, List.getElem_cons_succ, List.getElem_cons_zero]); go_simp); try with_reducible rfl
          try simp (maxSteps := 2000000) only [List.getElem_toArray, List.getElem_cons_succ, List.getElem_cons_zero, Act.put, List.setIfInBounds_toArray, List.set_cons_zero, List.set_cons_succ]
          refine wpAnyH_ready (rs := [12]) (by kernel_rfl) (by simp) ?_
          refine AllReadyH.cons rfl (fun K hK => ?_) AllReadyH.nil
          try simp (maxSteps := 2000000) only [List.getElem_toArray, List.getElem_cons_succ, List.getElem_cons_zero]
          go_simp
          refine (overlays_any w6).mono ?_
          rintro e w7 ⟨rfl, t7⟩
          have b7 := below_then t7 b6
          have B7 := Lib.hid b7
          clear t7
          try (go_wp2_with fail)
          refine hK.out _ _ (by first | assumption | exact bq.drew | exact (by repeat (first | (with_reducible exact Below.refl _ _) | (with_reducible assumption) | (with_reducible refine Below.drew ?_) | (with_reducible refine Below.setCell ?_ ?_ _) | (with_reducible refine Below.alloc ?_ ?_ _) | (with_reducible refine Below.later ?_ ?_ _) | (first | (with_reducible exact Nat.le_refl _) | omega | (simp only [World.size_alloc, World.size_setCell, World.size_drew] <;> omega))))) (fun hHeld => ?_)
          clear hK K
          try simp (maxSteps := 2000000) only [List.getElem_toArray, List.getElem_cons_succ, List.getElem_cons_zero, Act.put, List.setIfInBounds_toArray, List.set_cons_zero, List.set_cons_succ]
          refine wpAnyH_take (i := 13) (v := ?_) rfl (by kernel_rfl) (by kernel_rfl) (by kernel_rfl) (fun _ _ _ h => h) (Or.inl ⟨by first | kernel_rfl | rfl, ?_⟩) (by assumption) ?_
          rotate_left
          · (intro wq hSw; (try dsimp only at hSw); (try simp (maxSteps := 2000000) only [List.getElem_toArray, List.getElem_cons_succ, List.getElem_cons_zero]); go_simp); try with_reducible rfl
          try simp (maxSteps := 2000000) only [List.getElem_toArray, List.getElem_cons_succ, List.getElem_cons_zero, Act.put, List.setIfInBounds_toArray, List.set_cons_zero, List.set_cons_succ]
          refine wpAnyH_take (i := 14) (v := ?_) rfl (by kernel_rfl) (by kernel_rfl) (by kernel_rfl) (fun _ _ _ h => h) (Or.inl ⟨by first | kernel_rfl | rfl, ?_⟩) (by assumption) ?_
          rotate_left
          · (intro wq hSw; (try dsimp only at hSw); (try simp (maxSteps := 2000000) only [List.getElem_toArray, List.getElem_cons_succ, List.getElem_cons_zero]); go_simp); try with_reducible rfl
          try simp (maxSteps := 2000000) only [List.getElem_toArray, List.getElem_cons_succ, List.getElem_cons_zero, Act.put, List.setIfInBounds_toArray, List.set_cons_zero, List.set_cons_succ]
          refine wpAnyH_done (by kernel_rfl) ?_ _
          go_wp2_with fail
          go_ret
          exact ⟨rfl, below_then B7.out WX.out⟩
    · have e2 : (60 : Int) < (t.size : Int) := by omega
      go_wp2_with fail
      refine (overlays_any w2).mono ?_
      rintro e w' ⟨rfl, hb⟩
      go_wp2_with fail
      go_ret
      exact ⟨rfl, below_then (below_then hb b2) WX.out⟩
  · have e1 : (60 : Int) < (f.size : Int) := by omega
    go_wp2_with fail
    refine (overlays_any w2).mono ?_
    rintro e w' ⟨rfl, hb⟩
    go_wp2_with fail
    go_ret
    exact ⟨rfl, below_then (below_then hb b2) WX.out⟩
end Go.Proofs.Ytpibaahiboajhaa
