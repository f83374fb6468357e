/-
  A shard as the sum of others; which shards there are.
-/
import Derived.Test.YthhljmlpjnkfgaaGreatDec2
set_option linter.unusedSimpArgs false
set_option linter.unusedVariables false
namespace Go.Proofs.YthhljmlpjnkfgaaGreat
open Go.RowKit Go.Cib
attribute [local go_sem] cell_set Later.cell Later.frozen Grw.cell Grw.frozen
theorem eq_slB (w : World) (p : Option Addr) (n c : Nat) : (binOp .eql 29 (.slice p n c) (.slice none 0 0)).run Tryz.prog w = .ok (.bool p.isNone) w := Lib.run_eql_slice_nil _ _ _ _ _ _ _ _ sl_by.und
attribute [local go_sem] eq_slB

set_option maxRecDepth 100000 in
theorem cloneB_any {S : Nat → Prop} {w : World} {A : Option Addr} {m c : Nat} {xs : List Nat} (R : Hid (RdL ByR 1 S w A m xs)) (hm : m ≤ 1000000) :
    Calls Tryz.prog 61 #[.slice A m c] w fun e w' => ∃ A' c', e = .returned (.slice A' m c') ∧ m ≤ c' ∧ RdL ByR 1 (w.heap.size ≤ ·) w' A' m xs ∧ Below w.heap.size w w' := by
  cases A with
  | none =>
    have hm0 : m = 0 := by
      rcases Nat.eq_zero_or_pos m with h | h
      · exact h
      · obtain ⟨b, o, hA, _⟩ := R.out.addr h; cases hA
    subst hm0
    have hx := R.out.1
    have : xs = [] := List.length_eq_zero_iff.1 hx
    subst this
    go_enter Tryz.func61, Tryz.ntmps61
    go_wp2_with fail
    go_ret
    exact ⟨none, 0, rfl, Nat.le_refl _, RdL.nil, Below.refl _ _⟩
  | some p =>
    go_enter Tryz.func61, Tryz.ntmps61
    have hA := Lib.hid (R.out.alloc ByR.stable (.cells #[] 5))
    go_wp2_with (at_builtin; refine wpList_appL ByR.stable ByR.one sl_by rfl (by exact rfl) (base := w.heap.size) (S := fun _ => True) (n := 0) (xs := []) (by exact rfl) (OwnL.made #[] 0 (Nat.le_refl _) (by unfold maxLen; omega) rfl) (by exact rfl) hA.out (fun _ _ h => h) (by unfold maxLen; omega) (by omega) (by simp only [World.size_alloc]; omega) ?_; intro A' c' w' hc hown hg hat)
    have hb : Below w.heap.size w w' := ((Below.refl _ _).alloc (Nat.le_refl _) _).grown hg (by simp only [World.size_alloc]; omega) (fun k hk => by simp only [Value.ownBlock, Option.some.injEq] at hk; omega)
    rw [Nat.zero_add, List.nil_append] at hown
    obtain ⟨A2, c2, hv, hc2, hrd⟩ := hown.rd (S' := fun b => w.heap.size ≤ b) (fun b hb => hb) (fun cs x hx => hx)
    simp only [Value.slice.injEq] at hv
    obtain ⟨rfl, _, rfl⟩ := hv
    clear hA hown hg hat
    go_ret
    exact ⟨A', c', rfl, hc2, hrd, hb⟩

def madeF (ws us : List Nat) (ss : Rws) (n : Nat) : List Nat := combF ws (us.map (ra ss)) (List.replicate n 0)
set_option maxRecDepth 100000 in
set_option maxHeartbeats 4000000 in
theorem made_any {w : World} {cb b k m N cs cu cw n : Nat} {As Au Aw : Option Addr} {S1 S2 S3 : Nat → Prop} {ss : Rws} {us ws : List Nat} (H : CodAt w cb b k m) (R1 : RdL RowR 1 S1 w As N ss) (R2 : RdL NatR 1 S2 w Au k us) (R3 : RdL ByR 1 S3 w Aw k ws)
    (hus : ∀ u ∈ us, u < N ∧ (ra ss u).length = n) (hn : n ≤ 1000000) :
    Calls Tryz.prog 62 #[.pointer (some ⟨cb, 0, none⟩), .slice As N cs, .slice Au k cu, .slice Aw k cw] w fun e w' => ∃ A' c', e = .returned (.slice A' n c') ∧ n ≤ c' ∧ RdL ByR 1 (fun j => w.heap.size ≤ j) w' A' n (madeF ws us ss n) ∧ Below w.heap.size w w' := by
  have HC := Lib.hid H
  have H1 := Lib.hid R1
  have H2 := Lib.hid R2
  have H3 := Lib.hid R3
  have hk1 := H.k1
  have hkm := H.km
  have hul := R2.1
  have hwl := R3.1
  have q0 : (k : Int) ≤ 255 := by omega
  have q1 : (0 : Int) < (k : Int) := by omega
  have hrow : ∀ u, u ∈ us → ∃ bb o, As = some ⟨bb, o, none⟩ ∧ bb < w.heap.size ∧ ∃ A c, w.cell? ⟨bb, o + u, none⟩ = some (.slice A n c) ∧ n ≤ c ∧ RdL ByR 1 S1 w A n (ra ss u) := fun u hu => by
    obtain ⟨h5, h6⟩ := hus u hu
    obtain ⟨bb, o, rfl, _, hb⟩ := R1.addr h5
    obtain ⟨A, mm, c, v, hc, hr⟩ := row_at R1 h5
    have hmm : mm = n := by rw [← hr.1, h6]
    subst hmm
    exact ⟨bb, o, rfl, hb, A, c, v, hc, hr⟩
  have HROW := Lib.hid hrow
  obtain ⟨bu, ou, rfl, _, hbu⟩ := R2.addr (k := 0) (by omega)
  have u0 := nat_at R2 (k := 0) (by omega)
  rw [Nat.add_zero] at u0
  obtain ⟨bs, os, rfl, hbs, Ar, cr, v0, hcr, hr0⟩ := hrow (gt us 0) (gt_mem (by omega))
  have q2 : ((gt us 0 : Nat) : Int) < (N : Int) := by have := (hus (gt us 0) (gt_mem (by omega))).1; omega
  have q3 : (0 : Int) ≤ ((gt us 0 : Nat) : Int) := Int.natCast_nonneg _
  have q4 : (n : Int) ≤ 1000000 := by omega
  have q5 : (0 : Int) ≤ (n : Int) := Int.natCast_nonneg _
  have hmk := makeBy n (by omega) w
  have hz := RowIn.made w n 5
  have hbz : Below w.heap.size w (w.alloc (.cells (Array.replicate n (.int .u8 0)) 5)) := (Below.refl _ _).alloc (Nat.le_refl _) _
  have hzr := hz.rd (S := fun j => w.heap.size ≤ j) (Nat.le_refl _)
  rw [List.length_replicate] at hzr
  obtain ⟨wA, hwA⟩ : ∃ wA, w.alloc (.cells (Array.replicate n (.int .u8 0)) 5) = wA := ⟨_, rfl⟩
  rw [hwA] at hmk hbz hzr
  have HZ := Lib.hid hzr
  have HBZ := Lib.hid hbz
  clear H R1 R2 R3 hrow hz hbz hzr hwA hr0
  go_enter Tryz.func62, Tryz.ntmps62
  go_wp2_with fail
  clear hmk
  go_loopw [9, 22] (fun vs vi wr => ∃ (i : Nat) (A : Option Addr) (c : Nat), i ≤ k ∧ vi = .int .i64 i ∧ vs = .slice A n c ∧ n ≤ c ∧ Hid (RdL ByR 1 (fun j => w.heap.size ≤ j) wr A n (combF (ws.take i) ((us.map (ra ss)).take i) (List.replicate n 0))) ∧ Hid (Below w.heap.size w wr)) (fun _ vi _ => k - (intOf vi).toNat)
  case atStart => exact ⟨0, _, n, Nat.zero_le _, rfl, rfl, Nat.le_refl _, by rw [List.take_zero, List.take_zero]; exact HZ, HBZ⟩
  case round =>
    clear HZ HBZ u0 v0 q2 q3
    obtain ⟨i, A, c, hi, rfl, rfl, hc, HR, HB⟩ := hrel
    have p0 : (0 : Int) ≤ (i : Int) := Int.natCast_nonneg _
    by_cases hlt : i < k
    · have p1 : (i : Int) < (k : Int) := by omega
      have hum : gt us i ∈ us := gt_mem (by omega)
      have u1 := (HB.out.cell (p := ⟨bu, ou + i, none⟩) hbu).trans (nat_at H2.out hlt)
      obtain ⟨b2, o2, e2, _, A1, c1, v1, hc1, hr1⟩ := HROW.out _ hum
      injection e2 with e2
      injection e2 with e2 e3
      subst e2; subst e3
      obtain ⟨bw, ow, rfl, _, hbw⟩ := H3.out.addr hlt
      obtain ⟨w1, x1⟩ := by_at H3.out hlt
      have hbd : Below w.heap.size w wr.drew := HB.out.drew
      have s1 : wr.drew.cell? ⟨bw, ow + i, none⟩ = some (.int .u8 (gt ws i : Int)) ∧ wr.drew.cell? ⟨bs, os + gt us i, none⟩ = some (.slice A1 n c1) := ⟨(hbd.cell (p := ⟨bw, ow + i, none⟩) hbw).trans w1, (hbd.cell (p := ⟨bs, os + gt us i, none⟩) hbs).trans v1⟩
      have q2 : ((gt us i : Nat) : Int) < (N : Int) := by have := (hus _ hum).1; omega
      have q3 : (0 : Int) ≤ ((gt us i : Nat) : Int) := Int.natCast_nonneg _
      have hF := cfield_any (HC.out.below hbd)
      have hfo := fold_any (w := wr.drew) (cp := c1) (cp2 := c) (HC.out.below hbd).fld x1 (hr1.below ByR.stable hbd) hn hc1 (HR.out.below ByR.stable (Below.refl _ _).drew) hn
      have hrm : ra (us.map (ra ss)) i = ra ss (gt us i) := ra_some (by rw [List.getElem?_map, gt_of_lt (by omega)]; rfl)
      rw [← hrm, ← combF_take (by omega) (by rw [List.length_map]; omega)] at hfo
      clear hr1 hrm hum
      go_wp2_with fail
      refine wp_region_held_drew (S := fun w' => w'.cell? ⟨bw, ow + i, none⟩ = some (.int .u8 (gt ws i : Int)) ∧ w'.cell? ⟨bs, os + gt us i, none⟩ = some (.slice A1 n c1)) (by kernel_rfl) (by first | exact s1 | exact s2) (fun hHeld => ?_)
      refine wpAnyH_take (i := 0) (v := ?_) rfl (by kernel_rfl) (by kernel_rfl) (by kernel_rfl) (fun _ _ _ h => h) (Or.inl ⟨by first | kernel_rfl | rfl, ?_⟩) (by assumption) ?_
      rotate_left
      · (intro wq hSw; (try dsimp only at hSw); (try simp (maxSteps := 2000000) only [List.getElem_toArray, List.getElem_cons_succ, List.getElem_cons_zero]); go_simp); try with_reducible rfl
      try simp (maxSteps := 2000000) only [List.getElem_toArray, List.getElem_cons_succ, List.getElem_cons_zero, Act.put, List.setIfInBounds_toArray, List.set_cons_zero, List.set_cons_succ]
      refine wpAnyH_take (i := 2) (v := ?_) rfl (by kernel_rfl) (by kernel_rfl) (by kernel_rfl) (fun _ _ _ h => h) (Or.inl ⟨by first | kernel_rfl | rfl, ?_⟩) (by assumption) ?_
      rotate_left
      · (intro wq hSw; (try dsimp only at hSw); (try simp (maxSteps := 2000000) only [List.getElem_toArray, List.getElem_cons_succ, List.getElem_cons_zero]); go_simp); try with_reducible rfl
      try simp (maxSteps := 2000000) only [List.getElem_toArray, List.getElem_cons_succ, List.getElem_cons_zero, Act.put, List.setIfInBounds_toArray, List.set_cons_zero, List.set_cons_succ]
      refine wpAnyH_take (i := 3) (v := ?_) rfl (by kernel_rfl) (by kernel_rfl) (by kernel_rfl) (fun _ _ _ h => h) (Or.inl ⟨by first | kernel_rfl | rfl, ?_⟩) (by assumption) ?_
      rotate_left
      · (intro wq hSw; (try dsimp only at hSw); (try simp (maxSteps := 2000000) only [List.getElem_toArray, List.getElem_cons_succ, List.getElem_cons_zero]); go_simp); try with_reducible rfl
      try simp (maxSteps := 2000000) only [List.getElem_toArray, List.getElem_cons_succ, List.getElem_cons_zero, Act.put, List.setIfInBounds_toArray, List.set_cons_zero, List.set_cons_succ]
      refine wpAnyH_take (i := 4) (v := ?_) rfl (by kernel_rfl) (by kernel_rfl) (by kernel_rfl) (fun _ _ _ h => h) (Or.inl ⟨by first | kernel_rfl | rfl, ?_⟩) (by assumption) ?_
      rotate_left
      · (intro wq hSw; (try dsimp only at hSw); (try simp (maxSteps := 2000000) only [List.getElem_toArray, List.getElem_cons_succ, List.getElem_cons_zero]); go_simp); try with_reducible rfl
      try simp (maxSteps := 2000000) only [List.getElem_toArray, List.getElem_cons_succ, List.getElem_cons_zero, Act.put, List.setIfInBounds_toArray, List.set_cons_zero, List.set_cons_succ]
      refine wpAnyH_take (i := 5) (v := ?_) rfl (by kernel_rfl) (by kernel_rfl) (by kernel_rfl) (fun _ _ _ h => h) (Or.inl ⟨by first | kernel_rfl | rfl, ?_⟩) (by assumption) ?_
      rotate_left
      · (intro wq hSw; (try dsimp only at hSw); (try simp (maxSteps := 2000000) only [List.getElem_toArray, List.getElem_cons_succ, List.getElem_cons_zero]); go_simp); try with_reducible rfl
      try simp (maxSteps := 2000000) only [List.getElem_toArray, List.getElem_cons_succ, List.getElem_cons_zero, Act.put, List.setIfInBounds_toArray, List.set_cons_zero, List.set_cons_succ]
      refine wpAnyH_take (i := 6) (v := ?_) rfl (by kernel_rfl) (by kernel_rfl) (by kernel_rfl) (fun _ _ _ h => h) (Or.inl ⟨by first | kernel_rfl | rfl, ?_⟩) (by assumption) ?_
      rotate_left
      · (intro wq hSw; (try dsimp only at hSw); (try simp (maxSteps := 2000000) only [List.getElem_toArray, List.getElem_cons_succ, List.getElem_cons_zero]); go_simp); try with_reducible rfl
      try simp (maxSteps := 2000000) only [List.getElem_toArray, List.getElem_cons_succ, List.getElem_cons_zero, Act.put, List.setIfInBounds_toArray, List.set_cons_zero, List.set_cons_succ]
      refine wpAnyH_take (i := 7) (v := ?_) rfl (by kernel_rfl) (by kernel_rfl) (by kernel_rfl) (fun _ _ _ h => h) (Or.inl ⟨by first | kernel_rfl | rfl, ?_⟩) (by assumption) ?_
      rotate_left
      · (intro wq hSw; (try dsimp only at hSw); (try simp (maxSteps := 2000000) only [List.getElem_toArray, List.getElem_cons_succ, List.getElem_cons_zero]); go_simp); try with_reducible rfl
      try simp (maxSteps := 2000000) only [List.getElem_toArray, List.getElem_cons_succ, List.getElem_cons_zero, Act.put, List.setIfInBounds_toArray, List.set_cons_zero, List.set_cons_succ]
      refine wpAnyH_take (i := 8) (v := ?_) rfl (by kernel_rfl) (by kernel_rfl) (by kernel_rfl) (fun _ _ _ h => h) (Or.inl ⟨by first | kernel_rfl | rfl, ?_⟩) (by assumption) ?_
      rotate_left
      · (intro wq hSw; (try dsimp only at hSw); (try simp (maxSteps := 2000000) only [List.getElem_toArray, List.getElem_cons_succ, List.getElem_cons_zero]); go_simp); try with_reducible rfl
      try simp (maxSteps := 2000000) only [List.getElem_toArray, List.getElem_cons_succ, List.getElem_cons_zero, Act.put, List.setIfInBounds_toArray, List.set_cons_zero, List.set_cons_succ]
      refine wpAnyH_take (i := 9) (v := ?_) rfl (by kernel_rfl) (by kernel_rfl) (by kernel_rfl) (fun _ _ _ h => h) (Or.inl ⟨by first | kernel_rfl | rfl, ?_⟩) (by assumption) ?_
      rotate_left
      · (intro wq hSw; (try dsimp only at hSw); (try simp (maxSteps := 2000000) only [List.getElem_toArray, List.getElem_cons_succ, List.getElem_cons_zero]); go_simp); try with_reducible rfl
      try simp (maxSteps := 2000000) only [List.getElem_toArray, List.getElem_cons_succ, List.getElem_cons_zero, Act.put, List.setIfInBounds_toArray, List.set_cons_zero, List.set_cons_succ]
      refine wpAnyH_take (i := 10) (v := ?_) rfl (by kernel_rfl) (by kernel_rfl) (by kernel_rfl) (fun _ _ _ h => h) (Or.inl ⟨by first | kernel_rfl | rfl, ?_⟩) (by assumption) ?_
      rotate_left
      · (intro wq hSw; (try dsimp only at hSw); (try simp (maxSteps := 2000000) only [List.getElem_toArray, List.getElem_cons_succ, List.getElem_cons_zero]); go_simp); try with_reducible rfl
      try simp (maxSteps := 2000000) only [List.getElem_toArray, List.getElem_cons_succ, List.getElem_cons_zero, Act.put, List.setIfInBounds_toArray, List.set_cons_zero, List.set_cons_succ]
      refine wpAnyH_ready (rs := [1]) (by kernel_rfl) (by simp) ?_
      refine AllReadyH.cons rfl (fun K hK => ?_) AllReadyH.nil
      try simp (maxSteps := 2000000) only [List.getElem_toArray, List.getElem_cons_succ, List.getElem_cons_zero]
      go_simp
      go_at_call 58
      refine hF.mono ?_
      rintro e w9 ⟨rfl, hw9⟩
      rw [hw9]
      clear hw9 hF
      try (go_wp2_with fail)
      refine hK.out _ _ (by first | exact s1 | exact s2) (fun hHeld => ?_)
      clear hK K
      try simp (maxSteps := 2000000) only [List.getElem_toArray, List.getElem_cons_succ, List.getElem_cons_zero, Act.put, List.setIfInBounds_toArray, List.set_cons_zero, List.set_cons_succ]
      refine wpAnyH_ready (rs := [11]) (by kernel_rfl) (by simp) ?_
      refine AllReadyH.cons rfl (fun K hK => ?_) AllReadyH.nil
      try simp (maxSteps := 2000000) only [List.getElem_toArray, List.getElem_cons_succ, List.getElem_cons_zero]
      go_simp
      go_at_call 77
      refine hfo.mono ?_
      rintro e w6 ⟨AN, cN, rfl, hcN, hrs, hb6⟩
      have hs9 := HB.out.size
      have s2 : w6.cell? ⟨bw, ow + i, none⟩ = some (.int .u8 (gt ws i : Int)) ∧ w6.cell? ⟨bs, os + gt us i, none⟩ = some (.slice A1 n c1) := ⟨(hb6.cell (p := ⟨bw, ow + i, none⟩) (Nat.lt_of_lt_of_le hbw hs9)).trans s1.1, (hb6.cell (p := ⟨bs, os + gt us i, none⟩) (Nat.lt_of_lt_of_le hbs hs9)).trans s1.2⟩
      have HRS := Lib.hid (hrs.weaken ByR.stable (S' := fun j => w.heap.size ≤ j) (fun j hj => Nat.le_trans hs9 hj))
      have HB6 := Lib.hid (hbd.trans (hb6.mono hs9))
      clear hrs hb6 hfo
      try (go_wp2_with fail)
      refine hK.out _ _ (by first | exact s1 | exact s2) (fun hHeld => ?_)
      clear hK K
      try simp (maxSteps := 2000000) only [List.getElem_toArray, List.getElem_cons_succ, List.getElem_cons_zero, Act.put, List.setIfInBounds_toArray, List.set_cons_zero, List.set_cons_succ]
      refine wpAnyH_take (i := 12) (v := ?_) rfl (by kernel_rfl) (by kernel_rfl) (by kernel_rfl) (fun _ _ _ h => h) (Or.inl ⟨by first | kernel_rfl | rfl, ?_⟩) (by assumption) ?_
      rotate_left
      · (intro wq hSw; (try dsimp only at hSw); (try simp (maxSteps := 2000000) only [List.getElem_toArray, List.getElem_cons_succ, List.getElem_cons_zero]); go_simp); try with_reducible rfl
      try simp (maxSteps := 2000000) only [List.getElem_toArray, List.getElem_cons_succ, List.getElem_cons_zero, Act.put, List.setIfInBounds_toArray, List.set_cons_zero, List.set_cons_succ]
      refine wpAnyH_done (by kernel_rfl) ?_ _
      clear s1 s2 hHeld u1 w1 v1
      go_wp2_with fail
      exact ⟨⟨i + 1, AN, cN, by omega, by go_num, rfl, hcN, HRS, HB6⟩, by simp [intOf]; omega⟩
    · have p1 : ¬ (i : Int) < (k : Int) := by omega
      obtain rfl : i = k := by omega
      rw [List.take_of_length_le (by omega), List.take_of_length_le (by rw [List.length_map]; omega)] at HR
      go_wp2_with fail
      go_ret
      exact ⟨A, c, rfl, hc, HR.out, HB.out⟩
end Go.Proofs.YthhljmlpjnkfgaaGreat
