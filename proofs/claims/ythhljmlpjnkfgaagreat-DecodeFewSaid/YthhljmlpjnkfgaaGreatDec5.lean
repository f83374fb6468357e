/-
  The numbers of the shards that have bytes, or why they aren't enough.
-/
import Derived.Test.YthhljmlpjnkfgaaGreatDec4
set_option linter.unusedSimpArgs false
set_option linter.unusedVariables false
namespace Go.Proofs.YthhljmlpjnkfgaaGreat
open Go.RowKit Go.Cib
attribute [local go_sem] cell_set Later.cell Later.frozen Grw.cell Grw.frozen

theorem sl_in : SlTy Tryz.prog 22 3 (.int .i64 0) 1 8 := ⟨by kernel_rfl, by kernel_rfl, by kernel_rfl, by omega⟩
def thU (ss : Rws) (i : Nat) : List Nat := (List.range i).filter fun j => decide (0 < lenF ss j)
theorem thU_yes {ss : Rws} {i : Nat} (h : 0 < lenF ss i) : thU ss (i + 1) = thU ss i ++ [i] := by
  unfold thU
  rw [List.range_succ, List.filter_append, List.filter_cons_of_pos (by simpa using h), List.filter_nil]
theorem thU_no {ss : Rws} {i : Nat} (h : ¬ 0 < lenF ss i) : thU ss (i + 1) = thU ss i := by
  unfold thU
  rw [List.range_succ, List.filter_append, List.filter_cons_of_neg (by simpa using h), List.filter_nil, List.append_nil]
theorem thU_mem {ss : Rws} {i u : Nat} (h : u ∈ thU ss i) : u < i ∧ 0 < lenF ss u := by
  have := List.mem_filter.1 h
  exact ⟨List.mem_range.1 this.1, by simpa using this.2⟩
theorem thU_len (ss : Rws) (i : Nat) : (thU ss i).length ≤ i := by
  have := List.length_filter_le (fun j => decide (0 < lenF ss j)) (List.range i)
  rwa [List.length_range] at this
structure ThI (w0 wr : World) (sb q : Nat) (sv : Value) (n : Nat) (A : Option Addr) (c : Nat) (xs : List Nat) : Prop where
  own : OwnL NatR 3 1 (q + 1) (fun _ => True) wr (.slice A n c) n xs
  bq : BoxAt wr q #[.slice A n c]
  bs : BoxAt wr sb #[sv]
  sq : sb < q
  hs : w0.heap.size ≤ sb
  bel : Below w0.heap.size w0 wr
theorem ThI.below {w0 wr w2 : World} {sb q n : Nat} {sv : Value} {A : Option Addr} {c : Nat} {xs : List Nat} (h : ThI w0 wr sb q sv n A c xs) (hb : Below wr.heap.size wr w2) : ThI w0 w2 sb q sv n A c xs :=
  ⟨h.own.keep NatR.stable hb, h.bq.below hb, h.bs.below hb, h.sq, h.hs, h.bel.trans (hb.mono h.bel.size)⟩
theorem ThI.pushed {w0 w2 : World} {sb q n : Nat} {sv : Value} {A A' : Option Addr} {c c' : Nat} {xs : List Nat} {y : Nat} (h : ThI w0 w2 sb q sv n A c xs) (u : Grw (Value.slice A n c).ownBlock w2)
    (hown : OwnL NatR 3 1 (q + 1) (fun _ => True) u.to (.slice A' (n + 1) c') (n + 1) (xs ++ [y])) (hb : Below (q + 1) w2 u.to) :
    ThI w0 (u.to.setCell ⟨q, 0, none⟩ (.slice A' (n + 1) c')) sb q sv (n + 1) A' c' (xs ++ [y]) := by
  have hl := h.bq.lt
  have hm := h.sq
  have hne : ∀ k, k ≤ q → some k ≠ (Value.slice A n c).ownBlock := fun k hk e => by
    have := (h.own.lt k e.symm).1; omega
  have hne2 : Value.ownBlock (.slice A' (n + 1) c') ≠ some q := fun e => by
    have := (hown.lt q e).1; omega
  refine ⟨?_, ?_, (h.bs.grw u.ok (hne sb (by omega))).set_other (by show sb ≠ q; omega) _, h.sq, h.hs, (h.bel.trans (hb.mono (by have := h.hs; omega))).setCell (by have := h.hs; show _ ≤ q; omega) _⟩
  · obtain ⟨css, h1, h2, h3, h4, h5⟩ := hown
    exact ⟨css, h1.kept (row := some q) ⟨rfl, rfl, rfl, by simp, fun k _ hk => Below.heap_setCell _ _ _ _ (fun e => hk (by rw [e]))⟩ (.inr hne2), h2, h3, h4, fun i cs x hc hx => h5 i cs x hc hx⟩
  · have := (h.bq.grw u.ok (hne q (Nat.le_refl _))).set 0 (.slice A' (n + 1) c')
    simpa using this

/-- What it answers. -/
def thBad (k m N : Nat) (ss : Rws) : Bool := decide (N ≠ k + m) || (thU ss N).any (oddB ss (thU ss N))
def ThE (w : World) (k m N : Nat) (ss : Rws) (e : Ending) (w' : World) : Prop := Below w.heap.size w w' ∧
  ((thBad k m N ss = true ∧ e = .returned (.tuple #[.slice none 0 0, .int .i64 2])) ∨
   (thBad k m N ss = false ∧ (thU ss N).length < k ∧ e = .returned (.tuple #[.slice none 0 0, .int .i64 60])) ∨
   (thBad k m N ss = false ∧ ¬ (thU ss N).length < k ∧ ∃ A c, e = .returned (.tuple #[.slice A (thU ss N).length c, .int .i64 0]) ∧ (thU ss N).length ≤ c ∧ RdL NatR 1 (fun j => w.heap.size ≤ j) w' A (thU ss N).length (thU ss N)))
set_option maxRecDepth 100000 in
set_option maxHeartbeats 8000000 in
theorem there_any {w : World} {cb b k m N cs : Nat} {As : Option Addr} {S : Nat → Prop} {ss : Rws} (H : CodAt w cb b k m) (R : RdL RowR 1 S w As N ss) (hN : N ≤ 1000) :
    Calls Tryz.prog 60 #[.pointer (some ⟨cb, 0, none⟩), .slice As N cs] w fun e w' => ThE w k m N ss e w' := by
  have HC := Lib.hid H
  have HR := Lib.hid R
  have hl := R.1
  have hk1 := H.k1
  have hm1 := H.m1
  have hkm := H.km
  have q0 : (N : Int) ≤ 1000 := by omega
  have q1 : ((k + m : Nat) : Int) ≠ 0 := by omega
  have q2 : (((k + m : Nat) : Int) == 0) = false := by simp; omega
  have q3 : (((k : Int) + (m : Int)) == 0) = false := by simp; omega
  have hNc := fun w' h => cn_any (w := w') (HC.out.below h)
  have hKc := fun w' h => ck_any (w := w') (HC.out.below h)
  clear H R
  go_enter Tryz.func60, Tryz.ntmps60
  go_wp2_with fail
  have hbs := BoxAt.new w #[.slice As N cs] 38
  have hb0 : Below w.heap.size w (w.alloc (.cells #[.slice As N cs] 38)) := (Below.refl _ _).alloc (Nat.le_refl _) _
  generalize w.alloc (.cells #[.slice As N cs] 38) = w1 at *
  refine (hNc _ hb0).mono ?_
  rintro e w2 ⟨rfl, hb2⟩
  replace hbs := hbs.below hb2
  replace hb0 := hb0.trans (hb2.mono hb0.size)
  have k0 := hbs.cell 0
  have hsl := hbs.lt
  clear hb2
  go_wp2_with fail
  have hi0 : ThI w (w2.alloc (.cells #[.slice none 0 0] 22)) w.heap.size w2.heap.size (.slice As N cs) 0 none 0 (thU ss 0) :=
    ⟨OwnL.nil_, BoxAt.new _ _ _, hbs.alloc _, hsl, Nat.le_refl _, hb0.alloc (by omega) _⟩
  obtain ⟨q, hq⟩ : ∃ q, w2.heap.size = q := ⟨_, rfl⟩
  rw [hq] at hi0 ⊢
  have HI0 := Lib.hid hi0
  clear hi0 hq hsl hbs hb0 k0
  generalize w2.alloc (.cells #[.slice none 0 0] 22) = w3 at *
  go_loopw [15] (fun vi wr => ∃ (i n : Nat) (A : Option Addr) (c : Nat), i ≤ N ∧ vi = .int .i64 i ∧ Hid (ThI w wr w.heap.size q (.slice As N cs) n A c (thU ss i)) ∧ Hid (n = (thU ss i).length)) (fun vi _ => N - (intOf vi).toNat)
  case atStart => exact ⟨0, 0, none, 0, Nat.zero_le _, rfl, HI0, Lib.hid rfl⟩
  case round =>
    clear HI0
    obtain ⟨i, n, A, c, hi, rfl, HI, HL⟩ := hrel
    have p0 : (0 : Int) ≤ (i : Int) := Int.natCast_nonneg _
    by_cases hlt : i < N
    · have p1 : (i : Int) < (N : Int) := by omega
      obtain ⟨bb, o, rfl, _, hbb⟩ := HR.out.addr hlt
      obtain ⟨A1, m1, c1, v1, _, r1⟩ := row_at HR.out hlt
      have c1' := (HI.out.bel.cell (p := ⟨bb, o + i, none⟩) hbb).trans v1
      have hm1' : lenF ss i = m1 := r1.1
      clear r1 v1
      by_cases hpos : 0 < m1
      · have p2 : (m1 : Int) > 0 := by omega
        have hth := thU_yes (ss := ss) (i := i) (by omega)
        have kq := HI.out.bq.cell 0
        have fq := HI.out.bq.frozen 0
        have hnl := thU_len ss i
        have hnn : n ≤ 1000 := by have := HL.out; omega
        have HT := Lib.hid hth
        clear hth
        go_wp2_with (at_builtin; go_must (refine wpList_push1 NatR.stable NatR.one sl_in (by rfl) (by rfl) (base := q + 1) (S := fun _ => True) (cs := #[.int .i64 (i : Int)]) (y := i) (by rfl) (by rfl) HI.out.own (by rfl) (show NatR _ _ [.int .i64 (i : Int)] i from rfl) (by unfold maxLen; omega) (by omega) HI.out.bq.lt ?_); intro A8 c8 ug hc8 own9 hlt8 hb8 hat8; have B9 := HI.out.bq.grw ug.ok (fun e => by have := (HI.out.own.lt _ e.symm).1; omega); have c9 := B9.cell 0; have f9 := B9.frozen 0; have hp9 := HI.out.pushed ug own9 hb8; rw [← HT.out] at hp9; have HP9 := Lib.hid hp9; clear own9 hb8 hlt8 hat8 B9 hp9)
        exact ⟨⟨i + 1, n + 1, A8, c8, by omega, by go_num, HP9, Lib.hid (by rw [HT.out, List.length_append, ← HL.out]; rfl)⟩, by simp [intOf]; omega⟩
      · have p2 : ¬ (m1 : Int) > 0 := by omega
        have hth := thU_no (ss := ss) (i := i) (by omega)
        rw [← hth] at HI HL
        clear hth
        go_wp2_with fail
        exact ⟨⟨i + 1, n, A, c, by omega, by go_num, HI, HL⟩, by simp [intOf]; omega⟩
    · have p1 : ¬ (i : Int) < (N : Int) := by omega
      obtain rfl : i = N := by omega
      have hD := HI.out.below (w2 := wr.drew) (Below.refl _ _).drew
      have hln := HL.out
      subst hln
      obtain ⟨A', c', e1, hc', hr'⟩ := hD.own.rd (S' := fun j => w.heap.size ≤ j) (fun j hj => by have := hD.sq; have := hD.hs; omega) (fun cs x hx => hx)
      injection e1 with e1 _ e2
      subst e1; subst e2
      have HRL := Lib.hid hr'
      have HD := Lib.hid hD
      have hul := thU_len ss i
      have s1 : wr.drew.cell? ⟨w.heap.size, 0, none⟩ = some (.slice As i cs) ∧ wr.drew.cell? ⟨q, 0, none⟩ = some (.slice A (thU ss i).length c) := ⟨hD.bs.cell 0, hD.bq.cell 0⟩
      have hN1 := hNc wr.drew hD.bel
      have lsb := hD.bs.lt
      have lqb := hD.bq.lt
      clear hr' hD
      by_cases hNk : i = k + m
      · have e1 : ((i : Int) != ((k + m : Nat) : Int)) = false := by rw [hNk]; simp
        have e2 : ((i : Int) != ((k : Int) + (m : Int))) = false := by rw [hNk]; simp
        have hbad : thBad k m i ss = (thU ss i).any (oddB ss (thU ss i)) := by unfold thBad; rw [decide_eq_false (by omega), Bool.false_or]
        have HBAD := Lib.hid hbad
        have HNK := Lib.hid hNk
        clear hbad hNk
        go_wp2_with fail
        refine wp_region_held_drew (S := fun w' => w'.cell? ⟨w.heap.size, 0, none⟩ = some (.slice As i cs) ∧ w'.cell? ⟨q, 0, none⟩ = some (.slice A (thU ss i).length c)) (by kernel_rfl) (by first | exact s1 | exact s2 | exact s3) (fun hHeld => ?_)
        refine wpAnyH_take (i := 0) (v := ?_) rfl (by kernel_rfl) (by kernel_rfl) (by kernel_rfl) (fun _ _ _ h => h) (Or.inl ⟨by first | kernel_rfl | rfl, ?_⟩) (by assumption) ?_
        rotate_left
        · (intro wq hSw; (try dsimp only at hSw); (try simp (maxSteps := 2000000) only [List.getElem_toArray, List.getElem_cons_succ, List.getElem_cons_zero]); go_simp); try with_reducible rfl
        try simp (maxSteps := 2000000) only [List.getElem_toArray, List.getElem_cons_succ, List.getElem_cons_zero, Act.put, List.setIfInBounds_toArray, List.set_cons_zero, List.set_cons_succ]
        refine wpAnyH_take (i := 1) (v := ?_) rfl (by kernel_rfl) (by kernel_rfl) (by kernel_rfl) (fun _ _ _ h => h) (Or.inl ⟨by first | kernel_rfl | rfl, ?_⟩) (by assumption) ?_
        rotate_left
        · (intro wq hSw; (try dsimp only at hSw); (try simp (maxSteps := 2000000) only [List.getElem_toArray, List.getElem_cons_succ, List.getElem_cons_zero]); go_simp); try with_reducible rfl
        try simp (maxSteps := 2000000) only [List.getElem_toArray, List.getElem_cons_succ, List.getElem_cons_zero, Act.put, List.setIfInBounds_toArray, List.set_cons_zero, List.set_cons_succ]
        refine wpAnyH_take (i := 2) (v := ?_) rfl (by kernel_rfl) (by kernel_rfl) (by kernel_rfl) (fun _ _ _ h => h) (Or.inl ⟨by first | kernel_rfl | rfl, ?_⟩) (by assumption) ?_
        rotate_left
        · (intro wq hSw; (try dsimp only at hSw); (try simp (maxSteps := 2000000) only [List.getElem_toArray, List.getElem_cons_succ, List.getElem_cons_zero]); go_simp); try with_reducible rfl
        try simp (maxSteps := 2000000) only [List.getElem_toArray, List.getElem_cons_succ, List.getElem_cons_zero, Act.put, List.setIfInBounds_toArray, List.set_cons_zero, List.set_cons_succ]
        refine wpAnyH_ready (rs := [3]) (by kernel_rfl) (by simp) ?_
        refine AllReadyH.cons rfl (fun K hK => ?_) AllReadyH.nil
        try simp (maxSteps := 2000000) only [List.getElem_toArray, List.getElem_cons_succ, List.getElem_cons_zero]
        go_simp
        go_at_call 29
        refine hN1.mono ?_
        rintro e w5 ⟨rfl, hb5⟩
        have hs5 := hb5.size
        have s2 : w5.cell? ⟨w.heap.size, 0, none⟩ = some (.slice As i cs) ∧ w5.cell? ⟨q, 0, none⟩ = some (.slice A (thU ss i).length c) := ⟨(hb5.cell (p := ⟨w.heap.size, 0, none⟩) lsb).trans s1.1, (hb5.cell (p := ⟨q, 0, none⟩) lqb).trans s1.2⟩
        have hD5 := HD.out.below hb5
        have hr5 := HRL.out.below NatR.stable hb5
        have hcon := contains_any (c := c) (cap := #[.pointer (some ⟨w.heap.size, 0, none⟩), .pointer (some ⟨q, 0, none⟩)]) (f := oddB ss (thU ss i)) hr5 (by omega) (Lib.hid call_odd) (Lib.hid fun j W hj hW => odd_any (hD5.bs.below hW) (hD5.bq.below hW) (HR.out.below RowR.stable (hD5.bel.trans (hW.mono hD5.bel.size))) (hr5.below NatR.stable hW) (by omega) (fun u hu => (thU_mem hu).1) (thU_mem (gt_mem hj)).1)
        have HD5 := Lib.hid hD5
        have HR5 := Lib.hid hr5
        clear hN1 hb5 hr5
        try (go_wp2_with fail)
        refine hK.out _ _ (by first | exact s1 | exact s2 | exact s3) (fun hHeld => ?_)
        clear hK K
        try simp (maxSteps := 2000000) only [List.getElem_toArray, List.getElem_cons_succ, List.getElem_cons_zero, Act.put, List.setIfInBounds_toArray, List.set_cons_zero, List.set_cons_succ]
        refine wpAnyH_take (i := 4) (v := ?_) rfl (by kernel_rfl) (by kernel_rfl) (by kernel_rfl) (fun _ _ _ h => h) (Or.inl ⟨by first | kernel_rfl | rfl, ?_⟩) (by assumption) ?_
        rotate_left
        · (intro wq hSw; (try dsimp only at hSw); (try simp (maxSteps := 2000000) only [List.getElem_toArray, List.getElem_cons_succ, List.getElem_cons_zero]); go_simp); try with_reducible rfl
        try simp (maxSteps := 2000000) only [List.getElem_toArray, List.getElem_cons_succ, List.getElem_cons_zero, Act.put, List.setIfInBounds_toArray, List.set_cons_zero, List.set_cons_succ]
        refine wpAnyH_take (i := 5) (v := ?_) rfl (by kernel_rfl) (by kernel_rfl) (by kernel_rfl) (fun _ _ _ h => h) (Or.inl ⟨by first | kernel_rfl | rfl, ?_⟩) (by assumption) ?_
        rotate_left
        · (intro wq hSw; (try dsimp only at hSw); (try simp (maxSteps := 2000000) only [List.getElem_toArray, List.getElem_cons_succ, List.getElem_cons_zero]); go_simp); try with_reducible rfl
        try simp (maxSteps := 2000000) only [List.getElem_toArray, List.getElem_cons_succ, List.getElem_cons_zero, Act.put, List.setIfInBounds_toArray, List.set_cons_zero, List.set_cons_succ]
        refine wpAnyH_take (i := 6) (v := ?_) rfl (by kernel_rfl) (by kernel_rfl) (by kernel_rfl) (fun _ _ _ h => h) (Or.inl ⟨by first | kernel_rfl | rfl, ?_⟩) (by assumption) ?_
        rotate_left
        · (intro wq hSw; (try dsimp only at hSw); (try simp (maxSteps := 2000000) only [List.getElem_toArray, List.getElem_cons_succ, List.getElem_cons_zero]); go_simp); try with_reducible rfl
        try simp (maxSteps := 2000000) only [List.getElem_toArray, List.getElem_cons_succ, List.getElem_cons_zero, Act.put, List.setIfInBounds_toArray, List.set_cons_zero, List.set_cons_succ]
        refine wpAnyH_take (i := 7) (v := ?_) rfl (by kernel_rfl) (by kernel_rfl) (by kernel_rfl) (fun _ _ _ h => h) (Or.inl ⟨by first | kernel_rfl | rfl, ?_⟩) (by assumption) ?_
        rotate_left
        · (intro wq hSw; (try dsimp only at hSw); (try simp (maxSteps := 2000000) only [List.getElem_toArray, List.getElem_cons_succ, List.getElem_cons_zero]); go_simp); try with_reducible rfl
        try simp (maxSteps := 2000000) only [List.getElem_toArray, List.getElem_cons_succ, List.getElem_cons_zero, Act.put, List.setIfInBounds_toArray, List.set_cons_zero, List.set_cons_succ]
        refine wpAnyH_ready (rs := [8]) (by kernel_rfl) (by simp) ?_
        refine AllReadyH.cons rfl (fun K hK => ?_) AllReadyH.nil
        try simp (maxSteps := 2000000) only [List.getElem_toArray, List.getElem_cons_succ, List.getElem_cons_zero]
        go_simp
        go_at_call 79
        refine hcon.mono ?_
        rintro e w6 ⟨rfl, hb6⟩
        have s3 : w6.cell? ⟨w.heap.size, 0, none⟩ = some (.slice As i cs) ∧ w6.cell? ⟨q, 0, none⟩ = some (.slice A (thU ss i).length c) := ⟨(hb6.cell (p := ⟨w.heap.size, 0, none⟩) hD5.bs.lt).trans s2.1, (hb6.cell (p := ⟨q, 0, none⟩) hD5.bq.lt).trans s2.2⟩
        have HD6 := Lib.hid (hD5.below hb6)
        have HR6 := Lib.hid (HR5.out.below NatR.stable hb6)
        rw [← HBAD.out]
        clear hcon hb6 hD5
        try (go_wp2_with fail)
        refine hK.out _ _ (by first | exact s1 | exact s2 | exact s3) (fun hHeld => ?_)
        clear hK K
        try simp (maxSteps := 2000000) only [List.getElem_toArray, List.getElem_cons_succ, List.getElem_cons_zero, Act.put, List.setIfInBounds_toArray, List.set_cons_zero, List.set_cons_succ]
        refine wpAnyH_take (i := 9) (v := ?_) rfl (by kernel_rfl) (by kernel_rfl) (by kernel_rfl) (fun _ _ _ h => h) (Or.inl ⟨by first | kernel_rfl | rfl, ?_⟩) (by assumption) ?_
        rotate_left
        · (intro wq hSw; (try dsimp only at hSw); (try simp (maxSteps := 2000000) only [List.getElem_toArray, List.getElem_cons_succ, List.getElem_cons_zero]); go_simp); try with_reducible rfl
        try simp (maxSteps := 2000000) only [List.getElem_toArray, List.getElem_cons_succ, List.getElem_cons_zero, Act.put, List.setIfInBounds_toArray, List.set_cons_zero, List.set_cons_succ]
        refine wpAnyH_take (i := 10) (v := ?_) rfl (by kernel_rfl) (by kernel_rfl) (by kernel_rfl) (fun _ _ _ h => h) (Or.inl ⟨by first | kernel_rfl | rfl, ?_⟩) (by assumption) ?_
        rotate_left
        · (intro wq hSw; (try dsimp only at hSw); (try simp (maxSteps := 2000000) only [List.getElem_toArray, List.getElem_cons_succ, List.getElem_cons_zero]); go_simp); try with_reducible rfl
        try simp (maxSteps := 2000000) only [List.getElem_toArray, List.getElem_cons_succ, List.getElem_cons_zero, Act.put, List.setIfInBounds_toArray, List.set_cons_zero, List.set_cons_succ]
        refine wpAnyH_done (by kernel_rfl) ?_ _
        obtain ⟨B, hB⟩ : ∃ B, B = thBad k m i ss := ⟨_, rfl⟩
        rw [← hB]
        have HBB := Lib.hid hB
        clear hB s1 s2
        cases B with
        | true =>
          go_wp2_with fail
          go_ret2
          exact ⟨HD6.out.bel, .inl ⟨HBB.out.symm, rfl⟩⟩
        | false =>
          have hD7 := HD6.out.below (w2 := w6.drew) (Below.refl _ _).drew
          have s4 : w6.drew.cell? ⟨q, 0, none⟩ = some (.slice A (thU ss i).length c) := hD7.bq.cell 0
          have hK1 := hKc w6.drew hD7.bel
          by_cases hfew : (thU ss i).length < k
          · have p5 : ((thU ss i).length : Int) < (k : Int) := by omega
            go_wp2_with fail
            refine wp_region_held_drew (S := fun w' => w'.cell? ⟨q, 0, none⟩ = some (.slice A (thU ss i).length c)) (by kernel_rfl) (by first | exact s4) (fun hHeld => ?_)
            refine wpAnyH_take (i := 0) (v := ?_) rfl (by kernel_rfl) (by kernel_rfl) (by kernel_rfl) (fun _ _ _ h => h) (Or.inl ⟨by first | kernel_rfl | rfl, ?_⟩) (by assumption) ?_
            rotate_left
            · (intro wq hSw; (try dsimp only at hSw); (try simp (maxSteps := 2000000) only [List.getElem_toArray, List.getElem_cons_succ, List.getElem_cons_zero]); go_simp); try with_reducible rfl
            try simp (maxSteps := 2000000) only [List.getElem_toArray, List.getElem_cons_succ, List.getElem_cons_zero, Act.put, List.setIfInBounds_toArray, List.set_cons_zero, List.set_cons_succ]
            refine wpAnyH_take (i := 1) (v := ?_) rfl (by kernel_rfl) (by kernel_rfl) (by kernel_rfl) (fun _ _ _ h => h) (Or.inl ⟨by first | kernel_rfl | rfl, ?_⟩) (by assumption) ?_
            rotate_left
            · (intro wq hSw; (try dsimp only at hSw); (try simp (maxSteps := 2000000) only [List.getElem_toArray, List.getElem_cons_succ, List.getElem_cons_zero]); go_simp); try with_reducible rfl
            try simp (maxSteps := 2000000) only [List.getElem_toArray, List.getElem_cons_succ, List.getElem_cons_zero, Act.put, List.setIfInBounds_toArray, List.set_cons_zero, List.set_cons_succ]
            refine wpAnyH_take (i := 2) (v := ?_) rfl (by kernel_rfl) (by kernel_rfl) (by kernel_rfl) (fun _ _ _ h => h) (Or.inl ⟨by first | kernel_rfl | rfl, ?_⟩) (by assumption) ?_
            rotate_left
            · (intro wq hSw; (try dsimp only at hSw); (try simp (maxSteps := 2000000) only [List.getElem_toArray, List.getElem_cons_succ, List.getElem_cons_zero]); go_simp); try with_reducible rfl
            try simp (maxSteps := 2000000) only [List.getElem_toArray, List.getElem_cons_succ, List.getElem_cons_zero, Act.put, List.setIfInBounds_toArray, List.set_cons_zero, List.set_cons_succ]
            refine wpAnyH_ready (rs := [3]) (by kernel_rfl) (by simp) ?_
            refine AllReadyH.cons rfl (fun K hK => ?_) AllReadyH.nil
            try simp (maxSteps := 2000000) only [List.getElem_toArray, List.getElem_cons_succ, List.getElem_cons_zero]
            go_simp
            go_at_call 31
            refine hK1.mono ?_
            rintro e w9 ⟨rfl, hw9⟩
            rw [hw9]
            clear hw9 hK1
            try (go_wp2_with fail)
            refine hK.out _ _ (by first | exact s4) (fun hHeld => ?_)
            clear hK K
            try simp (maxSteps := 2000000) only [List.getElem_toArray, List.getElem_cons_succ, List.getElem_cons_zero, Act.put, List.setIfInBounds_toArray, List.set_cons_zero, List.set_cons_succ]
            refine wpAnyH_take (i := 4) (v := ?_) rfl (by kernel_rfl) (by kernel_rfl) (by kernel_rfl) (fun _ _ _ h => h) (Or.inl ⟨by first | kernel_rfl | rfl, ?_⟩) (by assumption) ?_
            rotate_left
            · (intro wq hSw; (try dsimp only at hSw); (try simp (maxSteps := 2000000) only [List.getElem_toArray, List.getElem_cons_succ, List.getElem_cons_zero]); go_simp); try with_reducible rfl
            try simp (maxSteps := 2000000) only [List.getElem_toArray, List.getElem_cons_succ, List.getElem_cons_zero, Act.put, List.setIfInBounds_toArray, List.set_cons_zero, List.set_cons_succ]
            refine wpAnyH_take (i := 5) (v := ?_) rfl (by kernel_rfl) (by kernel_rfl) (by kernel_rfl) (fun _ _ _ h => h) (Or.inl ⟨by first | kernel_rfl | rfl, ?_⟩) (by assumption) ?_
            rotate_left
            · (intro wq hSw; (try dsimp only at hSw); (try simp (maxSteps := 2000000) only [List.getElem_toArray, List.getElem_cons_succ, List.getElem_cons_zero]); go_simp); try with_reducible rfl
            try simp (maxSteps := 2000000) only [List.getElem_toArray, List.getElem_cons_succ, List.getElem_cons_zero, Act.put, List.setIfInBounds_toArray, List.set_cons_zero, List.set_cons_succ]
            refine wpAnyH_done (by kernel_rfl) ?_ _
            go_wp2_with fail
            go_ret2
            exact ⟨hD7.bel, .inr (.inl ⟨HBB.out.symm, hfew, rfl⟩)⟩
          · have p5 : ¬ ((thU ss i).length : Int) < (k : Int) := by omega
            go_wp2_with fail
            refine wp_region_held_drew (S := fun w' => w'.cell? ⟨q, 0, none⟩ = some (.slice A (thU ss i).length c)) (by kernel_rfl) (by first | exact s4) (fun hHeld => ?_)
            refine wpAnyH_take (i := 0) (v := ?_) rfl (by kernel_rfl) (by kernel_rfl) (by kernel_rfl) (fun _ _ _ h => h) (Or.inl ⟨by first | kernel_rfl | rfl, ?_⟩) (by assumption) ?_
            rotate_left
            · (intro wq hSw; (try dsimp only at hSw); (try simp (maxSteps := 2000000) only [List.getElem_toArray, List.getElem_cons_succ, List.getElem_cons_zero]); go_simp); try with_reducible rfl
            try simp (maxSteps := 2000000) only [List.getElem_toArray, List.getElem_cons_succ, List.getElem_cons_zero, Act.put, List.setIfInBounds_toArray, List.set_cons_zero, List.set_cons_succ]
            refine wpAnyH_take (i := 1) (v := ?_) rfl (by kernel_rfl) (by kernel_rfl) (by kernel_rfl) (fun _ _ _ h => h) (Or.inl ⟨by first | kernel_rfl | rfl, ?_⟩) (by assumption) ?_
            rotate_left
            · (intro wq hSw; (try dsimp only at hSw); (try simp (maxSteps := 2000000) only [List.getElem_toArray, List.getElem_cons_succ, List.getElem_cons_zero]); go_simp); try with_reducible rfl
            try simp (maxSteps := 2000000) only [List.getElem_toArray, List.getElem_cons_succ, List.getElem_cons_zero, Act.put, List.setIfInBounds_toArray, List.set_cons_zero, List.set_cons_succ]
            refine wpAnyH_take (i := 2) (v := ?_) rfl (by kernel_rfl) (by kernel_rfl) (by kernel_rfl) (fun _ _ _ h => h) (Or.inl ⟨by first | kernel_rfl | rfl, ?_⟩) (by assumption) ?_
            rotate_left
            · (intro wq hSw; (try dsimp only at hSw); (try simp (maxSteps := 2000000) only [List.getElem_toArray, List.getElem_cons_succ, List.getElem_cons_zero]); go_simp); try with_reducible rfl
            try simp (maxSteps := 2000000) only [List.getElem_toArray, List.getElem_cons_succ, List.getElem_cons_zero, Act.put, List.setIfInBounds_toArray, List.set_cons_zero, List.set_cons_succ]
            refine wpAnyH_ready (rs := [3]) (by kernel_rfl) (by simp) ?_
            refine AllReadyH.cons rfl (fun K hK => ?_) AllReadyH.nil
            try simp (maxSteps := 2000000) only [List.getElem_toArray, List.getElem_cons_succ, List.getElem_cons_zero]
            go_simp
            go_at_call 31
            refine hK1.mono ?_
            rintro e w9 ⟨rfl, hw9⟩
            rw [hw9]
            clear hw9 hK1
            try (go_wp2_with fail)
            refine hK.out _ _ (by first | exact s4) (fun hHeld => ?_)
            clear hK K
            try simp (maxSteps := 2000000) only [List.getElem_toArray, List.getElem_cons_succ, List.getElem_cons_zero, Act.put, List.setIfInBounds_toArray, List.set_cons_zero, List.set_cons_succ]
            refine wpAnyH_take (i := 4) (v := ?_) rfl (by kernel_rfl) (by kernel_rfl) (by kernel_rfl) (fun _ _ _ h => h) (Or.inl ⟨by first | kernel_rfl | rfl, ?_⟩) (by assumption) ?_
            rotate_left
            · (intro wq hSw; (try dsimp only at hSw); (try simp (maxSteps := 2000000) only [List.getElem_toArray, List.getElem_cons_succ, List.getElem_cons_zero]); go_simp); try with_reducible rfl
            try simp (maxSteps := 2000000) only [List.getElem_toArray, List.getElem_cons_succ, List.getElem_cons_zero, Act.put, List.setIfInBounds_toArray, List.set_cons_zero, List.set_cons_succ]
            refine wpAnyH_take (i := 5) (v := ?_) rfl (by kernel_rfl) (by kernel_rfl) (by kernel_rfl) (fun _ _ _ h => h) (Or.inl ⟨by first | kernel_rfl | rfl, ?_⟩) (by assumption) ?_
            rotate_left
            · (intro wq hSw; (try dsimp only at hSw); (try simp (maxSteps := 2000000) only [List.getElem_toArray, List.getElem_cons_succ, List.getElem_cons_zero]); go_simp); try with_reducible rfl
            try simp (maxSteps := 2000000) only [List.getElem_toArray, List.getElem_cons_succ, List.getElem_cons_zero, Act.put, List.setIfInBounds_toArray, List.set_cons_zero, List.set_cons_succ]
            refine wpAnyH_done (by kernel_rfl) ?_ _
            go_wp2_with fail
            go_ret2
            exact ⟨hD7.bel, .inr (.inr ⟨HBB.out.symm, hfew, A, c, rfl, hc', HR6.out.below NatR.stable (Below.refl _ _).drew⟩)⟩
      · have e1 : ((i : Int) != ((k + m : Nat) : Int)) = true := by simp; omega
        have e2 : ((i : Int) != ((k : Int) + (m : Int))) = true := by simp; omega
        have hbad : thBad k m i ss = true := by unfold thBad; rw [decide_eq_true (by omega), Bool.true_or]
        have HBAD := Lib.hid hbad
        clear hbad hNk
        go_wp2_with fail
        refine wp_region_held_drew (S := fun w' => w'.cell? ⟨w.heap.size, 0, none⟩ = some (.slice As i cs)) (by kernel_rfl) (by first | exact s1.1 | exact s2) (fun hHeld => ?_)
        refine wpAnyH_take (i := 0) (v := ?_) rfl (by kernel_rfl) (by kernel_rfl) (by kernel_rfl) (fun _ _ _ h => h) (Or.inl ⟨by first | kernel_rfl | rfl, ?_⟩) (by assumption) ?_
        rotate_left
        · (intro wq hSw; (try dsimp only at hSw); (try simp (maxSteps := 2000000) only [List.getElem_toArray, List.getElem_cons_succ, List.getElem_cons_zero]); go_simp); try with_reducible rfl
        try simp (maxSteps := 2000000) only [List.getElem_toArray, List.getElem_cons_succ, List.getElem_cons_zero, Act.put, List.setIfInBounds_toArray, List.set_cons_zero, List.set_cons_succ]
        refine wpAnyH_take (i := 1) (v := ?_) rfl (by kernel_rfl) (by kernel_rfl) (by kernel_rfl) (fun _ _ _ h => h) (Or.inl ⟨by first | kernel_rfl | rfl, ?_⟩) (by assumption) ?_
        rotate_left
        · (intro wq hSw; (try dsimp only at hSw); (try simp (maxSteps := 2000000) only [List.getElem_toArray, List.getElem_cons_succ, List.getElem_cons_zero]); go_simp); try with_reducible rfl
        try simp (maxSteps := 2000000) only [List.getElem_toArray, List.getElem_cons_succ, List.getElem_cons_zero, Act.put, List.setIfInBounds_toArray, List.set_cons_zero, List.set_cons_succ]
        refine wpAnyH_take (i := 2) (v := ?_) rfl (by kernel_rfl) (by kernel_rfl) (by kernel_rfl) (fun _ _ _ h => h) (Or.inl ⟨by first | kernel_rfl | rfl, ?_⟩) (by assumption) ?_
        rotate_left
        · (intro wq hSw; (try dsimp only at hSw); (try simp (maxSteps := 2000000) only [List.getElem_toArray, List.getElem_cons_succ, List.getElem_cons_zero]); go_simp); try with_reducible rfl
        try simp (maxSteps := 2000000) only [List.getElem_toArray, List.getElem_cons_succ, List.getElem_cons_zero, Act.put, List.setIfInBounds_toArray, List.set_cons_zero, List.set_cons_succ]
        refine wpAnyH_ready (rs := [3]) (by kernel_rfl) (by simp) ?_
        refine AllReadyH.cons rfl (fun K hK => ?_) AllReadyH.nil
        try simp (maxSteps := 2000000) only [List.getElem_toArray, List.getElem_cons_succ, List.getElem_cons_zero]
        go_simp
        go_at_call 29
        refine hN1.mono ?_
        rintro e w5 ⟨rfl, hb5⟩
        have s2 : w5.cell? ⟨w.heap.size, 0, none⟩ = some (.slice As i cs) := (hb5.cell (p := ⟨w.heap.size, 0, none⟩) lsb).trans s1.1
        have HD5 := Lib.hid (HD.out.below hb5)
        clear hN1 hb5
        try (go_wp2_with fail)
        refine hK.out _ _ (by first | exact s1.1 | exact s2) (fun hHeld => ?_)
        clear hK K
        try simp (maxSteps := 2000000) only [List.getElem_toArray, List.getElem_cons_succ, List.getElem_cons_zero, Act.put, List.setIfInBounds_toArray, List.set_cons_zero, List.set_cons_succ]
        refine wpAnyH_take (i := 4) (v := ?_) rfl (by kernel_rfl) (by kernel_rfl) (by kernel_rfl) (fun _ _ _ h => h) (Or.inl ⟨by first | kernel_rfl | rfl, ?_⟩) (by assumption) ?_
        rotate_left
        · (intro wq hSw; (try dsimp only at hSw); (try simp (maxSteps := 2000000) only [List.getElem_toArray, List.getElem_cons_succ, List.getElem_cons_zero]); go_simp); try with_reducible rfl
        try simp (maxSteps := 2000000) only [List.getElem_toArray, List.getElem_cons_succ, List.getElem_cons_zero, Act.put, List.setIfInBounds_toArray, List.set_cons_zero, List.set_cons_succ]
        refine wpAnyH_take (i := 5) (v := ?_) rfl (by kernel_rfl) (by kernel_rfl) (by kernel_rfl) (fun _ _ _ h => h) (Or.inl ⟨by first | kernel_rfl | rfl, ?_⟩) (by assumption) ?_
        rotate_left
        · (intro wq hSw; (try dsimp only at hSw); (try simp (maxSteps := 2000000) only [List.getElem_toArray, List.getElem_cons_succ, List.getElem_cons_zero]); go_simp); try with_reducible rfl
        try simp (maxSteps := 2000000) only [List.getElem_toArray, List.getElem_cons_succ, List.getElem_cons_zero, Act.put, List.setIfInBounds_toArray, List.set_cons_zero, List.set_cons_succ]
        refine wpAnyH_take (i := 6) (v := undef) rfl (by kernel_rfl) (by kernel_rfl) (by kernel_rfl) (fun _ _ _ h => h) (Or.inr ⟨by first | kernel_rfl | rfl, rfl⟩) (by assumption) ?_
        try simp (maxSteps := 2000000) only [List.getElem_toArray, List.getElem_cons_succ, List.getElem_cons_zero, Act.put, List.setIfInBounds_toArray, List.set_cons_zero, List.set_cons_succ]
        refine wpAnyH_take (i := 7) (v := undef) rfl (by kernel_rfl) (by kernel_rfl) (by kernel_rfl) (fun _ _ _ h => h) (Or.inr ⟨by first | kernel_rfl | rfl, rfl⟩) (by assumption) ?_
        try simp (maxSteps := 2000000) only [List.getElem_toArray, List.getElem_cons_succ, List.getElem_cons_zero, Act.put, List.setIfInBounds_toArray, List.set_cons_zero, List.set_cons_succ]
        refine wpAnyH_take (i := 8) (v := undef) rfl (by kernel_rfl) (by kernel_rfl) (by kernel_rfl) (fun _ _ _ h => h) (Or.inr ⟨by first | kernel_rfl | rfl, rfl⟩) (by assumption) ?_
        try simp (maxSteps := 2000000) only [List.getElem_toArray, List.getElem_cons_succ, List.getElem_cons_zero, Act.put, List.setIfInBounds_toArray, List.set_cons_zero, List.set_cons_succ]
        refine wpAnyH_take (i := 9) (v := ?_) rfl (by kernel_rfl) (by kernel_rfl) (by kernel_rfl) (fun _ _ _ h => h) (Or.inl ⟨by first | kernel_rfl | rfl, ?_⟩) (by assumption) ?_
        rotate_left
        · (intro wq hSw; (try dsimp only at hSw); (try simp (maxSteps := 2000000) only [List.getElem_toArray, List.getElem_cons_succ, List.getElem_cons_zero]); go_simp); try with_reducible rfl
        try simp (maxSteps := 2000000) only [List.getElem_toArray, List.getElem_cons_succ, List.getElem_cons_zero, Act.put, List.setIfInBounds_toArray, List.set_cons_zero, List.set_cons_succ]
        refine wpAnyH_take (i := 10) (v := ?_) rfl (by kernel_rfl) (by kernel_rfl) (by kernel_rfl) (fun _ _ _ h => h) (Or.inl ⟨by first | kernel_rfl | rfl, ?_⟩) (by assumption) ?_
        rotate_left
        · (intro wq hSw; (try dsimp only at hSw); (try simp (maxSteps := 2000000) only [List.getElem_toArray, List.getElem_cons_succ, List.getElem_cons_zero]); go_simp); try with_reducible rfl
        try simp (maxSteps := 2000000) only [List.getElem_toArray, List.getElem_cons_succ, List.getElem_cons_zero, Act.put, List.setIfInBounds_toArray, List.set_cons_zero, List.set_cons_succ]
        refine wpAnyH_done (by kernel_rfl) ?_ _
        go_wp2_with fail
        go_ret2
        exact ⟨HD5.out.bel, .inl ⟨HBAD.out, rfl⟩⟩
end Go.Proofs.YthhljmlpjnkfgaaGreat
