/-
  Drives side by side: the example of the page.
  ArrayRows: two rows that are built, and what the drives are.
  ArrayRows, walked.
  Acts on arrays among the arguments: are there few? Rows of sectors.
  Rows of sectors, as they are built.
-/
import Derived.Test.YtolmpopjonkfgaaPl6
set_option linter.unusedSimpArgs false
set_option linter.unusedVariables false
namespace Go.Proofs.Ytolmpopjonkfgaa
open Go.RowKit Go.Cib
attribute [local go_sem] cell_set Later.cell Later.frozen Grw.cell Grw.frozen

section
variable {U : Nat → Prop} {w : World} {a s : Nat} {v : Value} {Fs : Nat → Nat → Prop} {ps : List Nat} {sts : List DSt}
set_option maxRecDepth 100000 in
theorem asectors_any (h : Hid (ArrB U w a v Fs ps s sts)) (hk : 0 < sts.length) :
    Calls Try.prog 52 #[.pointer (some ⟨a, 0, none⟩)] w fun e w' => e = .returned (.int .i64 s) ∧ Below w.heap.size w w' := by
  obtain ⟨st, hst⟩ : ∃ st, sts[0]? = some st := ⟨_, List.getElem?_eq_getElem hk⟩
  obtain ⟨p, hp, hD, hd⟩ := h.out.p_at hst
  have HD := Lib.hid hD
  have HC := aat_in h 0 hd hp
  clear hD
  go_enter Try.func52, Try.ntmps52
  go_wp2_with fail
  refine HC.mono ?_
  rintro e w1 ⟨rfl, t1⟩
  have T1 := Lib.hid t1
  clear t1
  go_wp2_with fail
  obtain ⟨sb, sc, rb, rc, A, cc, mb, H⟩ := (HD.out.below T1.out).box
  refine (sectors_any H).mono ?_
  rintro e w2 ⟨rfl, t2⟩
  go_wp2_with fail
  go_ret
  exact ⟨rfl, T1.out.trans (t2.mono T1.out.size)⟩
set_option maxRecDepth 100000 in
theorem anew_none (z : Int) (w : World) :
    Calls Try.prog 29 #[.int .i64 0, .int .i64 z] w fun e w' => e = .returned (.pointer none) ∧ Below w.heap.size w w' := by
  go_enter Try.func29, Try.ntmps29
  go_wp2_with fail
  go_ret
  exact ⟨rfl, Below.refl _ _⟩
theorem rd_lit {S : Nat → Prop} {lb : Nat} {vs : List Value} {xs : List (List Int)} (h : BoxAt w lb vs.toArray) (hl : xs.length = vs.length) (hS : S lb) (hr : ∀ (j : Nat) (u : Value) (x : List Int), vs[j]? = some u → xs[j]? = some x → BytesR S w [u] x) : RdL BytesR 1 S w (some ⟨lb, 0, none⟩) vs.length xs := by
  refine ⟨hl, fun _ => ⟨lb, 0, rfl, hS, h.lt, fun i x hx => ?_⟩⟩
  have hi : i < vs.length := by rw [← hl]; exact (List.getElem?_eq_some_iff.1 hx).1
  refine ⟨[vs[i]], rfl, hr i _ x (List.getElem?_eq_getElem hi) hx, fun j v hj => ?_⟩
  match j, hj with
  | 0, hj =>
    simp only [List.getElem?_cons_zero, Option.some.injEq] at hj
    subst hj
    rw [h.cell]
    simp [hi]
end
def stA : List DSt := (failA 2 (List.replicate 3 (DSt.new 2)) 1).mapIdx (putG 2 1 [rep 1, rep 2, rep 3])
theorem stA_put : cnt ((failA 2 (List.replicate 3 (DSt.new 2)) 1).mapIdx (putOk 2 1 [rep 1, rep 2, rep 3])) = 2 := by decide +kernel
theorem stA_alive : cnt (aliveL stA) = 2 := by decide +kernel
theorem stA_len : stA.length = 3 := by decide +kernel
theorem stA_rows : stA.map (fun st => readL st 2 1) = [rep 1, [], rep 3] := by decide +kernel
theorem stA_cache : ∀ st ∈ stA, st.cache.length < 1000000 := by
  have : stA.all (fun st => decide (st.cache.length < 1000000)) = true := by decide +kernel
  intro st hst
  exact of_decide_eq_true (List.all_eq_true.1 this st hst)
theorem stF_cache : ∀ st ∈ failA 2 (List.replicate 3 (DSt.new 2)) 1, st.cache.length < 1000000 := by
  have : (failA 2 (List.replicate 3 (DSt.new 2)) 1).all (fun st => decide (st.cache.length < 1000000)) = true := by decide +kernel
  intro st hst
  exact of_decide_eq_true (List.all_eq_true.1 this st hst)

set_option maxRecDepth 100000 in
set_option maxHeartbeats 8000000 in
theorem stands_any (w : World) :
    Calls Try.prog 28 #[] w fun e w' => e = .returned (.bool true) ∧ Below w.heap.size w w' := by
  have hnew := anew_any 3 2 (by omega) (by omega) (by omega) (by omega) w
  go_enter Try.func28, Try.ntmps28
  go_wp2_with fail
  refine hnew.mono ?_
  rintro e w1 ⟨a, U1, rfl, A1, hU1, t1⟩
  have HA1 := Lib.hid A1
  have HU1 := Lib.hid hU1
  have T1 := Lib.hid t1
  have hf := afail_any HA1 (by simp) 1
  clear A1 hU1 t1 hnew
  go_wp2_with fail
  refine hf.mono ?_
  rintro e w2 ⟨rfl, U2, A2, hU2, K2⟩
  clear hf
  have HA2 := Lib.hid A2
  have hs1 := T1.out.size
  have hs2 := K2.size
  have HU2 : Hid (∀ b, U2 b → w.heap.size ≤ b) := Lib.hid fun b hb => by
    by_cases hlt : b < w1.heap.size
    · exact HU1.out b (hU2 b hb hlt)
    · omega
  have T2 := Lib.hid (T1.out.trans (K2.below hs1 HU1.out))
  clear A2 hU2 K2 HA1 HU1 T1
  go_wp2_with fail
  refine (full_at 1 w2).mono ?_
  rintro e w3 ⟨b3, o3, rfl, l3, l3', r3, t3⟩
  have R3 := Lib.hid r3
  have T3 := Lib.hid t3
  clear r3 t3
  go_wp2_with fail
  refine (full_at 2 w3).mono ?_
  rintro e w4 ⟨b4, o4, rfl, l4, l4', r4, t4⟩
  have R4 := Lib.hid r4
  have R34 := Lib.hid (R3.out.below U8R.stable t4)
  have T4 := Lib.hid (below_then t4 T3.out)
  clear r4 t4 R3
  go_wp2_with fail
  refine (full_at 3 w4).mono ?_
  rintro e w5 ⟨b5, o5, rfl, l5, l5', r5, t5⟩
  have bx := BoxAt.new w5 #[.slice (some ⟨b3, o3, none⟩) 64 64, .slice (some ⟨b4, o4, none⟩) 64 64, .slice (some ⟨b5, o5, none⟩) 64 64] 27
  have bb : Below w5.heap.size w5 (w5.alloc (.cells #[.slice (some ⟨b3, o3, none⟩) 64 64, .slice (some ⟨b4, o4, none⟩) 64 64, .slice (some ⟨b5, o5, none⟩) 64 64] 27)) := (Below.refl _ _).alloc (Nat.le_refl _) _
  obtain ⟨w6, hw6⟩ : ∃ w6, w5.alloc (.cells #[.slice (some ⟨b3, o3, none⟩) 64 64, .slice (some ⟨b4, o4, none⟩) 64 64, .slice (some ⟨b5, o5, none⟩) 64 64] 27) = w6 := ⟨_, rfl⟩
  rw [hw6] at bx bb
  have T5 := below_then t5 T4.out
  have T6 := Lib.hid (below_then bb T5)
  have hnl : ∀ b, w2.heap.size ≤ b → ¬ U2 b := fun b hb hu => by have := HA2.out.lt hu; omega
  have s2 := T3.out.size
  have s4 := T4.out.size
  have s5 := T5.size
  have s6 := bb.size
  have R : Hid (RdL BytesR 1 (fun b => ¬ U2 b ∧ b < w6.heap.size) w6 (some ⟨w5.heap.size, 0, none⟩) 3 [rep 1, rep 2, rep 3]) := by
    refine Lib.hid (rd_lit (vs := [.slice (some ⟨b3, o3, none⟩) 64 64, .slice (some ⟨b4, o4, none⟩) 64 64, .slice (some ⟨b5, o5, none⟩) 64 64]) (by simpa using bx) rfl ⟨hnl _ (by omega), bx.lt⟩ ?_)
    intro j u x hu hx
    match j, hu, hx with
    | 0, hu, hx =>
      simp only [List.getElem?_cons_zero, Option.some.injEq] at hu hx
      subst hu; subst hx
      exact ⟨_, _, _, rfl, (((R34.out.below U8R.stable t5).below U8R.stable bb).weaken U8R.stable (by rintro k rfl; exact ⟨hnl _ (by omega), by omega⟩))⟩
    | 1, hu, hx =>
      simp only [List.getElem?_cons_zero, List.getElem?_cons_succ, Option.some.injEq] at hu hx
      subst hu; subst hx
      exact ⟨_, _, _, rfl, (((R4.out.below U8R.stable t5).below U8R.stable bb).weaken U8R.stable (by rintro k rfl; exact ⟨hnl _ (by omega), by omega⟩))⟩
    | 2, hu, hx =>
      simp only [List.getElem?_cons_zero, List.getElem?_cons_succ, Option.some.injEq] at hu hx
      subst hu; subst hx
      exact ⟨_, _, _, rfl, ((r5.below U8R.stable bb).weaken U8R.stable (by rintro k rfl; exact ⟨hnl _ (by omega), by omega⟩))⟩
    | j + 3, hu, hx => simp at hu
  have HA6 := Lib.hid (HA2.out.below T6.out)
  have hput := aput_any HA6 (by simp [failA]) (by simp [failA]) (Lib.hid stF_cache) 1 (c := 3) R (fun b hb => hb)
  clear bx bb t5 r5 T5 R34 R4 R hnl l3 l3' l4 l4' l5 l5' s2 s4 s5 s6 T4 T3
  go_wp2_with fail
  refine hput.mono ?_
  rintro e w7 ⟨rfl, U, A7, hU7, K7⟩
  rw [stA_put]
  clear hput hw6
  have T26 := T2.out.trans (T6.out.mono T2.out.size)
  have hs7 := T26.size
  have hU : Hid (∀ b, U b → w.heap.size ≤ b) := Lib.hid fun b hb => by
    by_cases hlt : b < w6.heap.size
    · exact HU2.out b (hU7 b hb hlt)
    · have := K7.size; omega
  have T7 := Lib.hid (T26.trans (K7.below hs7 HU2.out))
  obtain ⟨v, Fs, ps, hB7⟩ := (show ArrAt U w7 a 2 stA from A7)
  have hrow := arow_any (Lib.hid hB7) (by rw [stA_len]; omega) (by rw [stA_len]; omega) 1
  have HB7 := Lib.hid hB7
  clear A7 hU7 K7 T26 hs7 hB7 HA6 HA2 HU2 T2 T6 hs1 hs2
  go_wp2_with fail
  refine hrow.mono ?_
  rintro e wl ⟨ob, rfl, Rr, tl⟩
  clear hrow
  rw [stA_rows] at Rr
  rw [stA_len] at Rr ⊢
  have HB := Lib.hid (HB7.out.below tl)
  have Tl := Lib.hid (T7.out.trans (tl.mono T7.out.size))
  have hnU : ∀ b, w7.heap.size ≤ b → ¬ U b := fun b hb hu => by have := HB7.out.lt b hu; omega
  have RK : ∀ w', Keep U wl w' → RdL BytesR 1 (w7.heap.size ≤ ·) w' (some ⟨ob, 0, none⟩) 3 [rep 1, [], rep 3] := fun w' hk => Rr.keep BytesR.stable hk hnU
  obtain ⟨g0, o0, x0, A0, m0, c0, e0, hx0, _, hS0, q0, rr0⟩ := bytes_at Rr (i := 0) (by omega)
  obtain ⟨g1, o1, x1, A1, m1, c1, e1, hx1, _, hS1, q1, rr1⟩ := bytes_at Rr (i := 1) (by omega)
  obtain ⟨g2, o2, x2, A2, m2, c2, e2, hx2, _, hS2, q2, rr2⟩ := bytes_at Rr (i := 2) (by omega)
  simp only [Option.some.injEq, Addr.mk.injEq, and_true] at e0 e1 e2
  obtain ⟨rfl, rfl⟩ := e0
  obtain ⟨rfl, rfl⟩ := e1
  obtain ⟨rfl, rfl⟩ := e2
  simp only [List.getElem?_cons_zero, List.getElem?_cons_succ, Option.some.injEq] at hx0 hx1 hx2
  subst hx0; subst hx1; subst hx2
  obtain rfl : 64 = m0 := by have := rr0.1; rw [rep_len] at this; exact this
  obtain rfl : 0 = m1 := rr1.1
  obtain rfl : 64 = m2 := by have := rr2.1; rw [rep_len] at this; exact this
  have hlob : ob < wl.heap.size := by obtain ⟨b, o, e, _, hlt⟩ := Rr.addr (k := 0) (by omega); simp only [Option.some.injEq, Addr.mk.injEq, and_true] at e; omega
  have hkc : ∀ w', Keep U wl w' → ∀ o, w'.cell? ⟨ob, o, none⟩ = wl.cell? ⟨ob, o, none⟩ := fun w' hk o => World.cell?_of_block (hk.block ob hlob (hnU ob hS0))
  have p0 : ∀ w', Keep U wl w' → w'.cell? ⟨ob, 0, none⟩ = some (.slice A0 64 c0) := fun w' hk => (hkc w' hk 0).trans q0
  have p1 : ∀ w', Keep U wl w' → w'.cell? ⟨ob, 1, none⟩ = some (.slice A1 0 c1) := fun w' hk => (hkc w' hk 1).trans q1
  have p2 : ∀ w', Keep U wl w' → w'.cell? ⟨ob, 2, none⟩ = some (.slice A2 64 c2) := fun w' hk => (hkc w' hk 2).trans q2
  have v0 : ∀ w', Keep U wl w' → (convert 27 9 (.slice A0 64 c0)).run Try.prog w' = .ok (.string (strOfNums (rep 1))) w' := fun w' hk => conv_run (rr0.keep U8R.stable hk hnU) (by omega)
  have v2 : ∀ w', Keep U wl w' → (convert 27 9 (.slice A2 64 c2)).run Try.prog w' = .ok (.string (strOfNums (rep 3))) w' := fun w' hk => conv_run (rr2.keep U8R.stable hk hnU) (by omega)
  have hk : 0 < stA.length := by rw [stA_len]; omega
  have hk2 : stA.length ≤ 600 := by rw [stA_len]; omega
  have hk3 : stA.length < 1000000 := by rw [stA_len]; omega
  have hal := stA_alive
  have hlen := stA_len
  have hcl := Lib.hid stA_cache
  clear q0 q1 q2 rr0 rr1 rr2 hkc RK Rr tl hS0 hS1 hS2 hlob HB7
  obtain ⟨sts, hsts⟩ : ∃ x, stA = x := ⟨_, rfl⟩
  rw [hsts] at hk hk2 hk3 hal hlen hcl HB
  clear hsts
  go_wp2_with fail
  refine wp_region_held_drew (S := fun w' => Keep U wl w') (by kernel_rfl) (by first | exact Keep.of_below (Below.refl _ _).drew | assumption) (fun hHeld => ?_)
  refine wpAnyH_take (i := 0) (v := ?_) rfl (by kernel_rfl) (by kernel_rfl) (by kernel_rfl) (fun _ _ _ h => h) (Or.inl ⟨by rfl, ?_⟩) (by assumption) ?_
  rotate_left
  · (intro wq hSw; (try dsimp only at hSw); (try simp only [List.getElem_toArray, List.getElem_cons_succ, List.getElem_cons_zero]); go_simp); try with_reducible rfl
  try simp only [List.getElem_toArray, List.getElem_cons_succ, List.getElem_cons_zero, Act.put, List.setIfInBounds_toArray, List.set_cons_zero, List.set_cons_succ]
  refine wpAnyH_take (i := 1) (v := ?_) rfl (by kernel_rfl) (by kernel_rfl) (by kernel_rfl) (fun _ _ _ h => h) (Or.inl ⟨by rfl, ?_⟩) (by assumption) ?_
  rotate_left
  · (intro wq hSw; (try dsimp only at hSw); (try simp only [List.getElem_toArray, List.getElem_cons_succ, List.getElem_cons_zero]); go_simp); try with_reducible rfl
  try simp only [List.getElem_toArray, List.getElem_cons_succ, List.getElem_cons_zero, Act.put, List.setIfInBounds_toArray, List.set_cons_zero, List.set_cons_succ]
  refine wpAnyH_take (i := 2) (v := ?_) rfl (by kernel_rfl) (by kernel_rfl) (by kernel_rfl) (fun _ _ _ h => h) (Or.inl ⟨by rfl, ?_⟩) (by assumption) ?_
  rotate_left
  · (intro wq hSw; (try dsimp only at hSw); (try simp only [List.getElem_toArray, List.getElem_cons_succ, List.getElem_cons_zero]); go_simp); try with_reducible rfl
  try simp only [List.getElem_toArray, List.getElem_cons_succ, List.getElem_cons_zero, Act.put, List.setIfInBounds_toArray, List.set_cons_zero, List.set_cons_succ]
  refine wpAnyH_take (i := 3) (v := ?_) rfl (by kernel_rfl) (by kernel_rfl) (by kernel_rfl) (fun _ _ _ h => h) (Or.inl ⟨by rfl, ?_⟩) (by assumption) ?_
  rotate_left
  · (intro wq hSw; (try dsimp only at hSw); (try simp only [List.getElem_toArray, List.getElem_cons_succ, List.getElem_cons_zero]); go_simp); try with_reducible rfl
  try simp only [List.getElem_toArray, List.getElem_cons_succ, List.getElem_cons_zero, Act.put, List.setIfInBounds_toArray, List.set_cons_zero, List.set_cons_succ]
  refine wpAnyH_take (i := 4) (v := ?_) rfl (by kernel_rfl) (by kernel_rfl) (by kernel_rfl) (fun _ _ _ h => h) (Or.inl ⟨by rfl, ?_⟩) (by assumption) ?_
  rotate_left
  · (intro wq hSw; (try dsimp only at hSw); (try simp only [List.getElem_toArray, List.getElem_cons_succ, List.getElem_cons_zero]); go_simp); try with_reducible rfl
  try simp only [List.getElem_toArray, List.getElem_cons_succ, List.getElem_cons_zero, Act.put, List.setIfInBounds_toArray, List.set_cons_zero, List.set_cons_succ]
  refine wpAnyH_take (i := 5) (v := ?_) rfl (by kernel_rfl) (by kernel_rfl) (by kernel_rfl) (fun _ _ _ h => h) (Or.inl ⟨by rfl, ?_⟩) (by assumption) ?_
  rotate_left
  · (intro wq hSw; (try dsimp only at hSw); (try simp only [List.getElem_toArray, List.getElem_cons_succ, List.getElem_cons_zero]); go_simp); try with_reducible rfl
  try simp only [List.getElem_toArray, List.getElem_cons_succ, List.getElem_cons_zero, Act.put, List.setIfInBounds_toArray, List.set_cons_zero, List.set_cons_succ]
  refine wpAnyH_take (i := 6) (v := ?_) rfl (by kernel_rfl) (by kernel_rfl) (by kernel_rfl) (fun _ _ _ h => h) (Or.inl ⟨by rfl, ?_⟩) (by assumption) ?_
  rotate_left
  · (intro wq hSw; (try dsimp only at hSw); (try simp only [List.getElem_toArray, List.getElem_cons_succ, List.getElem_cons_zero]); go_simp); try with_reducible rfl
  try simp only [List.getElem_toArray, List.getElem_cons_succ, List.getElem_cons_zero, Act.put, List.setIfInBounds_toArray, List.set_cons_zero, List.set_cons_succ]
  refine wpAnyH_take (i := 7) (v := ?_) rfl (by kernel_rfl) (by kernel_rfl) (by kernel_rfl) (fun _ _ _ h => h) (Or.inl ⟨by rfl, ?_⟩) (by assumption) ?_
  rotate_left
  · (intro wq hSw; (try dsimp only at hSw); (try simp only [List.getElem_toArray, List.getElem_cons_succ, List.getElem_cons_zero]); go_simp); try with_reducible rfl
  try simp only [List.getElem_toArray, List.getElem_cons_succ, List.getElem_cons_zero, Act.put, List.setIfInBounds_toArray, List.set_cons_zero, List.set_cons_succ]
  refine wpAnyH_ready (rs := [8]) (by kernel_rfl) (by simp) ?_
  refine AllReadyH.cons rfl (fun K hK => ?_) AllReadyH.nil
  try simp only [List.getElem_toArray, List.getElem_cons_succ, List.getElem_cons_zero]
  go_simp
  refine (aalive_any (Lib.hid (HB.out.below (Below.refl _ _).drew)) hk hk3).mono ?_
  rintro e w8 ⟨rfl, t8⟩
  have B8 := below_then t8 (Below.refl _ _).drew
  have K8 : Keep U wl w8 := Keep.of_below B8
  rw [hal]
  try (go_wp2_with fail)
  refine hK.out _ _ (by first | exact Keep.of_below (Below.refl _ _).drew | assumption) (fun hHeld => ?_)
  clear hK K
  try simp only [List.getElem_toArray, List.getElem_cons_succ, List.getElem_cons_zero, Act.put, List.setIfInBounds_toArray, List.set_cons_zero, List.set_cons_succ]
  refine wpAnyH_take (i := 9) (v := ?_) rfl (by kernel_rfl) (by kernel_rfl) (by kernel_rfl) (fun _ _ _ h => h) (Or.inl ⟨by rfl, ?_⟩) (by assumption) ?_
  rotate_left
  · (intro wq hSw; (try dsimp only at hSw); (try simp only [List.getElem_toArray, List.getElem_cons_succ, List.getElem_cons_zero]); go_simp); try with_reducible rfl
  try simp only [List.getElem_toArray, List.getElem_cons_succ, List.getElem_cons_zero, Act.put, List.setIfInBounds_toArray, List.set_cons_zero, List.set_cons_succ]
  refine wpAnyH_take (i := 10) (v := ?_) rfl (by kernel_rfl) (by kernel_rfl) (by kernel_rfl) (fun _ _ _ h => h) (Or.inl ⟨by rfl, ?_⟩) (by assumption) ?_
  rotate_left
  · (intro wq hSw; (try dsimp only at hSw); (try simp only [List.getElem_toArray, List.getElem_cons_succ, List.getElem_cons_zero]); go_simp); try with_reducible rfl
  try simp only [List.getElem_toArray, List.getElem_cons_succ, List.getElem_cons_zero, Act.put, List.setIfInBounds_toArray, List.set_cons_zero, List.set_cons_succ]
  refine wpAnyH_take (i := 11) (v := ?_) rfl (by kernel_rfl) (by kernel_rfl) (by kernel_rfl) (fun _ _ _ h => h) (Or.inl ⟨by rfl, ?_⟩) (by assumption) ?_
  rotate_left
  · (intro wq hSw; (try dsimp only at hSw); (try simp only [List.getElem_toArray, List.getElem_cons_succ, List.getElem_cons_zero]); go_simp); try with_reducible rfl
  try simp only [List.getElem_toArray, List.getElem_cons_succ, List.getElem_cons_zero, Act.put, List.setIfInBounds_toArray, List.set_cons_zero, List.set_cons_succ]
  refine wpAnyH_take (i := 12) (v := ?_) rfl (by kernel_rfl) (by kernel_rfl) (by kernel_rfl) (fun _ _ _ h => h) (Or.inl ⟨by rfl, ?_⟩) (by assumption) ?_
  rotate_left
  · (intro wq hSw; (try dsimp only at hSw); (try simp only [List.getElem_toArray, List.getElem_cons_succ, List.getElem_cons_zero]); go_simp); try with_reducible rfl
  try simp only [List.getElem_toArray, List.getElem_cons_succ, List.getElem_cons_zero, Act.put, List.setIfInBounds_toArray, List.set_cons_zero, List.set_cons_succ]
  refine wpAnyH_ready (rs := [13]) (by kernel_rfl) (by simp) ?_
  refine AllReadyH.cons rfl (fun K hK => ?_) AllReadyH.nil
  try simp only [List.getElem_toArray, List.getElem_cons_succ, List.getElem_cons_zero]
  go_simp
  refine (an_any (Lib.hid (HB.out.below B8)) hk).mono ?_
  rintro e w13 ⟨rfl, t13⟩
  have B13 := below_then t13 B8
  have K13 : Keep U wl w13 := Keep.of_below B13
  rw [hlen]
  try (go_wp2_with fail)
  refine hK.out _ _ (by first | exact Keep.of_below (Below.refl _ _).drew | assumption) (fun hHeld => ?_)
  clear hK K
  try simp only [List.getElem_toArray, List.getElem_cons_succ, List.getElem_cons_zero, Act.put, List.setIfInBounds_toArray, List.set_cons_zero, List.set_cons_succ]
  refine wpAnyH_take (i := 14) (v := ?_) rfl (by kernel_rfl) (by kernel_rfl) (by kernel_rfl) (fun _ _ _ h => h) (Or.inl ⟨by rfl, ?_⟩) (by assumption) ?_
  rotate_left
  · (intro wq hSw; (try dsimp only at hSw); (try simp only [List.getElem_toArray, List.getElem_cons_succ, List.getElem_cons_zero]); go_simp); try with_reducible rfl
  try simp only [List.getElem_toArray, List.getElem_cons_succ, List.getElem_cons_zero, Act.put, List.setIfInBounds_toArray, List.set_cons_zero, List.set_cons_succ]
  refine wpAnyH_take (i := 15) (v := ?_) rfl (by kernel_rfl) (by kernel_rfl) (by kernel_rfl) (fun _ _ _ h => h) (Or.inl ⟨by rfl, ?_⟩) (by assumption) ?_
  rotate_left
  · (intro wq hSw; (try dsimp only at hSw); (try simp only [List.getElem_toArray, List.getElem_cons_succ, List.getElem_cons_zero]); go_simp); try with_reducible rfl
  try simp only [List.getElem_toArray, List.getElem_cons_succ, List.getElem_cons_zero, Act.put, List.setIfInBounds_toArray, List.set_cons_zero, List.set_cons_succ]
  refine wpAnyH_take (i := 16) (v := ?_) rfl (by kernel_rfl) (by kernel_rfl) (by kernel_rfl) (fun _ _ _ h => h) (Or.inl ⟨by rfl, ?_⟩) (by assumption) ?_
  rotate_left
  · (intro wq hSw; (try dsimp only at hSw); (try simp only [List.getElem_toArray, List.getElem_cons_succ, List.getElem_cons_zero]); go_simp); try with_reducible rfl
  try simp only [List.getElem_toArray, List.getElem_cons_succ, List.getElem_cons_zero, Act.put, List.setIfInBounds_toArray, List.set_cons_zero, List.set_cons_succ]
  refine wpAnyH_take (i := 17) (v := ?_) rfl (by kernel_rfl) (by kernel_rfl) (by kernel_rfl) (fun _ _ _ h => h) (Or.inl ⟨by rfl, ?_⟩) (by assumption) ?_
  rotate_left
  · (intro wq hSw; (try dsimp only at hSw); (try simp only [List.getElem_toArray, List.getElem_cons_succ, List.getElem_cons_zero]); go_simp); try with_reducible rfl
  try simp only [List.getElem_toArray, List.getElem_cons_succ, List.getElem_cons_zero, Act.put, List.setIfInBounds_toArray, List.set_cons_zero, List.set_cons_succ]
  refine wpAnyH_ready (rs := [18]) (by kernel_rfl) (by simp) ?_
  refine AllReadyH.cons rfl (fun K hK => ?_) AllReadyH.nil
  try simp only [List.getElem_toArray, List.getElem_cons_succ, List.getElem_cons_zero]
  go_simp
  refine (asectors_any (Lib.hid (HB.out.below B13)) hk).mono ?_
  rintro e w18 ⟨rfl, t18⟩
  have B18 := below_then t18 B13
  have K18 : Keep U wl w18 := Keep.of_below B18
  try (go_wp2_with fail)
  refine hK.out _ _ (by first | exact Keep.of_below (Below.refl _ _).drew | assumption) (fun hHeld => ?_)
  clear hK K
  try simp only [List.getElem_toArray, List.getElem_cons_succ, List.getElem_cons_zero, Act.put, List.setIfInBounds_toArray, List.set_cons_zero, List.set_cons_succ]
  refine wpAnyH_take (i := 19) (v := ?_) rfl (by kernel_rfl) (by kernel_rfl) (by kernel_rfl) (fun _ _ _ h => h) (Or.inl ⟨by rfl, ?_⟩) (by assumption) ?_
  rotate_left
  · (intro wq hSw; (try dsimp only at hSw); (try simp only [List.getElem_toArray, List.getElem_cons_succ, List.getElem_cons_zero]); go_simp); try with_reducible rfl
  try simp only [List.getElem_toArray, List.getElem_cons_succ, List.getElem_cons_zero, Act.put, List.setIfInBounds_toArray, List.set_cons_zero, List.set_cons_succ]
  refine wpAnyH_take (i := 20) (v := ?_) rfl (by kernel_rfl) (by kernel_rfl) (by kernel_rfl) (fun _ _ _ h => h) (Or.inl ⟨by rfl, ?_⟩) (by assumption) ?_
  rotate_left
  · (intro wq hSw; (try dsimp only at hSw); (try simp only [List.getElem_toArray, List.getElem_cons_succ, List.getElem_cons_zero]); go_simp); try with_reducible rfl
  try simp only [List.getElem_toArray, List.getElem_cons_succ, List.getElem_cons_zero, Act.put, List.setIfInBounds_toArray, List.set_cons_zero, List.set_cons_succ]
  refine wpAnyH_take (i := 21) (v := ?_) rfl (by kernel_rfl) (by kernel_rfl) (by kernel_rfl) (fun _ _ _ h => h) (Or.inl ⟨by rfl, ?_⟩) (by assumption) ?_
  rotate_left
  · (intro wq hSw; (try dsimp only at hSw); (try simp only [List.getElem_toArray, List.getElem_cons_succ, List.getElem_cons_zero]); go_simp); try with_reducible rfl
  try simp only [List.getElem_toArray, List.getElem_cons_succ, List.getElem_cons_zero, Act.put, List.setIfInBounds_toArray, List.set_cons_zero, List.set_cons_succ]
  refine wpAnyH_take (i := 22) (v := ?_) rfl (by kernel_rfl) (by kernel_rfl) (by kernel_rfl) (fun _ _ _ h => h) (Or.inl ⟨by rfl, ?_⟩) (by assumption) ?_
  rotate_left
  · (intro wq hSw; (try dsimp only at hSw); (try simp only [List.getElem_toArray, List.getElem_cons_succ, List.getElem_cons_zero]); go_simp); try with_reducible rfl
  try simp only [List.getElem_toArray, List.getElem_cons_succ, List.getElem_cons_zero, Act.put, List.setIfInBounds_toArray, List.set_cons_zero, List.set_cons_succ]
  refine wpAnyH_take (i := 23) (v := ?_) rfl (by kernel_rfl) (by kernel_rfl) (by kernel_rfl) (fun _ _ _ h => h) (Or.inl ⟨by rfl, ?_⟩) (by assumption) ?_
  rotate_left
  · (intro wq hSw; (try dsimp only at hSw); (try simp only [List.getElem_toArray, List.getElem_cons_succ, List.getElem_cons_zero]); go_simp); try with_reducible rfl
  try simp only [List.getElem_toArray, List.getElem_cons_succ, List.getElem_cons_zero, Act.put, List.setIfInBounds_toArray, List.set_cons_zero, List.set_cons_succ]
  refine wpAnyH_take (i := 24) (v := ?_) rfl (by kernel_rfl) (by kernel_rfl) (by kernel_rfl) (fun _ _ _ h => h) (Or.inl ⟨by rfl, ?_⟩) (by assumption) ?_
  rotate_left
  · (intro wq hSw; (try dsimp only at hSw); (try simp only [List.getElem_toArray, List.getElem_cons_succ, List.getElem_cons_zero]); go_simp); try with_reducible rfl
  try simp only [List.getElem_toArray, List.getElem_cons_succ, List.getElem_cons_zero, Act.put, List.setIfInBounds_toArray, List.set_cons_zero, List.set_cons_succ]
  refine wpAnyH_take (i := 25) (v := ?_) rfl (by kernel_rfl) (by kernel_rfl) (by kernel_rfl) (fun _ _ _ h => h) (Or.inl ⟨by rfl, ?_⟩) (by assumption) ?_
  rotate_left
  · (intro wq hSw; (try dsimp only at hSw); (try simp only [List.getElem_toArray, List.getElem_cons_succ, List.getElem_cons_zero]); go_simp); try with_reducible rfl
  try simp only [List.getElem_toArray, List.getElem_cons_succ, List.getElem_cons_zero, Act.put, List.setIfInBounds_toArray, List.set_cons_zero, List.set_cons_succ]
  refine wpAnyH_take (i := 26) (v := ?_) rfl (by kernel_rfl) (by kernel_rfl) (by kernel_rfl) (fun _ _ _ h => h) (Or.inl ⟨by rfl, ?_⟩) (by assumption) ?_
  rotate_left
  · (intro wq hSw; (try dsimp only at hSw); (try simp only [List.getElem_toArray, List.getElem_cons_succ, List.getElem_cons_zero]); go_simp); try with_reducible rfl
  try simp only [List.getElem_toArray, List.getElem_cons_succ, List.getElem_cons_zero, Act.put, List.setIfInBounds_toArray, List.set_cons_zero, List.set_cons_succ]
  refine wpAnyH_take (i := 27) (v := ?_) rfl (by kernel_rfl) (by kernel_rfl) (by kernel_rfl) (fun _ _ _ h => h) (Or.inl ⟨by rfl, ?_⟩) (by assumption) ?_
  rotate_left
  · (intro wq hSw; (try dsimp only at hSw); (try simp only [List.getElem_toArray, List.getElem_cons_succ, List.getElem_cons_zero]); go_simp); try with_reducible rfl
  try simp only [List.getElem_toArray, List.getElem_cons_succ, List.getElem_cons_zero, Act.put, List.setIfInBounds_toArray, List.set_cons_zero, List.set_cons_succ]
  refine wpAnyH_take (i := 28) (v := ?_) rfl (by kernel_rfl) (by kernel_rfl) (by kernel_rfl) (fun _ _ _ h => h) (Or.inl ⟨by rfl, ?_⟩) (by assumption) ?_
  rotate_left
  · (intro wq hSw; (try dsimp only at hSw); (try simp only [List.getElem_toArray, List.getElem_cons_succ, List.getElem_cons_zero]); go_simp); try with_reducible rfl
  try simp only [List.getElem_toArray, List.getElem_cons_succ, List.getElem_cons_zero, Act.put, List.setIfInBounds_toArray, List.set_cons_zero, List.set_cons_succ]
  refine wpAnyH_take (i := 29) (v := ?_) rfl (by kernel_rfl) (by kernel_rfl) (by kernel_rfl) (fun _ _ _ h => h) (Or.inl ⟨by rfl, ?_⟩) (by assumption) ?_
  rotate_left
  · (intro wq hSw; (try dsimp only at hSw); (try simp only [List.getElem_toArray, List.getElem_cons_succ, List.getElem_cons_zero]); go_simp); try with_reducible rfl
  try simp only [List.getElem_toArray, List.getElem_cons_succ, List.getElem_cons_zero, Act.put, List.setIfInBounds_toArray, List.set_cons_zero, List.set_cons_succ]
  refine wpAnyH_take (i := 30) (v := ?_) rfl (by kernel_rfl) (by kernel_rfl) (by kernel_rfl) (fun _ _ _ h => h) (Or.inl ⟨by rfl, ?_⟩) (by assumption) ?_
  rotate_left
  · (intro wq hSw; (try dsimp only at hSw); (try simp only [List.getElem_toArray, List.getElem_cons_succ, List.getElem_cons_zero]); go_simp); try with_reducible rfl
  try simp only [List.getElem_toArray, List.getElem_cons_succ, List.getElem_cons_zero, Act.put, List.setIfInBounds_toArray, List.set_cons_zero, List.set_cons_succ]
  refine wpAnyH_ready (rs := [31]) (by kernel_rfl) (by simp) ?_
  refine AllReadyH.cons rfl (fun K hK => ?_) AllReadyH.nil
  try simp only [List.getElem_toArray, List.getElem_cons_succ, List.getElem_cons_zero]
  go_simp
  refine (full_at 1 _).mono ?_
  rintro e w31 ⟨b31, o31, rfl, _, _, r31, t31⟩
  have B31 := below_then t31 B18
  have K31 : Keep U wl w31 := Keep.of_below B31
  have c31 := conv_run (c := 64) r31 (by omega)
  try (go_wp2_with fail)
  refine hK.out _ _ (by first | exact Keep.of_below (Below.refl _ _).drew | assumption) (fun hHeld => ?_)
  clear hK K
  try simp only [List.getElem_toArray, List.getElem_cons_succ, List.getElem_cons_zero, Act.put, List.setIfInBounds_toArray, List.set_cons_zero, List.set_cons_succ]
  refine wpAnyH_ready (rs := [32]) (by kernel_rfl) (by simp) ?_
  refine AllReadyH.cons rfl (fun K hK => ?_) AllReadyH.nil
  try simp only [List.getElem_toArray, List.getElem_cons_succ, List.getElem_cons_zero]
  go_simp
  refine hK.out _ _ (by first | exact Keep.of_below (Below.refl _ _).drew | assumption) (fun hHeld => ?_)
  clear hK K
  try simp only [List.getElem_toArray, List.getElem_cons_succ, List.getElem_cons_zero, Act.put, List.setIfInBounds_toArray, List.set_cons_zero, List.set_cons_succ]
  refine wpAnyH_take (i := 33) (v := ?_) rfl (by kernel_rfl) (by kernel_rfl) (by kernel_rfl) (fun _ _ _ h => h) (Or.inl ⟨by rfl, ?_⟩) (by assumption) ?_
  rotate_left
  · (intro wq hSw; (try dsimp only at hSw); (try simp only [List.getElem_toArray, List.getElem_cons_succ, List.getElem_cons_zero]); go_simp); try with_reducible rfl
  try simp only [List.getElem_toArray, List.getElem_cons_succ, List.getElem_cons_zero, Act.put, List.setIfInBounds_toArray, List.set_cons_zero, List.set_cons_succ]
  refine wpAnyH_take (i := 34) (v := ?_) rfl (by kernel_rfl) (by kernel_rfl) (by kernel_rfl) (fun _ _ _ h => h) (Or.inl ⟨by rfl, ?_⟩) (by assumption) ?_
  rotate_left
  · (intro wq hSw; (try dsimp only at hSw); (try simp only [List.getElem_toArray, List.getElem_cons_succ, List.getElem_cons_zero]); go_simp); try with_reducible rfl
  try simp only [List.getElem_toArray, List.getElem_cons_succ, List.getElem_cons_zero, Act.put, List.setIfInBounds_toArray, List.set_cons_zero, List.set_cons_succ]
  refine wpAnyH_take (i := 35) (v := ?_) rfl (by kernel_rfl) (by kernel_rfl) (by kernel_rfl) (fun _ _ _ h => h) (Or.inl ⟨by rfl, ?_⟩) (by assumption) ?_
  rotate_left
  · (intro wq hSw; (try dsimp only at hSw); (try simp only [List.getElem_toArray, List.getElem_cons_succ, List.getElem_cons_zero]); go_simp); try with_reducible rfl
  try simp only [List.getElem_toArray, List.getElem_cons_succ, List.getElem_cons_zero, Act.put, List.setIfInBounds_toArray, List.set_cons_zero, List.set_cons_succ]
  refine wpAnyH_take (i := 36) (v := ?_) rfl (by kernel_rfl) (by kernel_rfl) (by kernel_rfl) (fun _ _ _ h => h) (Or.inl ⟨by rfl, ?_⟩) (by assumption) ?_
  rotate_left
  · (intro wq hSw; (try dsimp only at hSw); (try simp only [List.getElem_toArray, List.getElem_cons_succ, List.getElem_cons_zero]); go_simp); try with_reducible rfl
  try simp only [List.getElem_toArray, List.getElem_cons_succ, List.getElem_cons_zero, Act.put, List.setIfInBounds_toArray, List.set_cons_zero, List.set_cons_succ]
  refine wpAnyH_take (i := 37) (v := ?_) rfl (by kernel_rfl) (by kernel_rfl) (by kernel_rfl) (fun _ _ _ h => h) (Or.inl ⟨by rfl, ?_⟩) (by assumption) ?_
  rotate_left
  · (intro wq hSw; (try dsimp only at hSw); (try simp only [List.getElem_toArray, List.getElem_cons_succ, List.getElem_cons_zero]); go_simp); try with_reducible rfl
  try simp only [List.getElem_toArray, List.getElem_cons_succ, List.getElem_cons_zero, Act.put, List.setIfInBounds_toArray, List.set_cons_zero, List.set_cons_succ]
  refine wpAnyH_take (i := 38) (v := ?_) rfl (by kernel_rfl) (by kernel_rfl) (by kernel_rfl) (fun _ _ _ h => h) (Or.inl ⟨by rfl, ?_⟩) (by assumption) ?_
  rotate_left
  · (intro wq hSw; (try dsimp only at hSw); (try simp only [List.getElem_toArray, List.getElem_cons_succ, List.getElem_cons_zero]); go_simp); try with_reducible rfl
  try simp only [List.getElem_toArray, List.getElem_cons_succ, List.getElem_cons_zero, Act.put, List.setIfInBounds_toArray, List.set_cons_zero, List.set_cons_succ]
  refine wpAnyH_take (i := 39) (v := ?_) rfl (by kernel_rfl) (by kernel_rfl) (by kernel_rfl) (fun _ _ _ h => h) (Or.inl ⟨by rfl, ?_⟩) (by assumption) ?_
  rotate_left
  · (intro wq hSw; (try dsimp only at hSw); (try simp only [List.getElem_toArray, List.getElem_cons_succ, List.getElem_cons_zero]); go_simp); try with_reducible rfl
  try simp only [List.getElem_toArray, List.getElem_cons_succ, List.getElem_cons_zero, Act.put, List.setIfInBounds_toArray, List.set_cons_zero, List.set_cons_succ]
  refine wpAnyH_take (i := 40) (v := ?_) rfl (by kernel_rfl) (by kernel_rfl) (by kernel_rfl) (fun _ _ _ h => h) (Or.inl ⟨by rfl, ?_⟩) (by assumption) ?_
  rotate_left
  · (intro wq hSw; (try dsimp only at hSw); (try simp only [List.getElem_toArray, List.getElem_cons_succ, List.getElem_cons_zero]); go_simp); try with_reducible rfl
  try simp only [List.getElem_toArray, List.getElem_cons_succ, List.getElem_cons_zero, Act.put, List.setIfInBounds_toArray, List.set_cons_zero, List.set_cons_succ]
  refine wpAnyH_take (i := 41) (v := ?_) rfl (by kernel_rfl) (by kernel_rfl) (by kernel_rfl) (fun _ _ _ h => h) (Or.inl ⟨by rfl, ?_⟩) (by assumption) ?_
  rotate_left
  · (intro wq hSw; (try dsimp only at hSw); (try simp only [List.getElem_toArray, List.getElem_cons_succ, List.getElem_cons_zero]); go_simp); try with_reducible rfl
  try simp only [List.getElem_toArray, List.getElem_cons_succ, List.getElem_cons_zero, Act.put, List.setIfInBounds_toArray, List.set_cons_zero, List.set_cons_succ]
  refine wpAnyH_take (i := 42) (v := ?_) rfl (by kernel_rfl) (by kernel_rfl) (by kernel_rfl) (fun _ _ _ h => h) (Or.inl ⟨by rfl, ?_⟩) (by assumption) ?_
  rotate_left
  · (intro wq hSw; (try dsimp only at hSw); (try simp only [List.getElem_toArray, List.getElem_cons_succ, List.getElem_cons_zero]); go_simp); try with_reducible rfl
  try simp only [List.getElem_toArray, List.getElem_cons_succ, List.getElem_cons_zero, Act.put, List.setIfInBounds_toArray, List.set_cons_zero, List.set_cons_succ]
  refine wpAnyH_take (i := 43) (v := ?_) rfl (by kernel_rfl) (by kernel_rfl) (by kernel_rfl) (fun _ _ _ h => h) (Or.inl ⟨by rfl, ?_⟩) (by assumption) ?_
  rotate_left
  · (intro wq hSw; (try dsimp only at hSw); (try simp only [List.getElem_toArray, List.getElem_cons_succ, List.getElem_cons_zero]); go_simp); try with_reducible rfl
  try simp only [List.getElem_toArray, List.getElem_cons_succ, List.getElem_cons_zero, Act.put, List.setIfInBounds_toArray, List.set_cons_zero, List.set_cons_succ]
  refine wpAnyH_take (i := 44) (v := ?_) rfl (by kernel_rfl) (by kernel_rfl) (by kernel_rfl) (fun _ _ _ h => h) (Or.inl ⟨by rfl, ?_⟩) (by assumption) ?_
  rotate_left
  · (intro wq hSw; (try dsimp only at hSw); (try simp only [List.getElem_toArray, List.getElem_cons_succ, List.getElem_cons_zero]); go_simp); try with_reducible rfl
  try simp only [List.getElem_toArray, List.getElem_cons_succ, List.getElem_cons_zero, Act.put, List.setIfInBounds_toArray, List.set_cons_zero, List.set_cons_succ]
  refine wpAnyH_take (i := 45) (v := ?_) rfl (by kernel_rfl) (by kernel_rfl) (by kernel_rfl) (fun _ _ _ h => h) (Or.inl ⟨by rfl, ?_⟩) (by assumption) ?_
  rotate_left
  · (intro wq hSw; (try dsimp only at hSw); (try simp only [List.getElem_toArray, List.getElem_cons_succ, List.getElem_cons_zero]); go_simp); try with_reducible rfl
  try simp only [List.getElem_toArray, List.getElem_cons_succ, List.getElem_cons_zero, Act.put, List.setIfInBounds_toArray, List.set_cons_zero, List.set_cons_succ]
  refine wpAnyH_take (i := 46) (v := ?_) rfl (by kernel_rfl) (by kernel_rfl) (by kernel_rfl) (fun _ _ _ h => h) (Or.inl ⟨by rfl, ?_⟩) (by assumption) ?_
  rotate_left
  · (intro wq hSw; (try dsimp only at hSw); (try simp only [List.getElem_toArray, List.getElem_cons_succ, List.getElem_cons_zero]); go_simp); try with_reducible rfl
  try simp only [List.getElem_toArray, List.getElem_cons_succ, List.getElem_cons_zero, Act.put, List.setIfInBounds_toArray, List.set_cons_zero, List.set_cons_succ]
  refine wpAnyH_ready (rs := [47]) (by kernel_rfl) (by simp) ?_
  refine AllReadyH.cons rfl (fun K hK => ?_) AllReadyH.nil
  try simp only [List.getElem_toArray, List.getElem_cons_succ, List.getElem_cons_zero]
  go_simp
  refine (full_at 3 _).mono ?_
  rintro e w47 ⟨b47, o47, rfl, _, _, r47, t47⟩
  have B47 := below_then t47 B31
  have K47 : Keep U wl w47 := Keep.of_below B47
  have c47 := conv_run (c := 64) r47 (by omega)
  try (go_wp2_with fail)
  refine hK.out _ _ (by first | exact Keep.of_below (Below.refl _ _).drew | assumption) (fun hHeld => ?_)
  clear hK K
  try simp only [List.getElem_toArray, List.getElem_cons_succ, List.getElem_cons_zero, Act.put, List.setIfInBounds_toArray, List.set_cons_zero, List.set_cons_succ]
  refine wpAnyH_ready (rs := [48]) (by kernel_rfl) (by simp) ?_
  refine AllReadyH.cons rfl (fun K hK => ?_) AllReadyH.nil
  try simp only [List.getElem_toArray, List.getElem_cons_succ, List.getElem_cons_zero]
  go_simp
  refine hK.out _ _ (by first | exact Keep.of_below (Below.refl _ _).drew | assumption) (fun hHeld => ?_)
  clear hK K
  try simp only [List.getElem_toArray, List.getElem_cons_succ, List.getElem_cons_zero, Act.put, List.setIfInBounds_toArray, List.set_cons_zero, List.set_cons_succ]
  refine wpAnyH_take (i := 49) (v := ?_) rfl (by kernel_rfl) (by kernel_rfl) (by kernel_rfl) (fun _ _ _ h => h) (Or.inl ⟨by rfl, ?_⟩) (by assumption) ?_
  rotate_left
  · (intro wq hSw; (try dsimp only at hSw); (try simp only [List.getElem_toArray, List.getElem_cons_succ, List.getElem_cons_zero]); go_simp); try with_reducible rfl
  try simp only [List.getElem_toArray, List.getElem_cons_succ, List.getElem_cons_zero, Act.put, List.setIfInBounds_toArray, List.set_cons_zero, List.set_cons_succ]
  refine wpAnyH_take (i := 50) (v := ?_) rfl (by kernel_rfl) (by kernel_rfl) (by kernel_rfl) (fun _ _ _ h => h) (Or.inl ⟨by rfl, ?_⟩) (by assumption) ?_
  rotate_left
  · (intro wq hSw; (try dsimp only at hSw); (try simp only [List.getElem_toArray, List.getElem_cons_succ, List.getElem_cons_zero]); go_simp); try with_reducible rfl
  try simp only [List.getElem_toArray, List.getElem_cons_succ, List.getElem_cons_zero, Act.put, List.setIfInBounds_toArray, List.set_cons_zero, List.set_cons_succ]
  refine wpAnyH_take (i := 51) (v := ?_) rfl (by kernel_rfl) (by kernel_rfl) (by kernel_rfl) (fun _ _ _ h => h) (Or.inl ⟨by rfl, ?_⟩) (by assumption) ?_
  rotate_left
  · (intro wq hSw; (try dsimp only at hSw); (try simp only [List.getElem_toArray, List.getElem_cons_succ, List.getElem_cons_zero]); go_simp); try with_reducible rfl
  try simp only [List.getElem_toArray, List.getElem_cons_succ, List.getElem_cons_zero, Act.put, List.setIfInBounds_toArray, List.set_cons_zero, List.set_cons_succ]
  refine wpAnyH_take (i := 52) (v := ?_) rfl (by kernel_rfl) (by kernel_rfl) (by kernel_rfl) (fun _ _ _ h => h) (Or.inl ⟨by rfl, ?_⟩) (by assumption) ?_
  rotate_left
  · (intro wq hSw; (try dsimp only at hSw); (try simp only [List.getElem_toArray, List.getElem_cons_succ, List.getElem_cons_zero]); go_simp); try with_reducible rfl
  try simp only [List.getElem_toArray, List.getElem_cons_succ, List.getElem_cons_zero, Act.put, List.setIfInBounds_toArray, List.set_cons_zero, List.set_cons_succ]
  refine wpAnyH_ready (rs := [53]) (by kernel_rfl) (by simp) ?_
  refine AllReadyH.cons rfl (fun K hK => ?_) AllReadyH.nil
  try simp only [List.getElem_toArray, List.getElem_cons_succ, List.getElem_cons_zero]
  go_simp
  refine (aflush_any (Lib.hid ⟨v, Fs, ps, HB.out.below B47⟩) hk hk2 hcl).mono ?_
  rintro e w53 ⟨rfl, U5, A5, hU5, K5⟩
  rw [hal]
  have K53 : Keep U wl w53 := K47.trans K5 (fun k h _ => h)
  try (go_wp2_with fail)
  refine hK.out _ _ (by first | exact Keep.of_below (Below.refl _ _).drew | assumption) (fun hHeld => ?_)
  clear hK K
  try simp only [List.getElem_toArray, List.getElem_cons_succ, List.getElem_cons_zero, Act.put, List.setIfInBounds_toArray, List.set_cons_zero, List.set_cons_succ]
  refine wpAnyH_take (i := 54) (v := ?_) rfl (by kernel_rfl) (by kernel_rfl) (by kernel_rfl) (fun _ _ _ h => h) (Or.inl ⟨by rfl, ?_⟩) (by assumption) ?_
  rotate_left
  · (intro wq hSw; (try dsimp only at hSw); (try simp only [List.getElem_toArray, List.getElem_cons_succ, List.getElem_cons_zero]); go_simp); try with_reducible rfl
  try simp only [List.getElem_toArray, List.getElem_cons_succ, List.getElem_cons_zero, Act.put, List.setIfInBounds_toArray, List.set_cons_zero, List.set_cons_succ]
  refine wpAnyH_take (i := 55) (v := ?_) rfl (by kernel_rfl) (by kernel_rfl) (by kernel_rfl) (fun _ _ _ h => h) (Or.inl ⟨by rfl, ?_⟩) (by assumption) ?_
  rotate_left
  · (intro wq hSw; (try dsimp only at hSw); (try simp only [List.getElem_toArray, List.getElem_cons_succ, List.getElem_cons_zero]); go_simp); try with_reducible rfl
  try simp only [List.getElem_toArray, List.getElem_cons_succ, List.getElem_cons_zero, Act.put, List.setIfInBounds_toArray, List.set_cons_zero, List.set_cons_succ]
  refine wpAnyH_take (i := 56) (v := ?_) rfl (by kernel_rfl) (by kernel_rfl) (by kernel_rfl) (fun _ _ _ h => h) (Or.inl ⟨by rfl, ?_⟩) (by assumption) ?_
  rotate_left
  · (intro wq hSw; (try dsimp only at hSw); (try simp only [List.getElem_toArray, List.getElem_cons_succ, List.getElem_cons_zero]); go_simp); try with_reducible rfl
  try simp only [List.getElem_toArray, List.getElem_cons_succ, List.getElem_cons_zero, Act.put, List.setIfInBounds_toArray, List.set_cons_zero, List.set_cons_succ]
  refine wpAnyH_ready (rs := [57]) (by kernel_rfl) (by simp) ?_
  refine AllReadyH.cons rfl (fun K hK => ?_) AllReadyH.nil
  try simp only [List.getElem_toArray, List.getElem_cons_succ, List.getElem_cons_zero]
  go_simp
  refine (anew_none 2 _).mono ?_
  rintro e w57 ⟨rfl, t57⟩
  have K57 : Keep U wl w57 := K53.trans (G := fun _ => False) (Keep.of_below t57) (fun _ h => h.elim)
  try (go_wp2_with fail)
  refine hK.out _ _ (by first | exact Keep.of_below (Below.refl _ _).drew | assumption) (fun hHeld => ?_)
  clear hK K
  try simp only [List.getElem_toArray, List.getElem_cons_succ, List.getElem_cons_zero, Act.put, List.setIfInBounds_toArray, List.set_cons_zero, List.set_cons_succ]
  refine wpAnyH_take (i := 58) (v := ?_) rfl (by kernel_rfl) (by kernel_rfl) (by kernel_rfl) (fun _ _ _ h => h) (Or.inl ⟨by rfl, ?_⟩) (by assumption) ?_
  rotate_left
  · (intro wq hSw; (try dsimp only at hSw); (try simp only [List.getElem_toArray, List.getElem_cons_succ, List.getElem_cons_zero]); go_simp); try with_reducible rfl
  try simp only [List.getElem_toArray, List.getElem_cons_succ, List.getElem_cons_zero, Act.put, List.setIfInBounds_toArray, List.set_cons_zero, List.set_cons_succ]
  refine wpAnyH_take (i := 59) (v := ?_) rfl (by kernel_rfl) (by kernel_rfl) (by kernel_rfl) (fun _ _ _ h => h) (Or.inl ⟨by rfl, ?_⟩) (by assumption) ?_
  rotate_left
  · (intro wq hSw; (try dsimp only at hSw); (try simp only [List.getElem_toArray, List.getElem_cons_succ, List.getElem_cons_zero]); go_simp); try with_reducible rfl
  try simp only [List.getElem_toArray, List.getElem_cons_succ, List.getElem_cons_zero, Act.put, List.setIfInBounds_toArray, List.set_cons_zero, List.set_cons_succ]
  refine wpAnyH_take (i := 60) (v := ?_) rfl (by kernel_rfl) (by kernel_rfl) (by kernel_rfl) (fun _ _ _ h => h) (Or.inl ⟨by rfl, ?_⟩) (by assumption) ?_
  rotate_left
  · (intro wq hSw; (try dsimp only at hSw); (try simp only [List.getElem_toArray, List.getElem_cons_succ, List.getElem_cons_zero]); go_simp); try with_reducible rfl
  try simp only [List.getElem_toArray, List.getElem_cons_succ, List.getElem_cons_zero, Act.put, List.setIfInBounds_toArray, List.set_cons_zero, List.set_cons_succ]
  refine wpAnyH_done (by kernel_rfl) ?_ _
  go_wp2_with fail
  go_ret
  exact ⟨rfl, Tl.out.trans (K57.below Tl.out.size hU.out)⟩
end Go.Proofs.Ytolmpopjonkfgaa

set_option linter.unusedSimpArgs false
set_option linter.unusedVariables false
namespace Go.Proofs.Ytolmpopjonkfgaa
open Go.RowKit Go.Cib
attribute [local go_sem] cell_set Later.cell Later.frozen Grw.cell Grw.frozen

/-- Each drive is as new, or dead. -/
def NewOrGone (s : Nat) (sts : List DSt) : Prop := ∀ st ∈ sts, st = DSt.new s ∨ st = DSt.gone s
theorem NewOrGone.rep (n s : Nat) : NewOrGone s (List.replicate n (DSt.new s)) := fun st h => .inl (List.eq_of_mem_replicate h)
theorem NewOrGone.fail {s : Nat} {sts : List DSt} (h : NewOrGone s sts) (d : Int) : NewOrGone s (failA s sts d) := by
  unfold failA
  split
  · intro st hst
    rcases List.mem_or_eq_of_mem_set hst with h1 | h1
    · exact h st h1
    · exact .inr h1
  · exact h
theorem failA_len (s : Nat) (sts : List DSt) (d : Int) : (failA s sts d).length = sts.length := by unfold failA; split <;> simp
theorem NewOrGone.cache {s : Nat} {sts : List DSt} (h : NewOrGone s sts) : ∀ st ∈ sts, st.cache.length < 1000000 := by
  intro st hst
  rcases h st hst with rfl | rfl <;> simp [DSt.new, DSt.gone]

section
variable {s z : Nat} {x : List Int}
theorem putG_new (hz : z < s) (rows : List (List Int)) (d : Nat) (hx : (rAt rows d).length = 64) : putG s z rows d (DSt.new s) = (DSt.new s).write z (rAt rows d) := by
  have h1 : readyE (DSt.new s).dead s z = 0 := (ready_iff (DSt.new s) s z).2 ⟨rfl, by omega, by omega⟩
  unfold putG wrDA
  rw [if_pos (by omega), if_pos ⟨h1, hx⟩]
theorem putG_gone (rows : List (List Int)) (d : Nat) : putG s z rows d (DSt.gone s) = DSt.gone s := by
  have h1 : ¬ readyE (DSt.gone s).dead s z = 0 := fun h => by have := (ready_iff (DSt.gone s) s z).1 h; exact absurd this.1 (by simp [DSt.gone])
  unfold putG wrDA
  split
  · rw [if_neg (fun h => h1 h.1)]
  · rfl
theorem putOk_new (hz : z < s) (rows : List (List Int)) (d : Nat) (hx : (rAt rows d).length = 64) : putOk s z rows d (DSt.new s) = true := by
  have h1 : readyE (DSt.new s).dead s z = 0 := (ready_iff (DSt.new s) s z).2 ⟨rfl, by omega, by omega⟩
  unfold putOk writeE
  simp [hx, h1]
theorem putOk_gone (rows : List (List Int)) (d : Nat) : putOk s z rows d (DSt.gone s) = false := by
  have h1 : readyE (DSt.gone s).dead s z ≠ 0 := fun h => by have := (ready_iff (DSt.gone s) s z).1 h; exact absurd this.1 (by simp [DSt.gone])
  unfold putOk writeE
  simp [h1]
theorem seen_one (hz : z < s) (x : List Int) (keep : Nat → Bool) (h0 : keep 0 = true) : (((DSt.new s).write z x).settle keep).seen z = x := by
  rw [crash_one (DSt.new s) rfl z x keep (n := s) (by simp [DSt.new]) hz, if_pos ⟨h0, rfl⟩]
theorem settle_seen (st : DSt) (h : st.cache = []) (keep : Nat → Bool) (k : Nat) : (st.settle keep).seen k = st.seen k := by
  rw [DSt.seen_settle, h, DSt.seen_nil h]; rfl
theorem settle_gone (keep : Nat → Bool) : (DSt.gone s).settle keep = DSt.gone s := rfl
def fin4 (s z : Nat) (rows : List (List Int)) (d : Nat) (st : DSt) : DSt := crashG [] d (flushG (putG s z rows d st))
def finB (s z : Nat) (rows : List (List Int)) (lk : List (List Bool)) (d : Nat) (st : DSt) : DSt := crashG lk d (putG s z rows d st)
theorem fin4_new (hz : z < s) (rows : List (List Int)) (d : Nat) (hx : (rAt rows d).length = 64) : readL (fin4 s z rows d (DSt.new s)) s z = rAt rows d ∧ (fin4 s z rows d (DSt.new s)).dead = false := by
  have hd : (fin4 s z rows d (DSt.new s)).dead = false := by
    unfold fin4
    rw [putG_new hz rows d hx]; rfl
  have h1 : readyE (fin4 s z rows d (DSt.new s)).dead s z = 0 := (ready_iff _ s z).2 ⟨hd, by omega, by omega⟩
  refine ⟨?_, hd⟩
  unfold readL
  rw [if_pos h1, Int.toNat_natCast]
  unfold fin4
  rw [putG_new hz rows d hx]
  show ((((DSt.new s).write z (rAt rows d)).settle (fun _ => true)).settle _).seen z = _
  rw [settle_seen _ rfl]
  exact seen_one hz _ _ rfl
theorem fin4_gone (rows : List (List Int)) (d : Nat) : readL (fin4 s z rows d (DSt.gone s)) s z = [] ∧ (fin4 s z rows d (DSt.gone s)).dead = true := by
  have e : fin4 s z rows d (DSt.gone s) = DSt.gone s := by
    unfold fin4
    rw [putG_gone]; rfl
  rw [e]
  refine ⟨?_, rfl⟩
  unfold readL
  rw [if_neg (fun h => by have := (ready_iff (DSt.gone s) s z).1 h; exact absurd this.1 (by simp [DSt.gone]))]
theorem finB_new (hz : z < s) (rows : List (List Int)) (lk : List (List Bool)) (d : Nat) (hx : (rAt rows d).length = 64) (hk : kAt lk d = [true]) : readL (finB s z rows lk d (DSt.new s)) s z = rAt rows d := by
  have hd : (finB s z rows lk d (DSt.new s)).dead = false := by
    unfold finB
    rw [putG_new hz rows d hx]; rfl
  have h1 : readyE (finB s z rows lk d (DSt.new s)).dead s z = 0 := (ready_iff _ s z).2 ⟨hd, by omega, by omega⟩
  unfold readL
  rw [if_pos h1, Int.toNat_natCast]
  unfold finB
  rw [putG_new hz rows d hx]
  exact seen_one hz _ _ (by rw [hk]; rfl)
theorem finB_gone (rows : List (List Int)) (lk : List (List Bool)) (d : Nat) : readL (finB s z rows lk d (DSt.gone s)) s z = [] := by
  have e : finB s z rows lk d (DSt.gone s) = DSt.gone s := by
    unfold finB
    rw [putG_gone]; rfl
  rw [e]
  unfold readL
  rw [if_neg (fun h => by have := (ready_iff (DSt.gone s) s z).1 h; exact absurd this.1 (by simp [DSt.gone]))]
end

/-- Two arrays apart, made since w0; what lies in [B, Q) is neither's. -/
structure Duo (w0 : World) (B Q : Nat) (U V : Nat → Prop) (wr : World) (a b s : Nat) (sa sb : List DSt) : Prop where
  da : ArrAt U wr a s sa
  db : ArrAt V wr b s sb
  dis : ∀ k, U k → ¬ V k
  u1 : ∀ k, U k → w0.heap.size ≤ k
  u2 : ∀ k, U k → k < Q → k < B
  v1 : ∀ k, V k → Q ≤ k
  below : Below w0.heap.size w0 wr
  hQ : Q ≤ wr.heap.size
  h0 : w0.heap.size ≤ Q
theorem Duo.later {w0 : World} {B Q : Nat} {U V : Nat → Prop} {wr w2 : World} {a b s : Nat} {sa sb : List DSt} (h : Duo w0 B Q U V wr a b s sa sb) (hb : Below wr.heap.size wr w2) : Duo w0 B Q U V w2 a b s sa sb :=
  ⟨h.da.below hb, h.db.below hb, h.dis, h.u1, h.u2, h.v1, h.below.trans (hb.mono h.below.size), Nat.le_trans h.hQ hb.size, h.h0⟩
theorem Duo.updA {w0 : World} {B Q : Nat} {U V : Nat → Prop} {wr w2 : World} {a b s : Nat} {sa sb sa' : List DSt} (h : Duo w0 B Q U V wr a b s sa sb) (hu : AUpd U wr w2 a s sa') : ∃ U', Duo w0 B Q U' V w2 a b s sa' sb ∧ Keep U wr w2 := by
  obtain ⟨U', hA, hU, hK⟩ := hu
  have hs := h.below.size
  have hQ := h.hQ
  refine ⟨U', ⟨hA, h.db.keep hK (fun k hv hu => h.dis k hu hv), fun k hu hv => h.dis k (hU k hu (h.db.lt hv)) hv, fun k hu => ?_, fun k hu hlt => h.u2 k (hU k hu (by omega)) hlt, h.v1, h.below.trans (hK.below hs h.u1), Nat.le_trans h.hQ hK.size, h.h0⟩, hK⟩
  by_cases hlt : k < wr.heap.size
  · exact h.u1 k (hU k hu hlt)
  · omega
theorem Duo.updB {w0 : World} {B Q : Nat} {U V : Nat → Prop} {wr w2 : World} {a b s : Nat} {sa sb sb' : List DSt} (h : Duo w0 B Q U V wr a b s sa sb) (hu : AUpd V wr w2 b s sb') : ∃ V', Duo w0 B Q U V' w2 a b s sa sb' ∧ Keep V wr w2 := by
  obtain ⟨V', hA, hV, hK⟩ := hu
  have hs := h.below.size
  have hQ := h.hQ
  have h0 := h.h0
  refine ⟨V', ⟨h.da.keep hK (fun k hu hv => h.dis k hu hv), hA, fun k hu hv => h.dis k hu (hV k hv (h.da.lt hu)), h.u1, h.u2, fun k hv => ?_, h.below.trans (hK.below hs (fun k hv => Nat.le_trans h0 (h.v1 k hv))), Nat.le_trans h.hQ hK.size, h.h0⟩, hK⟩
  by_cases hlt : k < wr.heap.size
  · exact h.v1 k (hV k hv hlt)
  · omega

/-- Two rows that grow side by side. -/
structure Pair (B : Nat) (w : World) (vA vK : Value) (i j : Nat) (la : List (List Int)) (lk : List (List Bool)) (SA SK : Nat → Prop) : Prop where
  oA : OwnL BytesR 27 1 B SA w vA i la
  oK : OwnL BoolsR 23 1 B SK w vK j lk
  sa : ∀ b, SA b → B ≤ b ∧ b < w.heap.size ∧ some b ≠ vA.ownBlock ∧ some b ≠ vK.ownBlock
  sk : ∀ b, SK b → B ≤ b ∧ b < w.heap.size ∧ some b ≠ vA.ownBlock ∧ some b ≠ vK.ownBlock
  ne : vA.ownBlock = none ∨ vA.ownBlock ≠ vK.ownBlock
theorem Pair.nil_ (B : Nat) (w : World) : Pair B w (.slice none 0 0) (.slice none 0 0) 0 0 [] [] (fun _ => False) (fun _ => False) :=
  ⟨OwnL.nil_, OwnL.nil_, fun _ h => h.elim, fun _ h => h.elim, .inl rfl⟩
theorem Pair.later {B : Nat} {w w2 : World} {vA vK : Value} {i j : Nat} {la : List (List Int)} {lk : List (List Bool)} {SA SK : Nat → Prop} (h : Pair B w vA vK i j la lk SA SK) (hb : Below w.heap.size w w2) : Pair B w2 vA vK i j la lk SA SK :=
  ⟨h.oA.keep BytesR.stable hb, h.oK.keep BoolsR.stable hb, fun b hs => ⟨(h.sa b hs).1, Nat.lt_of_lt_of_le (h.sa b hs).2.1 hb.size, (h.sa b hs).2.2⟩, fun b hs => ⟨(h.sk b hs).1, Nat.lt_of_lt_of_le (h.sk b hs).2.1 hb.size, (h.sk b hs).2.2⟩, h.ne⟩
theorem Pair.pushA {B : Nat} {w u : World} {vA vK vN : Value} {i j b : Nat} {la : List (List Int)} {lk : List (List Bool)} {SA SK : Nat → Prop} {x : List Int} (h : Pair B w vA vK i j la lk SA SK) (h1 : B ≤ b) (h2 : b < w.heap.size) (h3 : some b ≠ vA.ownBlock) (h4 : some b ≠ vK.ownBlock)
    (hu : w.grownBy u vA.ownBlock) (hs : w.heap.size < u.heap.size) (own : OwnL BytesR 27 1 B (fun k => SA k ∨ k = b) u vN (i + 1) (la ++ [x])) (hat : vN.ownBlock = vA.ownBlock ∨ vN.ownBlock = some (w.heap.size + 1)) :
    Pair B u vN vK (i + 1) j (la ++ [x]) lk (fun k => SA k ∨ k = b) SK := by
  have hN : ∀ k, k < w.heap.size → some k ≠ vA.ownBlock → some k ≠ vN.ownBlock := fun k hk hn e => by
    rcases hat with h5 | h5
    · exact hn (e.trans h5)
    · rw [h5] at e; injection e with e; omega
  have hkl : ∀ k, vK.ownBlock = some k → k < w.heap.size := fun k hk => (h.oK.lt k hk).2
  refine ⟨own, h.oK.other BoolsR.stable hu ?_ (fun b hs => (h.sk b hs).2.2.1) (fun _ hs _ => hs), ?_, ?_, ?_⟩
  · cases hv : vK.ownBlock with
    | none => exact .inl rfl
    | some k =>
      right
      intro e
      rcases h.ne with h5 | h5
      · rw [h5] at e; cases e
      · exact h5 (e.symm.trans hv.symm)
  · rintro k (hk | rfl)
    · obtain ⟨q1, q2, q3, q4⟩ := h.sa k hk
      exact ⟨q1, by omega, hN k q2 q3, q4⟩
    · exact ⟨h1, by omega, hN _ h2 h3, h4⟩
  · intro k hk
    obtain ⟨q1, q2, q3, q4⟩ := h.sk k hk
    exact ⟨q1, by omega, hN k q2 q3, q4⟩
  · rcases hat with h5 | h5
    · rw [h5]; exact h.ne
    · right
      intro e
      rw [h5] at e
      have := hkl _ e.symm
      omega
theorem Pair.pushK {B : Nat} {w u : World} {vA vK vN : Value} {i j b : Nat} {la : List (List Int)} {lk : List (List Bool)} {SA SK : Nat → Prop} {x : List Bool} (h : Pair B w vA vK i j la lk SA SK) (h1 : B ≤ b) (h2 : b < w.heap.size) (h3 : some b ≠ vA.ownBlock) (h4 : some b ≠ vK.ownBlock)
    (hu : w.grownBy u vK.ownBlock) (hs : w.heap.size < u.heap.size) (own : OwnL BoolsR 23 1 B (fun k => SK k ∨ k = b) u vN (j + 1) (lk ++ [x])) (hat : vN.ownBlock = vK.ownBlock ∨ vN.ownBlock = some (w.heap.size + 1)) :
    Pair B u vA vN i (j + 1) la (lk ++ [x]) SA (fun k => SK k ∨ k = b) := by
  have hN : ∀ k, k < w.heap.size → some k ≠ vK.ownBlock → some k ≠ vN.ownBlock := fun k hk hn e => by
    rcases hat with h5 | h5
    · exact hn (e.trans h5)
    · rw [h5] at e; injection e with e; omega
  have hkl : ∀ k, vA.ownBlock = some k → k < w.heap.size := fun k hk => (h.oA.lt k hk).2
  refine ⟨h.oA.other BytesR.stable hu ?_ (fun b hs => (h.sa b hs).2.2.2) (fun _ hs _ => hs), own, ?_, ?_, ?_⟩
  · exact h.ne
  · intro k hk
    obtain ⟨q1, q2, q3, q4⟩ := h.sa k hk
    exact ⟨q1, by omega, q3, hN k q2 q4⟩
  · rintro k (hk | rfl)
    · obtain ⟨q1, q2, q3, q4⟩ := h.sk k hk
      exact ⟨q1, by omega, q3, hN k q2 q4⟩
    · exact ⟨h1, by omega, h3, hN _ h2 h4⟩
  · rcases hat with h5 | h5
    · rw [h5]; exact h.ne
    · cases hv : vA.ownBlock with
      | none => exact .inl rfl
      | some k =>
        right
        intro e
        have := hkl k hv
        rw [h5] at e
        injection e with e
        omega
/-- A fresh block is none of a pair's. -/
theorem Pair.fresh {B : Nat} {w : World} {vA vK : Value} {i j : Nat} {la : List (List Int)} {lk : List (List Bool)} {SA SK : Nat → Prop} (h : Pair B w vA vK i j la lk SA SK) {b : Nat} (hb : w.heap.size ≤ b) : some b ≠ vA.ownBlock ∧ some b ≠ vK.ownBlock :=
  ⟨fun e => by have := (h.oA.lt b e.symm).2; omega, fun e => by have := (h.oK.lt b e.symm).2; omega⟩
/-- As readings: what lies between B and Q. -/
theorem Pair.rdA {B : Nat} {w : World} {vA vK : Value} {i j : Nat} {la : List (List Int)} {lk : List (List Bool)} {SA SK : Nat → Prop} (h : Pair B w vA vK i j la lk SA SK) : ∃ A c, vA = .slice A i c ∧ RdL BytesR 1 (fun b => B ≤ b ∧ b < w.heap.size) w A i la := by
  obtain ⟨A, c, e, _, hr⟩ := h.oA.rd (S' := (B ≤ ·)) (fun k hk => hk) (fun cs x ⟨A, m, c, e, hr⟩ => ⟨A, m, c, e, hr.weaken U8R.stable (fun b hb => (h.sa b hb.1).1)⟩)
  exact ⟨A, c, e, hr.stable BytesR.stable (fun b hb hlt => ⟨⟨hb, hlt⟩, rfl⟩)⟩
theorem Pair.rdK {B : Nat} {w : World} {vA vK : Value} {i j : Nat} {la : List (List Int)} {lk : List (List Bool)} {SA SK : Nat → Prop} (h : Pair B w vA vK i j la lk SA SK) : ∃ A c, vK = .slice A j c ∧ RdL BoolsR 1 (fun b => B ≤ b ∧ b < w.heap.size) w A j lk := by
  obtain ⟨A, c, e, _, hr⟩ := h.oK.rd (S' := (B ≤ ·)) (fun k hk => hk) (fun cs x ⟨A, m, c, e, hr⟩ => ⟨A, m, c, e, hr.weaken BoolR.stable (fun b hb => (h.sk b hb.1).1)⟩)
  exact ⟨A, c, e, hr.stable BoolsR.stable (fun b hb hlt => ⟨⟨hb, hlt⟩, rfl⟩)⟩
theorem ownL_wide2 {X : Type} {R : (Nat → Prop) → World → List Value → X → Prop} {E : TypeId} {s base : Nat} {S T : Nat → Prop} {w : World} {v : Value} {n : Nat} {xs : List X} (hR : Stable R) (h : OwnL R E s base S w v n xs) (hS : ∀ b, S b → T b) : OwnL R E s base T w v n xs := by
  obtain ⟨css, h1, h2, h3, h4, h5⟩ := h
  exact ⟨css, h1, h2, h3, h4, fun i cs x hc hx => hR _ _ _ _ _ _ (h5 i cs x hc hx) fun b hb _ => ⟨⟨hS b hb.1, hb.2⟩, rfl⟩⟩
theorem slRows : SlTy Try.prog 63 27 (.slice none 0 0) 1 24 := ⟨Try.underlying63, by kernel_rfl, rfl, by omega⟩
theorem slKeeps : SlTy Try.prog 64 23 (.slice none 0 0) 1 24 := ⟨Try.underlying64, by kernel_rfl, rfl, by omega⟩
end Go.Proofs.Ytolmpopjonkfgaa

set_option linter.unusedSimpArgs false
set_option linter.unusedVariables false
namespace Go.Proofs.Ytolmpopjonkfgaa
open Go.RowKit Go.Cib
attribute [local go_sem] cell_set Later.cell Later.frozen Grw.cell Grw.frozen

set_option maxRecDepth 100000 in
theorem rows_bad (n s z c : Int) (A : Option Addr) (m cc : Nat) (w : World) (h : ¬ (1 ≤ n ∧ n ≤ 12 ∧ 1 ≤ s ∧ s ≤ 10 ∧ 0 ≤ z ∧ z < s ∧ m ≤ 30)) :
    Calls Try.prog 7 #[.int .i64 n, .int .i64 s, .int .i64 z, .slice A m cc, .int .u8 c] w fun e w' => e = .returned (.bool true) ∧ Below w.heap.size w w' := by
  by_cases h0 : n < 1
  · have d0 : decide (n < 1) = true := by simpa using h0
    go_enter Try.func7, Try.ntmps7
    go_wp2_with fail
    refine (stands_any w).mono ?_
    rintro e w' ⟨rfl, hb⟩
    go_wp2_with fail
    go_ret
    exact ⟨rfl, hb⟩
  have d0 : decide (n < 1) = false := by simpa using h0
  by_cases h1 : 12 < n
  · have d1 : decide (12 < n) = true := by simpa using h1
    go_enter Try.func7, Try.ntmps7
    go_wp2_with fail
    refine (stands_any w).mono ?_
    rintro e w' ⟨rfl, hb⟩
    go_wp2_with fail
    go_ret
    exact ⟨rfl, hb⟩
  have d1 : decide (12 < n) = false := by simpa using h1
  by_cases h2 : s < 1
  · have d2 : decide (s < 1) = true := by simpa using h2
    go_enter Try.func7, Try.ntmps7
    go_wp2_with fail
    refine (stands_any w).mono ?_
    rintro e w' ⟨rfl, hb⟩
    go_wp2_with fail
    go_ret
    exact ⟨rfl, hb⟩
  have d2 : decide (s < 1) = false := by simpa using h2
  by_cases h3 : 10 < s
  · have d3 : decide (10 < s) = true := by simpa using h3
    go_enter Try.func7, Try.ntmps7
    go_wp2_with fail
    refine (stands_any w).mono ?_
    rintro e w' ⟨rfl, hb⟩
    go_wp2_with fail
    go_ret
    exact ⟨rfl, hb⟩
  have d3 : decide (10 < s) = false := by simpa using h3
  by_cases h4 : z < 0
  · have d4 : decide (z < 0) = true := by simpa using h4
    go_enter Try.func7, Try.ntmps7
    go_wp2_with fail
    refine (stands_any w).mono ?_
    rintro e w' ⟨rfl, hb⟩
    go_wp2_with fail
    go_ret
    exact ⟨rfl, hb⟩
  have d4 : decide (z < 0) = false := by simpa using h4
  by_cases h5 : s ≤ z
  · have d5 : decide (s ≤ z) = true := by simpa using h5
    go_enter Try.func7, Try.ntmps7
    go_wp2_with fail
    refine (stands_any w).mono ?_
    rintro e w' ⟨rfl, hb⟩
    go_wp2_with fail
    go_ret
    exact ⟨rfl, hb⟩
  have d5 : decide (s ≤ z) = false := by simpa using h5
  have d9 : decide ((30 : Int) < (m : Int)) = true := decide_eq_true (by omega)
  go_enter Try.func7, Try.ntmps7
  go_wp2_with fail
  refine (stands_any w).mono ?_
  rintro e w' ⟨rfl, hb⟩
  go_wp2_with fail
  go_ret
  exact ⟨rfl, hb⟩

theorem int_at {S : Nat → Prop} {w : World} {A : Option Addr} {m : Nat} {xs : List Int} (h : RdL IntR 1 S w A m xs) {i : Nat} (hi : i < m) : ∃ b o x, A = some ⟨b, o, none⟩ ∧ xs[i]? = some x ∧ ∀ w', Below w.heap.size w w' → w'.cell? ⟨b, o + i, none⟩ = some (.int .i64 x) := by
  obtain ⟨b, o, rfl, _, hlt⟩ := h.addr hi
  obtain ⟨hl, cs, h1, h2, h3⟩ := h.at hi
  have h4 : cs = [.int .i64 xs[i]] := h2
  subst h4
  refine ⟨b, o, xs[i], rfl, by simp [hl], fun w' hb => ?_⟩
  have := h3 0 _ rfl
  rw [hb.cell (p := ⟨b, _, none⟩) hlt]
  simpa using this
/-- The rows that are put. -/
def laOf (c : Int) (n : Nat) : List (List Int) := (List.range n).map (fun (d : Nat) => rep ((c + (d : Int)) % 256))
theorem laOf_len (c : Int) (n : Nat) : (laOf c n).length = n := by simp [laOf]
theorem laOf_succ (c : Int) (n : Nat) : laOf c (n + 1) = laOf c n ++ [rep ((c + (n : Int)) % 256)] := by simp [laOf, List.range_succ]
theorem laOf_at (c : Int) {n d : Nat} (h : d < n) : (rAt (laOf c n) d).length = 64 ∧ (laOf c n)[d]? = some (rAt (laOf c n) d) := by
  have : (laOf c n)[d]? = some (rep ((c + (d : Int)) % 256)) := by simp [laOf, h]
  refine ⟨?_, ?_⟩
  · unfold rAt; rw [List.getD, this]; exact rep_len _
  · unfold rAt; rw [List.getD, this]; rfl
theorem lk_at {n d : Nat} (h : d < n) : kAt (List.replicate n [true]) d = [true] := by simp [kAt, List.getD, h]

set_option maxRecDepth 100000 in
set_option maxHeartbeats 16000000 in
theorem rows_good (n s z : Nat) (c : Int) (A0 : Option Addr) (m cc0 : Nat) (w : World) (h1 : 1 ≤ n) (h12 : n ≤ 12) (hs1 : 1 ≤ s) (hs10 : s ≤ 10) (hz : z < s) (hm : m ≤ 30) {gone : List Int} (R0 : Hid (RdL IntR 1 (fun _ => True) w A0 m gone)) :
    Calls Try.prog 7 #[.int .i64 n, .int .i64 s, .int .i64 z, .slice A0 m cc0, .int .u8 c] w fun e w' => e = .returned (.bool true) ∧ Below w.heap.size w w' := by
  have d0 : (1 : Int) ≤ n := by omega
  have d1 : (n : Int) ≤ 12 := by omega
  have d2 : (1 : Int) ≤ s := by omega
  have d3 : (s : Int) ≤ 10 := by omega
  have d4 : (0 : Int) ≤ z := by omega
  have d5 : (z : Int) < s := by omega
  have d6 : (m : Int) ≤ 30 := by omega
  have hnew := anew_any n s h1 (by omega) hs1 (by omega) w
  go_enter Try.func7, Try.ntmps7
  go_wp2_with fail
  refine hnew.mono ?_
  rintro e w1 ⟨a, U, rfl, A1, hU1, t1⟩
  have HA := Lib.hid A1
  have HU := Lib.hid hU1
  have T1 := Lib.hid t1
  clear hnew A1 hU1 t1
  go_wp2_with fail
  go_loopw [12] (fun vi wr => ∃ (i : Nat) (U : Nat → Prop) (sts : List DSt), i ≤ m ∧ vi = .int .i64 i ∧ sts.length = n ∧ Hid (ArrAt U wr a s sts) ∧ Hid (∀ b, U b → w.heap.size ≤ b) ∧ Hid (NewOrGone s sts) ∧ Hid (Below w.heap.size w wr)) (fun vi _ => m - (intOf vi).toNat)
  case atStart => exact ⟨0, U, _, Nat.zero_le _, rfl, by simp, HA, HU, Lib.hid (NewOrGone.rep n s), T1⟩
  case round =>
    clear HA HU T1
    obtain ⟨wo, rfl⟩ : ∃ wo, wo = wr := ⟨_, rfl⟩
    obtain ⟨i, U, sts, hi, rfl, hln, HA, HU, HN, T⟩ := hrel
    by_cases hlt : i < m
    · obtain ⟨b, o, x, rfl, hx, hcell⟩ := int_at R0.out hlt
      have y0 := hcell wo T.out
      have q1 : (i : Int) < (m : Int) := by omega
      have q2 : (0 : Int) ≤ (i : Int) := Int.natCast_nonneg _
      clear hcell hx
      go_wp2_with fail
      refine (afail_any HA (by omega) x).mono ?_
      rintro e w2 ⟨rfl, U2, A2, hU2, K2⟩
      have HA2 := Lib.hid A2
      have hT := T.out.size
      have HU2 : Hid (∀ b, U2 b → w.heap.size ≤ b) := Lib.hid fun b hb => by
        by_cases hlt : b < wo.heap.size
        · exact HU.out b (hU2 b hb hlt)
        · have := K2.size; omega
      have T2 := Lib.hid (T.out.trans (K2.below hT HU.out))
      clear A2 hU2 K2 y0 hT
      go_wp2_with fail
      exact ⟨⟨i + 1, U2, failA s sts x, by omega, by go_num, by rw [failA_len]; exact hln, HA2, HU2, Lib.hid (HN.out.fail x), T2⟩, by simp [intOf]; omega⟩
    · obtain rfl : i = m := by omega
      have q1 : ¬ (i : Int) < (i : Int) := by omega
      obtain ⟨v, Fs, ps, hB⟩ := HA.out
      have halive := aalive_any (Lib.hid hB) (by omega) (by omega)
      clear hB
      go_wp2_with fail
      refine halive.mono ?_
      rintro e w2 ⟨rfl, t2⟩
      have HA2 := Lib.hid (HA.out.below t2)
      have T2 := Lib.hid (T.out.trans (t2.mono T.out.size))
      have hUB : Hid (∀ b, U b → b < w2.heap.size) := Lib.hid fun b hb => HA2.out.lt hb
      obtain ⟨al, hal⟩ : ∃ k, cnt (aliveL sts) = k := ⟨_, rfl⟩
      have HAL := Lib.hid hal
      rw [hal]
      have hal12 : al ≤ 12 := by have := cnt_le (aliveL sts); rw [hal] at this; have h2 : (aliveL sts).length = sts.length := (by simp [aliveL]); omega
      clear halive t2 HA T q1 hal
      go_wp2_with fail
      go_loopw [14, 15, 16] (fun va vk vi wr => ∃ (i : Nat) (SA SK : Nat → Prop), i ≤ n ∧ vi = .int .i64 i ∧ Hid (Pair w2.heap.size wr va vk i i (laOf c i) (List.replicate i [true]) SA SK) ∧ Hid (Below w2.heap.size w2 wr)) (fun _ _ vi _ => n - (intOf vi).toNat)
      case atStart => exact ⟨0, _, _, Nat.zero_le _, rfl, Lib.hid (Pair.nil_ _ _), Lib.hid (Below.refl _ _)⟩
      case round =>
        obtain ⟨wo2, rfl⟩ : ∃ wo2, wo2 = wr := ⟨_, rfl⟩
        obtain ⟨j, SA, SK, hj, rfl, PR, T3⟩ := hrel
        by_cases hlt2 : j < n
        · obtain ⟨AA, ca, rfl, _⟩ := PR.out.oA.form
          obtain ⟨AK, ck, rfl, _⟩ := PR.out.oK.form
          have q1 : (j : Int) < (n : Int) := by omega
          have q2 : (0 : Int) ≤ (j : Int) := Int.natCast_nonneg _
          have q3 : (j : Int) < 12 := by omega
          go_wp2_with fail
          refine (full_at _ wo2).mono ?_
          rintro e w3 ⟨b3, o3, rfl, l3, l3', r3, t3⟩
          have PR3 := PR.out.later t3
          have hf3 := PR.out.fresh l3
          have T4 := T3.out.trans (t3.mono T3.out.size)
          have hB3 : w2.heap.size ≤ b3 := Nat.le_trans T3.out.size l3
          have ow := ownL_wide2 (T := fun k => SA k ∨ k = b3) BytesR.stable PR3.oA (fun b h => .inl h)
          have hyA : BytesR (Go.Cib.Rest (fun k => SA k ∨ k = b3) (.slice AA j ca)) w3 [.slice (some ⟨b3, o3, none⟩) 64 64] (rep ((c + (j : Int)) % 256)) := ⟨_, _, _, rfl, r3.weaken U8R.stable (by rintro k rfl; exact ⟨.inr rfl, hf3.1⟩)⟩
          have hs24 := T4.size
          clear r3 t3 l3
          go_wp2_with (at_builtin; first | (refine wpList_push1 BytesR.stable BytesR.one slRows (by rfl) (by rfl) (base := w2.heap.size) (S := fun k => SA k ∨ k = b3) (cs := #[.slice (some ⟨b3, o3, none⟩) 64 64]) (y := rep ((c + (j : Int)) % 256)) (by rfl) (by rfl) ow (by rfl) hyA (by unfold maxLen; omega) (by omega) hs24 ?_; intro A11 c11 u11 hc11 own11 hlt11 hb11 hat11; have PR4 := PR3.pushA hB3 l3' hf3.1 hf3.2 u11.ok hlt11 own11 hat11; have PR5 := PR4.later ((Below.refl _ _).alloc (Nat.le_refl _) (.cells #[.bool true] 4)); have hf5 := PR4.fresh (Nat.le_refl _); have ow2 := ownL_wide2 (T := fun k => SK k ∨ k = u11.to.heap.size) BoolsR.stable PR5.oK (fun b h => .inl h); have hyK : BoolsR (Go.Cib.Rest (fun k => SK k ∨ k = u11.to.heap.size) (.slice AK j ck)) (u11.to.alloc (.cells #[.bool true] 4)) [.slice (some ⟨u11.to.heap.size, 0, none⟩) 1 1] [true] := ⟨_, _, _, rfl, BoxAt.bools (xs := [true]) (by simpa using BoxAt.new u11.to #[.bool true] 4) ⟨.inr rfl, hf5.2⟩⟩; have hsK : w2.heap.size ≤ (u11.to.alloc (.cells #[.bool true] 4)).heap.size := by (simp; omega)) | (go_must (refine wpList_push1 BoolsR.stable BoolsR.one slKeeps (by rfl) (by rfl) (base := w2.heap.size) (S := fun k => SK k ∨ k = u11.to.heap.size) (cs := #[.slice (some ⟨u11.to.heap.size, 0, none⟩) 1 1]) (y := [true]) (by rfl) (by rw [World.size_alloc]; rfl) ow2 (by rfl) hyK (by unfold maxLen; omega) (by omega) hsK ?_); intro A15 c15 u15 hc15 own15 hlt15 hb15 hat15))
          have PR6 := PR5.pushK (Nat.le_trans hs24 (by omega)) (by simp) hf5.1 hf5.2 u15.ok hlt15 own15 hat15
          have T6 : Below w2.heap.size w2 u15.to := T4.trans ((hb11.alloc (by omega) _).trans hb15)
          exact ⟨⟨j + 1, _, _, by omega, by go_num, Lib.hid (by rw [laOf_succ, List.replicate_succ']; exact PR6), Lib.hid T6⟩, by simp [intOf]; omega⟩
        · obtain rfl : j = n := by omega
          have q1 : ¬ (j : Int) < (j : Int) := by omega
          obtain ⟨AA, ca, rfl, RA⟩ := PR.out.rdA
          obtain ⟨AK, ck, rfl, RK⟩ := PR.out.rdK
          have HA3 := Lib.hid (HA2.out.below T3.out)
          have hnB : ∀ b, w2.heap.size ≤ b ∧ b < wo2.heap.size → ¬ U b ∧ b < wo2.heap.size := fun b hb => ⟨fun hu => by have := hUB.out b hu; omega, hb.2⟩
          have hcnt : cnt (sts.mapIdx (putOk s z (laOf c j))) = al := by
            rw [← HAL.out]
            congr 1
            apply List.ext_getElem?
            intro d
            rw [List.getElem?_mapIdx, aliveL, List.getElem?_map]
            cases hd : sts[d]? with
            | none => rfl
            | some st =>
              have hdl : d < j := by have := (List.getElem?_eq_some_iff.1 hd).1; omega
              rcases HN.out st (List.mem_of_getElem? hd) with rfl | rfl
              · simp only [Option.map_some]; rw [putOk_new hz _ d (laOf_at c hdl).1]; rfl
              · simp only [Option.map_some]; rw [putOk_gone]; rfl
          have hput := aput_any HA3 (by omega) (by omega) (Lib.hid HN.out.cache) (z : Int) (c := ca) (Lib.hid RA) hnB
          have HNB := Lib.hid hnB
          have HRA := Lib.hid RA
          have HRK := Lib.hid RK
          clear RA RK PR hnB q1
          have q1 : ¬ (j : Int) < (j : Int) := by omega
          go_wp2_with fail
          refine hput.mono ?_
          rintro e w4 ⟨rfl, U4, A4, hU4, K4⟩
          rw [hcnt]
          clear hput hcnt q1
          obtain ⟨st1, hst1⟩ : ∃ x, sts.mapIdx (putG s z (laOf c j)) = x := ⟨_, rfl⟩
          rw [hst1] at A4
          have hln1 : st1.length = j := by rw [← hst1]; simpa using hln
          have hca1 : ∀ st ∈ st1, st.cache.length < 1000000 := by
            intro st hst
            rw [← hst1] at hst
            obtain ⟨d, hd, rfl⟩ := List.mem_iff_getElem.1 hst
            rw [List.getElem_mapIdx]
            have hdl : d < sts.length := by simpa using hd
            rcases HN.out sts[d] (List.getElem_mem _) with e | e <;> rw [e]
            · rw [putG_new hz _ d (laOf_at c (by omega)).1]; simp [DSt.write, DSt.new]
            · rw [putG_gone]; simp [DSt.gone, DSt.new]
          obtain ⟨v4, Fs4, ps4, hB4⟩ := A4
          have hcopy := acopy_any (Lib.hid hB4) (by omega) (by omega) (Lib.hid hca1)
          have HB4 := Lib.hid hB4
          have HK4 := Lib.hid K4
          have HU4 := Lib.hid hU4
          clear hB4 K4 hU4
          go_wp2_with fail
          refine hcopy.mono ?_
          rintro e w5 ⟨bb, V, rfl, A5, hV5, t5⟩
          clear hcopy
          have hs23 := T3.out.size
          have hs34 := HK4.out.size
          have hs02 := T2.out.size
          have HD5 : Hid (Duo w w2.heap.size wo2.heap.size U4 V w5 a bb s st1 st1) := Lib.hid
            ⟨⟨v4, Fs4, ps4, HB4.out.below t5⟩, A5, fun k hu hv => by have := HB4.out.lt k hu; have := hV5 k hv; omega,
             fun k hu => by
               by_cases hlt : k < wo2.heap.size
               · exact HU.out k (HU4.out k hu hlt)
               · omega,
             fun k hu hlt => hUB.out k (HU4.out k hu hlt), fun k hv => by have := hV5 k hv; omega,
             (T2.out.trans (T3.out.mono hs02)).trans (((HK4.out.below (B := w.heap.size) (by omega) HU.out)).trans (t5.mono (by omega))), by have := t5.size; omega, by omega⟩
          have kee : ∀ b, w2.heap.size ≤ b ∧ b < wo2.heap.size → ¬ U b := fun b hb => (HNB.out b hb).1
          have RA5 := Lib.hid ((HRA.out.keep BytesR.stable HK4.out kee).below BytesR.stable t5)
          have RK5 := Lib.hid ((HRK.out.keep BoolsR.stable HK4.out kee).below BoolsR.stable t5)
          clear A5 hV5 t5 HB4 HK4 HU4 kee HRA HRK
          have hcr := acrash_any (Lib.hid HD5.out.db) (by omega) (by omega) (Lib.hid hca1) (c := ck) RK5 (fun b hb => ⟨fun hv => by have := HD5.out.v1 b hv; omega, by have := HD5.out.hQ; omega⟩)
          go_wp2_with fail
          refine hcr.mono ?_
          rintro e w6 ⟨rfl, u6⟩
          obtain ⟨V6, D6, K6⟩ := HD5.out.updB u6
          have HD6 := Lib.hid D6
          have RA6 := Lib.hid (RA5.out.keep BytesR.stable K6 (fun b hb hv => by have := HD5.out.v1 b hv; omega))
          clear hcr u6 D6 K6 RA5 RK5
          have hfl := aflush_any (Lib.hid HD6.out.da) (by omega) (by omega) (Lib.hid hca1)
          have hal1 : cnt (aliveL st1) = al := by
            rw [← HAL.out, ← hst1]
            congr 1
            apply List.ext_getElem?
            intro d
            rw [aliveL, List.getElem?_map, List.getElem?_mapIdx, aliveL, List.getElem?_map]
            cases hd : sts[d]? with
            | none => rfl
            | some st =>
              have hdl : d < j := by have := (List.getElem?_eq_some_iff.1 hd).1; omega
              rcases HN.out st (List.mem_of_getElem? hd) with rfl | rfl
              · simp only [Option.map_some]; rw [putG_new hz _ d (laOf_at c hdl).1]; rfl
              · simp only [Option.map_some]; rw [putG_gone]
          go_wp2_with fail
          refine hfl.mono ?_
          rintro e w7 ⟨rfl, u7⟩
          rw [hal1]
          obtain ⟨U7, D7, K7⟩ := HD6.out.updA u7
          have HD7 := Lib.hid D7
          have RA7 := Lib.hid (RA6.out.keep BytesR.stable K7 (fun b hb hu => by have := HD6.out.u2 b hu hb.2; omega))
          clear hfl u7 D7 K7 RA6 hal1
          have hcr := acrash_any (Lib.hid HD7.out.da) (by simp; omega) (by simp; omega) (Lib.hid (fun st hst => by obtain ⟨y, hy, rfl⟩ := List.mem_map.1 hst; have := hca1 y hy; unfold flushG; split <;> simp [DSt.settle]; exact this)) (S := fun _ => False) (A := none) (m := 0) (c := 0) (ks := []) (Lib.hid RdL.nil) (fun b hb => hb.elim)
          go_wp2_with fail
          refine hcr.mono ?_
          rintro e w8 ⟨rfl, u8⟩
          obtain ⟨U8, D8, K8⟩ := HD7.out.updA u8
          have HD8 := Lib.hid D8
          have RA8 := Lib.hid (RA7.out.keep BytesR.stable K8 (fun b hb hu => by have := HD7.out.u2 b hu hb.2; omega))
          clear hcr u8 D8 K8 RA7
          obtain ⟨sa, hsa⟩ : ∃ x, (st1.map flushG).mapIdx (crashG []) = x := ⟨_, rfl⟩
          obtain ⟨sb, hsb⟩ : ∃ x, st1.mapIdx (crashG (List.replicate j [true])) = x := ⟨_, rfl⟩
          rw [hsa, hsb] at HD8
          have fa : Hid (∀ d st, sts[d]? = some st → sa[d]? = some (fin4 s z (laOf c j) d st)) := Lib.hid fun d st hd => by
            rw [← hsa, ← hst1, List.getElem?_mapIdx, List.getElem?_map, List.getElem?_mapIdx, hd]; rfl
          have fb : Hid (∀ d st, sts[d]? = some st → sb[d]? = some (finB s z (laOf c j) (List.replicate j [true]) d st)) := Lib.hid fun d st hd => by
            rw [← hsb, ← hst1, List.getElem?_mapIdx, List.getElem?_mapIdx, hd]; rfl
          have hla : sa.length = j := by rw [← hsa]; simpa using hln1
          have hlb : sb.length = j := by rw [← hsb]; simpa using hln1
          clear hsa hsb hst1 hca1 hln1 HD5 HD6 HD7
          obtain ⟨va, Fa, pa, hBa⟩ := HD8.out.da
          have HBa := Lib.hid hBa
          have hrow := arow_any HBa (by omega) (by omega) (z : Int)
          clear hBa
          go_wp2_with fail
          refine hrow.mono ?_
          rintro e w9 ⟨ox, rfl, Rx, t9⟩
          rw [hla] at Rx ⊢
          have HD9 := Lib.hid (HD8.out.later t9)
          have RA9 := Lib.hid (RA8.out.below BytesR.stable t9)
          have HBa9 := Lib.hid (HBa.out.below t9)
          have RX9 := Lib.hid Rx
          clear hrow Rx t9 HD8 RA8 HBa
          obtain ⟨vb, Fb, pb, hBb⟩ := HD9.out.db
          have hrow := arow_any (Lib.hid hBb) (by omega) (by omega) (z : Int)
          clear hBb
          go_wp2_with fail
          refine hrow.mono ?_
          rintro e wl ⟨oy, rfl, Ry, tl⟩
          rw [hlb] at Ry ⊢
          have HB := Lib.hid (HBa9.out.below tl)
          have TL := Lib.hid (HD9.out.below.trans (tl.mono HD9.out.below.size))
          have RAl := Lib.hid (RA9.out.below BytesR.stable tl)
          have RXl := Lib.hid (RX9.out.below BytesR.stable tl)
          have RYl := Lib.hid Ry
          clear hrow Ry tl HD9 RA9 HBa9 RX9
          go_wp2_with fail
          go_loopw [20, 21] (fun vr vd wr => ∃ d : Nat, d ≤ j ∧ vr = .int .i64 (cnt (aliveL (sts.take d))) ∧ vd = .int .i64 d ∧ Hid (Below wl.heap.size wl wr)) (fun _ vd _ => j - (intOf vd).toNat)
          case atStart => exact ⟨0, Nat.zero_le _, rfl, rfl, Lib.hid (Below.refl _ _)⟩
          case round =>
            obtain ⟨d, hd, rfl, rfl, T9⟩ := hrel
            by_cases hlt3 : d < j
            · obtain ⟨st, hst⟩ : ∃ st, sts[d]? = some st := ⟨_, List.getElem?_eq_getElem (by omega)⟩
              have ga := fa.out d st hst
              have gb := fb.out d st hst
              have q1 : (d : Int) < (j : Int) := by omega
              have q2 : (0 : Int) ≤ (d : Int) := Int.natCast_nonneg _
              have q3 : (d : Int) < 12 := by omega
              have htk : aliveL (sts.take (d + 1)) = aliveL (sts.take d) ++ [!st.dead] := by
                rw [List.take_succ_eq_append_getElem (by omega), (List.getElem?_eq_some_iff.1 hst).2]; simp [aliveL]
              have hcs := cnt_snoc (aliveL (sts.take d)) (!st.dead)
              rw [← htk] at hcs
              have hcl := cnt_le (aliveL (sts.take d))
              have hcl2 : (aliveL (sts.take d)).length ≤ d := by simp [aliveL]; omega
              obtain ⟨C, hC⟩ : ∃ C, cnt (aliveL (sts.take d)) = C := ⟨_, rfl⟩
              rw [hC] at hcs hcl ⊢
              have hw : IntKind.i64.wrap ((C : Int) + 1) = (C : Int) + 1 := by rw [IntKind.wrap_i64]; omega
              obtain ⟨gx, ogx, xx, AX, mX, cX, ex, hxx, _, _, px, rrx⟩ := bytes_at RXl.out hlt3
              obtain ⟨gy, ogy, yy, AY, mY, cY, ey, hyy, _, _, py, rry⟩ := bytes_at RYl.out hlt3
              simp only [Option.some.injEq, Addr.mk.injEq, and_true] at ex ey
              obtain ⟨rfl, rfl⟩ := ex
              obtain ⟨rfl, rfl⟩ := ey
              rw [Nat.zero_add] at px py
              have hxl : ox < wl.heap.size := by obtain ⟨b, o, e, _, hlt⟩ := RXl.out.addr (k := 0) (by omega); simp only [Option.some.injEq, Addr.mk.injEq, and_true] at e; omega
              have hyl : oy < wl.heap.size := by obtain ⟨b, o, e, _, hlt⟩ := RYl.out.addr (k := 0) (by omega); simp only [Option.some.injEq, Addr.mk.injEq, and_true] at e; omega
              have hxe : xx = readL (fin4 s z (laOf c j) d st) s z := by
                rw [List.getElem?_map, ga] at hxx
                injection hxx with hxx; exact hxx.symm
              have hye : yy = readL (finB s z (laOf c j) (List.replicate j [true]) d st) s z := by
                rw [List.getElem?_map, gb] at hyy
                injection hyy with hyy; exact hyy.symm
              have hdead := adead_in (Lib.hid (HB.out.below T9.out)) d ga
              clear hxx hyy htk hcl hcl2 gb ga
              rcases HN.out st (List.mem_of_getElem? hst) with rfl | rfl
              · have e1 := fin4_new hz (laOf c j) d (laOf_at c hlt3).1
                rw [e1.2] at hdead
                rw [e1.1] at hxe
                rw [finB_new hz (laOf c j) _ d (laOf_at c hlt3).1 (lk_at hlt3)] at hye
                subst hxe; subst hye
                have l64 := (laOf_at c hlt3).1
                obtain rfl : 64 = mX := by rw [← l64]; exact rrx.1
                obtain rfl : 64 = mY := by rw [← l64]; exact rry.1
                obtain ⟨gl, ol, xl, AL, mL, cL, rfl, hxl2, hgl, _, pl, rrl⟩ := bytes_at RAl.out hlt3
                rw [(laOf_at c hlt3).2] at hxl2
                injection hxl2 with hxl2
                subst hxl2
                obtain rfl : 64 = mL := by rw [← l64]; exact rrl.1
                obtain ⟨X, hX⟩ : ∃ X, rAt (laOf c j) d = X := ⟨_, rfl⟩
                rw [hX] at rrx rry rrl
                clear e1 l64 hX
                have HCS := Lib.hid hcs
                have HC := Lib.hid hC
                clear hcs hC
                have TT : ∀ w3, Below wl.heap.size wl w3 → ∀ w', Below w3.heap.size w3 w' → Below wl.heap.size wl w' := fun w3 h w' h' => below_then h' h
                go_wp2_with fail
                refine hdead.mono ?_
                rintro e w3 ⟨rfl, t3⟩
                have T3w := below_then t3 T9.out
                have HT3 := Lib.hid T3w
                have px' : w3.cell? ⟨ox, d, none⟩ = some (.slice AX 64 cX) := (T3w.cell (p := ⟨ox, d, none⟩) hxl).trans px
                have p1 : ∀ w', Below w3.heap.size w3 w' → w'.cell? ⟨ox, d, none⟩ = some (.slice AX 64 cX) := fun w' h => ((TT w3 T3w w' h).cell (p := ⟨ox, d, none⟩) hxl).trans px
                have p2 : ∀ w', Below w3.heap.size w3 w' → w'.cell? ⟨oy, d, none⟩ = some (.slice AY 64 cY) := fun w' h => ((TT w3 T3w w' h).cell (p := ⟨oy, d, none⟩) hyl).trans py
                have p3 : ∀ w', Below w3.heap.size w3 w' → w'.cell? ⟨gl, ol + d, none⟩ = some (.slice AL 64 cL) := fun w' h => ((TT w3 T3w w' h).cell (p := ⟨gl, ol + d, none⟩) hgl).trans pl
                have v1 : ∀ w', Below w3.heap.size w3 w' → (convert 27 9 (.slice AX 64 cX)).run Try.prog w' = .ok (.string (strOfNums X)) w' := fun w' h => conv_run (rrx.below U8R.stable (TT w3 T3w w' h)) (by omega)
                have v2 : ∀ w', Below w3.heap.size w3 w' → (convert 27 9 (.slice AY 64 cY)).run Try.prog w' = .ok (.string (strOfNums X)) w' := fun w' h => conv_run (rry.below U8R.stable (TT w3 T3w w' h)) (by omega)
                have v3 : ∀ w', Below w3.heap.size w3 w' → (convert 27 9 (.slice AL 64 cL)).run Try.prog w' = .ok (.string (strOfNums X)) w' := fun w' h => conv_run (rrl.below U8R.stable (TT w3 T3w w' h)) (by omega)
                clear px py pl rrx rry rrl TT T3w px' hdead t3
                go_wp2_with fail
                refine wp_region_held_drew (S := fun w' => Below w3.heap.size w3 w') (by kernel_rfl) (by first | exact (Below.refl _ _).drew | assumption) (fun hHeld => ?_)
                refine wpAnyH_take (i := 0) (v := ?_) rfl (by kernel_rfl) (by kernel_rfl) (by kernel_rfl) (fun _ _ _ h => h) (Or.inl ⟨by rfl, ?_⟩) (by assumption) ?_
                rotate_left
                · (intro wq hSw; (try dsimp only at hSw); (try simp only [List.getElem_toArray, List.getElem_cons_succ, List.getElem_cons_zero]); go_simp); try with_reducible rfl
                try simp only [List.getElem_toArray, List.getElem_cons_succ, List.getElem_cons_zero, Act.put, List.setIfInBounds_toArray, List.set_cons_zero, List.set_cons_succ]
                refine wpAnyH_take (i := 1) (v := ?_) rfl (by kernel_rfl) (by kernel_rfl) (by kernel_rfl) (fun _ _ _ h => h) (Or.inl ⟨by rfl, ?_⟩) (by assumption) ?_
                rotate_left
                · (intro wq hSw; (try dsimp only at hSw); (try simp only [List.getElem_toArray, List.getElem_cons_succ, List.getElem_cons_zero]); go_simp); try with_reducible rfl
                try simp only [List.getElem_toArray, List.getElem_cons_succ, List.getElem_cons_zero, Act.put, List.setIfInBounds_toArray, List.set_cons_zero, List.set_cons_succ]
                refine wpAnyH_take (i := 2) (v := ?_) rfl (by kernel_rfl) (by kernel_rfl) (by kernel_rfl) (fun _ _ _ h => h) (Or.inl ⟨by rfl, ?_⟩) (by assumption) ?_
                rotate_left
                · (intro wq hSw; (try dsimp only at hSw); (try simp only [List.getElem_toArray, List.getElem_cons_succ, List.getElem_cons_zero]); go_simp); try with_reducible rfl
                try simp only [List.getElem_toArray, List.getElem_cons_succ, List.getElem_cons_zero, Act.put, List.setIfInBounds_toArray, List.set_cons_zero, List.set_cons_succ]
                refine wpAnyH_take (i := 3) (v := ?_) rfl (by kernel_rfl) (by kernel_rfl) (by kernel_rfl) (fun _ _ _ h => h) (Or.inl ⟨by rfl, ?_⟩) (by assumption) ?_
                rotate_left
                · (intro wq hSw; (try dsimp only at hSw); (try simp only [List.getElem_toArray, List.getElem_cons_succ, List.getElem_cons_zero]); go_simp); try with_reducible rfl
                try simp only [List.getElem_toArray, List.getElem_cons_succ, List.getElem_cons_zero, Act.put, List.setIfInBounds_toArray, List.set_cons_zero, List.set_cons_succ]
                refine wpAnyH_take (i := 4) (v := ?_) rfl (by kernel_rfl) (by kernel_rfl) (by kernel_rfl) (fun _ _ _ h => h) (Or.inl ⟨by rfl, ?_⟩) (by assumption) ?_
                rotate_left
                · (intro wq hSw; (try dsimp only at hSw); (try simp only [List.getElem_toArray, List.getElem_cons_succ, List.getElem_cons_zero]); go_simp); try with_reducible rfl
                try simp only [List.getElem_toArray, List.getElem_cons_succ, List.getElem_cons_zero, Act.put, List.setIfInBounds_toArray, List.set_cons_zero, List.set_cons_succ]
                refine wpAnyH_take (i := 5) (v := ?_) rfl (by kernel_rfl) (by kernel_rfl) (by kernel_rfl) (fun _ _ _ h => h) (Or.inl ⟨by rfl, ?_⟩) (by assumption) ?_
                rotate_left
                · (intro wq hSw; (try dsimp only at hSw); (try simp only [List.getElem_toArray, List.getElem_cons_succ, List.getElem_cons_zero]); go_simp); try with_reducible rfl
                try simp only [List.getElem_toArray, List.getElem_cons_succ, List.getElem_cons_zero, Act.put, List.setIfInBounds_toArray, List.set_cons_zero, List.set_cons_succ]
                refine wpAnyH_take (i := 6) (v := ?_) rfl (by kernel_rfl) (by kernel_rfl) (by kernel_rfl) (fun _ _ _ h => h) (Or.inl ⟨by rfl, ?_⟩) (by assumption) ?_
                rotate_left
                · (intro wq hSw; (try dsimp only at hSw); (try simp only [List.getElem_toArray, List.getElem_cons_succ, List.getElem_cons_zero]); go_simp); try with_reducible rfl
                try simp only [List.getElem_toArray, List.getElem_cons_succ, List.getElem_cons_zero, Act.put, List.setIfInBounds_toArray, List.set_cons_zero, List.set_cons_succ]
                refine wpAnyH_take (i := 7) (v := ?_) rfl (by kernel_rfl) (by kernel_rfl) (by kernel_rfl) (fun _ _ _ h => h) (Or.inl ⟨by rfl, ?_⟩) (by assumption) ?_
                rotate_left
                · (intro wq hSw; (try dsimp only at hSw); (try simp only [List.getElem_toArray, List.getElem_cons_succ, List.getElem_cons_zero]); go_simp); try with_reducible rfl
                try simp only [List.getElem_toArray, List.getElem_cons_succ, List.getElem_cons_zero, Act.put, List.setIfInBounds_toArray, List.set_cons_zero, List.set_cons_succ]
                refine wpAnyH_take (i := 8) (v := ?_) rfl (by kernel_rfl) (by kernel_rfl) (by kernel_rfl) (fun _ _ _ h => h) (Or.inl ⟨by rfl, ?_⟩) (by assumption) ?_
                rotate_left
                · (intro wq hSw; (try dsimp only at hSw); (try simp only [List.getElem_toArray, List.getElem_cons_succ, List.getElem_cons_zero]); go_simp); try with_reducible rfl
                try simp only [List.getElem_toArray, List.getElem_cons_succ, List.getElem_cons_zero, Act.put, List.setIfInBounds_toArray, List.set_cons_zero, List.set_cons_succ]
                refine wpAnyH_take (i := 9) (v := ?_) rfl (by kernel_rfl) (by kernel_rfl) (by kernel_rfl) (fun _ _ _ h => h) (Or.inl ⟨by rfl, ?_⟩) (by assumption) ?_
                rotate_left
                · (intro wq hSw; (try dsimp only at hSw); (try simp only [List.getElem_toArray, List.getElem_cons_succ, List.getElem_cons_zero]); go_simp); try with_reducible rfl
                try simp only [List.getElem_toArray, List.getElem_cons_succ, List.getElem_cons_zero, Act.put, List.setIfInBounds_toArray, List.set_cons_zero, List.set_cons_succ]
                refine wpAnyH_take (i := 10) (v := ?_) rfl (by kernel_rfl) (by kernel_rfl) (by kernel_rfl) (fun _ _ _ h => h) (Or.inl ⟨by rfl, ?_⟩) (by assumption) ?_
                rotate_left
                · (intro wq hSw; (try dsimp only at hSw); (try simp only [List.getElem_toArray, List.getElem_cons_succ, List.getElem_cons_zero]); go_simp); try with_reducible rfl
                try simp only [List.getElem_toArray, List.getElem_cons_succ, List.getElem_cons_zero, Act.put, List.setIfInBounds_toArray, List.set_cons_zero, List.set_cons_succ]
                refine wpAnyH_take (i := 11) (v := ?_) rfl (by kernel_rfl) (by kernel_rfl) (by kernel_rfl) (fun _ _ _ h => h) (Or.inl ⟨by rfl, ?_⟩) (by assumption) ?_
                rotate_left
                · (intro wq hSw; (try dsimp only at hSw); (try simp only [List.getElem_toArray, List.getElem_cons_succ, List.getElem_cons_zero]); go_simp); try with_reducible rfl
                try simp only [List.getElem_toArray, List.getElem_cons_succ, List.getElem_cons_zero, Act.put, List.setIfInBounds_toArray, List.set_cons_zero, List.set_cons_succ]
                refine wpAnyH_take (i := 12) (v := ?_) rfl (by kernel_rfl) (by kernel_rfl) (by kernel_rfl) (fun _ _ _ h => h) (Or.inl ⟨by rfl, ?_⟩) (by assumption) ?_
                rotate_left
                · (intro wq hSw; (try dsimp only at hSw); (try simp only [List.getElem_toArray, List.getElem_cons_succ, List.getElem_cons_zero]); go_simp); try with_reducible rfl
                try simp only [List.getElem_toArray, List.getElem_cons_succ, List.getElem_cons_zero, Act.put, List.setIfInBounds_toArray, List.set_cons_zero, List.set_cons_succ]
                refine wpAnyH_take (i := 13) (v := ?_) rfl (by kernel_rfl) (by kernel_rfl) (by kernel_rfl) (fun _ _ _ h => h) (Or.inl ⟨by rfl, ?_⟩) (by assumption) ?_
                rotate_left
                · (intro wq hSw; (try dsimp only at hSw); (try simp only [List.getElem_toArray, List.getElem_cons_succ, List.getElem_cons_zero]); go_simp); try with_reducible rfl
                try simp only [List.getElem_toArray, List.getElem_cons_succ, List.getElem_cons_zero, Act.put, List.setIfInBounds_toArray, List.set_cons_zero, List.set_cons_succ]
                refine wpAnyH_take (i := 14) (v := ?_) rfl (by kernel_rfl) (by kernel_rfl) (by kernel_rfl) (fun _ _ _ h => h) (Or.inl ⟨by rfl, ?_⟩) (by assumption) ?_
                rotate_left
                · (intro wq hSw; (try dsimp only at hSw); (try simp only [List.getElem_toArray, List.getElem_cons_succ, List.getElem_cons_zero]); go_simp); try with_reducible rfl
                try simp only [List.getElem_toArray, List.getElem_cons_succ, List.getElem_cons_zero, Act.put, List.setIfInBounds_toArray, List.set_cons_zero, List.set_cons_succ]
                refine wpAnyH_take (i := 15) (v := ?_) rfl (by kernel_rfl) (by kernel_rfl) (by kernel_rfl) (fun _ _ _ h => h) (Or.inl ⟨by rfl, ?_⟩) (by assumption) ?_
                rotate_left
                · (intro wq hSw; (try dsimp only at hSw); (try simp only [List.getElem_toArray, List.getElem_cons_succ, List.getElem_cons_zero]); go_simp); try with_reducible rfl
                try simp only [List.getElem_toArray, List.getElem_cons_succ, List.getElem_cons_zero, Act.put, List.setIfInBounds_toArray, List.set_cons_zero, List.set_cons_succ]
                refine wpAnyH_take (i := 16) (v := ?_) rfl (by kernel_rfl) (by kernel_rfl) (by kernel_rfl) (fun _ _ _ h => h) (Or.inl ⟨by rfl, ?_⟩) (by assumption) ?_
                rotate_left
                · (intro wq hSw; (try dsimp only at hSw); (try simp only [List.getElem_toArray, List.getElem_cons_succ, List.getElem_cons_zero]); go_simp); try with_reducible rfl
                try simp only [List.getElem_toArray, List.getElem_cons_succ, List.getElem_cons_zero, Act.put, List.setIfInBounds_toArray, List.set_cons_zero, List.set_cons_succ]
                refine wpAnyH_take (i := 17) (v := ?_) rfl (by kernel_rfl) (by kernel_rfl) (by kernel_rfl) (fun _ _ _ h => h) (Or.inl ⟨by rfl, ?_⟩) (by assumption) ?_
                rotate_left
                · (intro wq hSw; (try dsimp only at hSw); (try simp only [List.getElem_toArray, List.getElem_cons_succ, List.getElem_cons_zero]); go_simp); try with_reducible rfl
                try simp only [List.getElem_toArray, List.getElem_cons_succ, List.getElem_cons_zero, Act.put, List.setIfInBounds_toArray, List.set_cons_zero, List.set_cons_succ]
                refine wpAnyH_take (i := 18) (v := ?_) rfl (by kernel_rfl) (by kernel_rfl) (by kernel_rfl) (fun _ _ _ h => h) (Or.inl ⟨by rfl, ?_⟩) (by assumption) ?_
                rotate_left
                · (intro wq hSw; (try dsimp only at hSw); (try simp only [List.getElem_toArray, List.getElem_cons_succ, List.getElem_cons_zero]); go_simp); try with_reducible rfl
                try simp only [List.getElem_toArray, List.getElem_cons_succ, List.getElem_cons_zero, Act.put, List.setIfInBounds_toArray, List.set_cons_zero, List.set_cons_succ]
                refine wpAnyH_take (i := 19) (v := ?_) rfl (by kernel_rfl) (by kernel_rfl) (by kernel_rfl) (fun _ _ _ h => h) (Or.inl ⟨by rfl, ?_⟩) (by assumption) ?_
                rotate_left
                · (intro wq hSw; (try dsimp only at hSw); (try simp only [List.getElem_toArray, List.getElem_cons_succ, List.getElem_cons_zero]); go_simp); try with_reducible rfl
                try simp only [List.getElem_toArray, List.getElem_cons_succ, List.getElem_cons_zero, Act.put, List.setIfInBounds_toArray, List.set_cons_zero, List.set_cons_succ]
                refine wpAnyH_take (i := 20) (v := ?_) rfl (by kernel_rfl) (by kernel_rfl) (by kernel_rfl) (fun _ _ _ h => h) (Or.inl ⟨by rfl, ?_⟩) (by assumption) ?_
                rotate_left
                · (intro wq hSw; (try dsimp only at hSw); (try simp only [List.getElem_toArray, List.getElem_cons_succ, List.getElem_cons_zero]); go_simp); try with_reducible rfl
                try simp only [List.getElem_toArray, List.getElem_cons_succ, List.getElem_cons_zero, Act.put, List.setIfInBounds_toArray, List.set_cons_zero, List.set_cons_succ]
                refine wpAnyH_take (i := 21) (v := ?_) rfl (by kernel_rfl) (by kernel_rfl) (by kernel_rfl) (fun _ _ _ h => h) (Or.inl ⟨by rfl, ?_⟩) (by assumption) ?_
                rotate_left
                · (intro wq hSw; (try dsimp only at hSw); (try simp only [List.getElem_toArray, List.getElem_cons_succ, List.getElem_cons_zero]); go_simp); try with_reducible rfl
                try simp only [List.getElem_toArray, List.getElem_cons_succ, List.getElem_cons_zero, Act.put, List.setIfInBounds_toArray, List.set_cons_zero, List.set_cons_succ]
                refine wpAnyH_take (i := 22) (v := ?_) rfl (by kernel_rfl) (by kernel_rfl) (by kernel_rfl) (fun _ _ _ h => h) (Or.inl ⟨by rfl, ?_⟩) (by assumption) ?_
                rotate_left
                · (intro wq hSw; (try dsimp only at hSw); (try simp only [List.getElem_toArray, List.getElem_cons_succ, List.getElem_cons_zero]); go_simp); try with_reducible rfl
                try simp only [List.getElem_toArray, List.getElem_cons_succ, List.getElem_cons_zero, Act.put, List.setIfInBounds_toArray, List.set_cons_zero, List.set_cons_succ]
                refine wpAnyH_take (i := 23) (v := ?_) rfl (by kernel_rfl) (by kernel_rfl) (by kernel_rfl) (fun _ _ _ h => h) (Or.inl ⟨by rfl, ?_⟩) (by assumption) ?_
                rotate_left
                · (intro wq hSw; (try dsimp only at hSw); (try simp only [List.getElem_toArray, List.getElem_cons_succ, List.getElem_cons_zero]); go_simp); try with_reducible rfl
                try simp only [List.getElem_toArray, List.getElem_cons_succ, List.getElem_cons_zero, Act.put, List.setIfInBounds_toArray, List.set_cons_zero, List.set_cons_succ]
                refine wpAnyH_done (by kernel_rfl) ?_ _
                go_wp2_with fail
                refine ⟨⟨d + 1, by omega, ?_, by go_num, Lib.hid HT3.out.drew⟩, by simp [intOf]; omega⟩
                rw [HCS.out]; rfl
              · have e1 := fin4_gone (s := s) (z := z) (laOf c j) d
                rw [e1.2] at hdead
                rw [e1.1] at hxe
                rw [finB_gone] at hye
                subst hxe; subst hye
                obtain rfl : 0 = mX := rrx.1
                obtain rfl : 0 = mY := rry.1
                have HCS := Lib.hid hcs
                have HC := Lib.hid hC
                clear e1 hcs hC rrx rry
                go_wp2_with fail
                refine hdead.mono ?_
                rintro e w3 ⟨rfl, t3⟩
                have T3w := below_then t3 T9.out
                have p1 : w3.cell? ⟨ox, d, none⟩ = some (.slice AX 0 cX) := (T3w.cell (p := ⟨ox, d, none⟩) hxl).trans px
                have p2 : w3.cell? ⟨oy, d, none⟩ = some (.slice AY 0 cY) := (T3w.cell (p := ⟨oy, d, none⟩) hyl).trans py
                have HT3 := Lib.hid T3w
                clear px py T3w t3 hdead
                go_wp2_with fail
                refine ⟨⟨d + 1, by omega, ?_, by go_num, HT3⟩, by simp [intOf]; omega⟩
                rw [HCS.out]; rfl
            · obtain rfl : d = j := by omega
              have q1 : ¬ (d : Int) < (d : Int) := by omega
              have hC : cnt (aliveL (sts.take d)) = al := by rw [List.take_of_length_le (by omega)]; exact HAL.out
              rw [hC]
              clear hC
              go_wp2_with fail
              refine (stands_any wr).mono ?_
              rintro e w3 ⟨rfl, t3⟩
              go_wp2_with fail
              go_ret
              exact ⟨rfl, TL.out.trans ((below_then t3 T9.out).mono TL.out.size)⟩
end Go.Proofs.Ytolmpopjonkfgaa


set_option linter.unusedSimpArgs false
set_option linter.unusedVariables false
namespace Go.Proofs.Ytolmpopjonkfgaa
open Go.RowKit Go.Cib
attribute [local go_sem] cell_set Later.cell Later.frozen Grw.cell Grw.frozen
attribute [local go_sem ↓] run_min_as run_max_as

structure ActA where
  kind : Int
  d : Int
  at_ : Int
  off : Int
  c : Int
  mask : Int
  keep : List (List Bool)
def ActAR (S : Nat → Prop) (w : World) (cs : List Value) (a : ActA) : Prop := ∃ KA km kc, cs = [.int .i64 a.kind, .int .i64 a.d, .int .i64 a.at_, .int .i64 a.off, .int .u8 a.c, .int .u32 a.mask, .slice KA km kc] ∧ RdL BoolsR 1 S w KA km a.keep
theorem ActAR.stable : Stable ActAR := by
  rintro S S' w w' cs e ⟨KA, km, kc, rfl, h1⟩ hk
  exact ⟨KA, km, kc, rfl, h1.stable BoolsR.stable hk⟩
theorem actA_at {S : Nat → Prop} {w : World} {A : Option Addr} {m : Nat} {xs : List ActA} (h : RdL ActAR 7 S w A m xs) {i : Nat} (hi : i < m) : ∃ b o a KA km kc, A = some ⟨b, o, none⟩ ∧ xs[i]? = some a ∧ RdL BoolsR 1 S w KA km a.keep ∧
    ∀ w', Below w.heap.size w w' → w'.cell? ⟨b, o + i * 7, none⟩ = some (.int .i64 a.kind) ∧ w'.cell? ⟨b, o + i * 7 + 1, none⟩ = some (.int .i64 a.d) ∧ w'.cell? ⟨b, o + i * 7 + 2, none⟩ = some (.int .i64 a.at_) ∧ w'.cell? ⟨b, o + i * 7 + 3, none⟩ = some (.int .i64 a.off) ∧ w'.cell? ⟨b, o + i * 7 + 4, none⟩ = some (.int .u8 a.c) ∧ w'.cell? ⟨b, o + i * 7 + 5, none⟩ = some (.int .u32 a.mask) ∧ w'.cell? ⟨b, o + i * 7 + 6, none⟩ = some (.slice KA km kc) := by
  obtain ⟨b, o, rfl, _, hlt⟩ := h.addr hi
  obtain ⟨hl, cs, h1, h2, h3⟩ := h.at hi
  obtain ⟨KA, km, kc, rfl, r1⟩ := h2
  refine ⟨b, o, xs[i], KA, km, kc, rfl, by simp [hl], r1, fun w' hb => ?_⟩
  have hc : ∀ j v, _ → w'.cell? ⟨b, o + i * 7 + j, none⟩ = some v := fun j v hj => by rw [hb.cell (p := ⟨b, _, none⟩) hlt]; exact h3 j v hj
  exact ⟨hc 0 _ rfl, hc 1 _ rfl, hc 2 _ rfl, hc 3 _ rfl, hc 4 _ rfl, hc 5 _ rfl, hc 6 _ rfl⟩

def FewA (m : Nat) (e : Ending) : Prop := ∃ r : Bool, e = .returned (.bool r) ∧ (r = true → m ≤ 80)
set_option maxRecDepth 100000 in
set_option maxHeartbeats 4000000 in
theorem fewA_any {S : Nat → Prop} {w : World} {A : Option Addr} {m c : Nat} {xs : List ActA} (R : Hid (RdL ActAR 7 S w A m xs)) :
    Calls Try.prog 38 #[.int .i64 0, .slice A m c] w fun e w' => FewA m e ∧ Below w.heap.size w w' := by
  go_enter Try.func38, Try.ntmps38
  go_wp2_with fail
  go_loopw [5] (fun vi wr => ∃ i : Nat, i ≤ m ∧ i ≤ 100 ∧ vi = .int .i64 i ∧ wr = w) (fun vi _ => 100 - (intOf vi).toNat)
  case atStart => exact ⟨0, Nat.zero_le _, by omega, rfl, rfl⟩
  case round =>
    obtain ⟨i, hi, h100, rfl, rfl⟩ := hrel
    by_cases hlt : i < m ∧ i < 100
    · obtain ⟨b, o, a, KA, km, kc, rfl, hx, RK, hcells⟩ := actA_at R.out hlt.1
      obtain ⟨_, _, _, _, _, _, y6⟩ := hcells wr (Below.refl _ _)
      have HRK := Lib.hid RK
      have h1 : (i : Int) < (m : Int) := by omega
      have h2 : (i : Int) < 100 := by omega
      have h3 : (0 : Int) ≤ (i : Int) := Int.natCast_nonneg _
      clear hcells RK hx
      by_cases hk : 300 < km
      · have h4 : (300 : Int) < (km : Int) := by omega
        go_wp2_with fail
        go_ret
        exact ⟨⟨false, rfl, fun h => by cases h⟩, Below.refl _ _⟩
      · have h4 : ¬ (300 : Int) < (km : Int) := by omega
        go_wp2_with fail
        go_loopw [6] (fun vk wr2 => ∃ k : Nat, k ≤ km ∧ vk = .int .i64 k ∧ wr2 = wr) (fun vk _ => km - (intOf vk).toNat)
        case atStart => exact ⟨0, Nat.zero_le _, rfl, rfl⟩
        case round =>
          obtain ⟨k, hk2, rfl, hw⟩ := hrel
          subst hw
          by_cases hlt2 : k < km
          · obtain ⟨b2, o2, x2, A2, m2, c2, rfl, hx2, y7, _⟩ := bools_at HRK.out hlt2
            have h5 : (k : Int) < (km : Int) := by omega
            have h6 : (0 : Int) ≤ (k : Int) := Int.natCast_nonneg _
            have h7 : (k : Int) < 301 := by omega
            clear hx2
            by_cases hm2 : 100 < m2
            · have h8 : (100 : Int) < (m2 : Int) := by omega
              go_wp2_with fail
              go_ret
              exact ⟨⟨false, rfl, fun h => by cases h⟩, Below.refl _ _⟩
            · have h8 : ¬ (100 : Int) < (m2 : Int) := by omega
              go_wp2_with fail
              exact ⟨⟨k + 1, by omega, by go_num, trivial⟩, by simp [intOf]; omega⟩
          · obtain rfl : k = km := by omega
            have h5 : ¬ (k : Int) < (k : Int) := by omega
            go_wp2_with fail
            exact ⟨⟨i + 1, by omega, by omega, by go_num, trivial⟩, by simp [intOf]; omega⟩
    · have hm80 : ∀ h : (m : Int) ≤ 80, m ≤ 80 := fun h => by omega
      by_cases him : i < m
      · have h1 : (i : Int) < (m : Int) := by omega
        have h2 : ¬ (i : Int) < 100 := by omega
        have h3 : ¬ (m : Int) ≤ 80 := by omega
        go_wp2_with fail
        go_ret
        exact ⟨⟨false, rfl, fun h => by cases h⟩, Below.refl _ _⟩
      · have h1 : ¬ (i : Int) < (m : Int) := by omega
        by_cases hm : m ≤ 80
        · have h3 : (m : Int) ≤ 80 := by omega
          go_wp2_with fail
          go_ret
          exact ⟨⟨true, rfl, fun _ => hm⟩, Below.refl _ _⟩
        · have h3 : ¬ (m : Int) ≤ 80 := by omega
          go_wp2_with fail
          go_ret
          exact ⟨⟨false, rfl, fun h => by cases h⟩, Below.refl _ _⟩
end Go.Proofs.Ytolmpopjonkfgaa

set_option linter.unusedSimpArgs false
set_option linter.unusedVariables false
namespace Go.Proofs.Ytolmpopjonkfgaa
open Go.RowKit Go.Cib
attribute [local go_sem] cell_set Later.cell Later.frozen Grw.cell Grw.frozen
attribute [local go_sem ↓] run_min_as run_max_as

def rowAt (c : Int) (i : Nat) : List Int := if i % 5 = 4 then [] else rep ((c + (i : Int)) % 256)
def rowsL (c : Int) (q : Nat) : List (List Int) := (List.range q).map (rowAt c)
theorem rowsL_len (c : Int) (q : Nat) : (rowsL c q).length = q := by simp [rowsL]
theorem rowsL_succ (c : Int) (q : Nat) : rowsL c (q + 1) = rowsL c q ++ [rowAt c q] := by simp [rowsL, List.range_succ]
def RowsE (w : World) (c : Int) (q : Nat) (e : Ending) (w' : World) : Prop := ∃ A cc, e = .returned (.slice A q cc) ∧ RdL BytesR 1 (fun b => w.heap.size ≤ b ∧ b < w'.heap.size) w' A q (rowsL c q) ∧ Below w.heap.size w w'
set_option maxRecDepth 100000 in
set_option maxHeartbeats 4000000 in
theorem rowsOf_any (c n : Int) (q : Nat) (hq : min n 20 = q ∨ (min n 20 < 0 ∧ q = 0)) (w : World) :
    Calls Try.prog 39 #[.int .u8 c, .int .i64 n] w fun e w' => RowsE w c q e w' := by
  have hq20 : q ≤ 20 := by omega
  obtain ⟨mn, hmn⟩ : ∃ k, min n 20 = k := ⟨_, rfl⟩
  rw [hmn] at hq
  have hqm : ∀ i : Nat, i ≤ q → ((i : Int) < mn ↔ i < q) := fun i hi => by omega
  clear hq
  go_enter Try.func39, Try.ntmps39
  go_wp2_with fail
  go_loopw [5, 6] (fun va vi wr => ∃ (i : Nat) (SA : Nat → Prop), i ≤ q ∧ vi = .int .i64 i ∧ Hid (OwnL BytesR 27 1 w.heap.size SA wr va i (rowsL c i)) ∧ Hid (∀ b, SA b → w.heap.size ≤ b) ∧ Hid (Below w.heap.size w wr)) (fun _ vi _ => q - (intOf vi).toNat)
  case atStart => exact ⟨0, fun _ => False, Nat.zero_le _, rfl, Lib.hid OwnL.nil_, Lib.hid (fun _ h => h.elim), Lib.hid (Below.refl _ _)⟩
  case round =>
    obtain ⟨wo, rfl⟩ : ∃ wo, wo = wr := ⟨_, rfl⟩
    obtain ⟨i, SA, hi, rfl, O, hSA, T⟩ := hrel
    by_cases hlt : i < q
    · obtain ⟨AA, ca, rfl, _⟩ := O.out.form
      have h1 : (i : Int) < mn := (hqm i hi).2 hlt
      have h2 : (0 : Int) ≤ (i : Int) := Int.natCast_nonneg _
      have h3 : (i : Int) < 20 := by omega
      have ht : Int.tmod (i : Int) 5 = (i : Int) % 5 := Int.tmod_eq_emod_of_nonneg h2
      by_cases h4 : i % 5 = 4
      · have hrow : rowAt c i = [] := by simp [rowAt, h4]
        have h5 : ((Int.tmod (i : Int) 5) == 4) = true := by rw [beq_iff_eq, ht]; omega
        have h6 : Int.tmod (i : Int) 5 = 4 := by rw [ht]; omega
        clear ht
        have hown := O.out
        have hsz := T.out.size
        have hy : BytesR (Go.Cib.Rest SA (.slice AA i ca)) wo [.slice none 0 0] [] := ⟨none, 0, 0, rfl, RdL.nil⟩
        clear hqm
        go_wp2_with (at_builtin; go_must (refine wpList_push1 BytesR.stable BytesR.one slRows (by rfl) (by rfl) (base := w.heap.size) (S := SA) (cs := #[.slice none 0 0]) (y := []) (by rfl) (by rfl) hown (by rfl) hy (by unfold maxLen; omega) (by omega) hsz ?_); intro A11 c11 u11 hc11 own11 hlt11 hb11 hat11)
        exact ⟨⟨i + 1, SA, by omega, by go_num, Lib.hid (by rw [rowsL_succ, hrow]; exact own11), hSA, Lib.hid (T.out.trans hb11)⟩, by simp [intOf]; omega⟩
      · have hrow : rowAt c i = rep ((c + (i : Int)) % 256) := by simp [rowAt, h4]
        have h5 : ((Int.tmod (i : Int) 5) == 4) = false := by rw [beq_eq_false_iff_ne, ht]; omega
        have h6 : ¬ Int.tmod (i : Int) 5 = 4 := by rw [ht]; omega
        clear ht
        clear hqm
        go_wp2_with fail
        refine (full_at _ wo).mono ?_
        rintro e w3 ⟨b3, o3, rfl, l3, l3', r3, t3⟩
        have hown := ownL_wide2 (T := fun k => SA k ∨ k = b3) BytesR.stable (O.out.keep BytesR.stable t3) (fun b h => .inl h)
        have hne : some b3 ≠ (Value.slice AA i ca).ownBlock := fun e => by have := (O.out.lt b3 e.symm).2; omega
        have T4 := T.out.trans (t3.mono T.out.size)
        have hsz := T4.size
        have hb3 : w.heap.size ≤ b3 := Nat.le_trans T.out.size l3
        have hy : BytesR (Go.Cib.Rest (fun k => SA k ∨ k = b3) (.slice AA i ca)) w3 [.slice (some ⟨b3, o3, none⟩) 64 64] (rep ((c + (i : Int)) % 256)) := ⟨_, _, _, rfl, r3.weaken U8R.stable (by rintro k rfl; exact ⟨.inr rfl, hne⟩)⟩
        clear r3 t3
        go_wp2_with (at_builtin; go_must (refine wpList_push1 BytesR.stable BytesR.one slRows (by rfl) (by rfl) (base := w.heap.size) (S := fun k => SA k ∨ k = b3) (cs := #[.slice (some ⟨b3, o3, none⟩) 64 64]) (y := rep ((c + (i : Int)) % 256)) (by rfl) (by rfl) hown (by rfl) hy (by unfold maxLen; omega) (by omega) hsz ?_); intro A11 c11 u11 hc11 own11 hlt11 hb11 hat11)
        exact ⟨⟨i + 1, _, by omega, by go_num, Lib.hid (by rw [rowsL_succ, hrow]; exact own11), Lib.hid (fun b (hb : SA b ∨ b = b3) => Or.elim hb (hSA.out b) (fun e => e ▸ hb3)), Lib.hid (T4.trans hb11)⟩, by simp [intOf]; omega⟩
    · obtain rfl : i = q := by omega
      have h1 : ¬ (i : Int) < mn := fun h => by have := (hqm i (Nat.le_refl _)).1 h; omega
      obtain ⟨AA, ca, e, _, RA⟩ := O.out.rd (S' := (w.heap.size ≤ ·)) (fun k hk => hk) (fun cs x ⟨A, m, c, e, hr⟩ => ⟨A, m, c, e, hr.weaken U8R.stable (fun b hb => hSA.out b hb.1)⟩)
      subst e
      clear hqm
      go_wp2_with fail
      go_ret
      exact ⟨AA, ca, rfl, RA.stable BytesR.stable (fun b hb hlt => ⟨⟨hb, hlt⟩, rfl⟩), T.out⟩
end Go.Proofs.Ytolmpopjonkfgaa
