/-
  BlobCounts, walked.
  A geometry among the arguments; bounds of whole numbers.
  A base and a blob among the arguments.
-/
import Derived.Test.YtcliejdiaohamaaGreatBc13
import Derived.Test.YtcliejdiaohamaaGreatBc14
import Derived.Test.YtcliejdiaohamaaGreatBc3
import Derived.Test.YtcliejdiaohamaaGreatBc2
import Derived.Test.YtcliejdiaohamaaGreatBc4
import Derived.Test.YtcliejdiaohamaaGreatBc7
set_option linter.unusedSimpArgs false
set_option linter.unusedVariables false
namespace Go.Proofs.YtcliejdiaohamaaGreat
open Go.RowKit Go.Cib
attribute [local go_sem] cell_set Later.cell Later.frozen Grw.cell Grw.frozen
theorem ref_at {S : Nat → Prop} {w : World} {A : Option Addr} {n : Nat} {xs : List (Int × Int)} (h : RdL RefR 3 S w A n xs) {i : Nat} (hi : i < n) :
    ∃ b o x, A = some ⟨b, o, none⟩ ∧ xs[i]? = some x ∧ b < w.heap.size ∧ w.cell? ⟨b, o + i * 3, none⟩ = some (.int .u8 3) ∧ w.cell? ⟨b, o + i * 3 + 1, none⟩ = some (.int .i64 x.1) ∧ w.cell? ⟨b, o + i * 3 + 2, none⟩ = some (.int .u64 x.2) := by
  obtain ⟨b, o, rfl, _, hb⟩ := h.addr hi
  obtain ⟨hl, cs, _, h2, h3⟩ := h.at hi
  subst h2
  exact ⟨b, o, xs[i], rfl, List.getElem?_eq_getElem hl, hb, h3 0 _ rfl, h3 1 _ rfl, h3 2 _ rfl⟩
set_option maxRecDepth 100000 in
set_option maxHeartbeats 16000000 in
theorem bcounts_any {w : World} {k size gen bs : Int} {A : Option Addr} {n c : Nat} {ps : List Int} (R : Hid (RdL IntR 1 (fun _ => True) w A n ps)) (hnc : n ≤ c) :
    Calls Tryz.prog 6 #[.int .i64 k, .int .i64 size, .agg (blobC A n c gen bs)] w fun e w' => e = .returned (.bool true) ∧ Below w.heap.size w w' := by
  have hb0 : Below w.heap.size w (w.alloc (.cells (blobC A n c gen bs) 61)) := (Below.refl _ _).alloc (Nat.le_refl _) _
  have bB := BoxAt.new w (blobC A n c gen bs) 61
  unfold blobC at hb0 bB ⊢
  go_enter Tryz.func6, Tryz.ntmps6
  go_wp2_with fail
  obtain ⟨wA, hwA⟩ : ∃ wA, w.alloc (.cells #[.slice A n c, .int .u64 gen, .int .i64 bs] 61) = wA := ⟨_, rfl⟩
  obtain ⟨q, hq⟩ : ∃ q, w.heap.size = q := ⟨_, rfl⟩
  rw [hwA] at hb0 bB ⊢
  rw [hq] at bB ⊢
  have HB0 := Lib.hid hb0
  have BB := Lib.hid bB
  clear hwA hq hb0 bB
  refine fldnew_any.mono ?_
  rintro e w1 ⟨rfl, hF, hb1⟩
  have HF := Lib.hid hF
  have hqA : q < wA.heap.size := BB.out.lt
  have HB1 := Lib.hid (HB0.out.trans (hb1.mono HB0.out.size))
  have BB1 := Lib.hid (BB.out.below hb1)
  have hs1 := hb1.size
  have hsw := HB0.out.size
  clear hF BB
  have hma := fun w => may_any (w := w) k 1
  cases hm : mayB k 1 with
  | false =>
    have hbad := new_bad (w := w1) (f := .pointer (some ⟨wA.heap.size, 0, none⟩)) (k := k) (m := 1) (fun h => by have : mayB k 1 = true := decide_eq_true h; rw [hm] at this; cases this)
    rw [hm] at hma
    clear hm hb1
    go_wp2_with fail
    refine hbad.mono ?_
    rintro e w2 ⟨rfl, hw2⟩
    rw [hw2]
    clear hw2 hbad
    go_wp2_with fail
    refine (hma _).mono ?_
    rintro e w2 ⟨rfl, hw2⟩
    rw [hw2]
    clear hw2 hma
    go_wp2_with fail
    refine bkeeps_any.mono ?_
    rintro e wz ⟨rfl, hbz⟩
    go_wp2_with fail
    go_ret
    exact ⟨rfl, HB1.out.trans (hbz.mono HB1.out.size)⟩
  | true =>
    have hk : 1 ≤ k ∧ k ≤ 254 := by have := of_decide_eq_true hm; omega
    obtain ⟨k, rfl⟩ : ∃ k' : Nat, k = (k' : Int) := ⟨k.toNat, by omega⟩
    have k1 : 1 ≤ k := by omega
    have k2 : k ≤ 254 := by omega
    rw [hm] at hma
    have hnew := new_any (k := k) (m := 1) HF.out k1 (by omega) (by omega)
    clear hm hk
    push_cast at hnew
    go_wp2_with fail
    refine hnew.mono ?_
    clear hnew
    rintro e w2 ⟨cb, rfl, hC, hkp⟩
    have hb2 : Below wA.heap.size wA w2 := hb1.trans (Keep.below hkp hb1.size (fun k hk => by rw [hk]; exact Nat.le_refl _))
    have HB2 := Lib.hid (HB0.out.trans (hb2.mono HB0.out.size))
    have HC := Lib.hid hC
    have BB2 := Lib.hid (BB1.out.keeps hkp (fun e => by omega))
    clear hb1 hkp hC BB1 HF HB1 hb2 hqA hs1 hsw
    go_wp2_with fail
    refine (hma _).mono ?_
    rintro e w3 ⟨rfl, hw3⟩
    rw [hw3]
    clear hw3 hma
    by_cases g0 : size > 1000000
    · go_wp2_with fail
      refine bkeeps_any.mono ?_
      rintro e wz ⟨rfl, hbz⟩
      go_wp2_with fail
      go_ret
      exact ⟨rfl, HB2.out.trans (hbz.mono HB2.out.size)⟩
    have c2 : w2.cell? ⟨q, 0, none⟩ = some (.slice A n c) ∧ w2.cell? ⟨q, 1, none⟩ = some (.int .u64 gen) ∧ w2.cell? ⟨q, 2, none⟩ = some (.int .i64 bs) := ⟨BB2.out.cell 0, BB2.out.cell 1, BB2.out.cell 2⟩
    have p0 : (0 : Int) ≤ (n : Int) := Int.natCast_nonneg _
    by_cases g1 : (n : Int) > 100
    · go_wp2_with fail
      refine bkeeps_any.mono ?_
      rintro e wz ⟨rfl, hbz⟩
      go_wp2_with fail
      go_ret
      exact ⟨rfl, HB2.out.trans (hbz.mono HB2.out.size)⟩
    go_wp2_with fail
    have HR2 := Lib.hid (R.out.below IntR.stable HB2.out)
    have hd2 : Below w2.heap.size w2 w2.drew := (Below.refl _ _).drew
    have HSF : Hid (∀ w', Below w2.heap.size w2 w' → w'.cell? ⟨q, 0, none⟩ = some (.slice A n c) ∧ w'.cell? ⟨q, 1, none⟩ = some (.int .u64 gen) ∧ w'.cell? ⟨q, 2, none⟩ = some (.int .i64 bs)) := Lib.hid fun w' hb => by
      have bB := BB2.out.below hb
      exact ⟨bB.cell 0, bB.cell 1, bB.cell 2⟩
    have hn : n ≤ 100 := by omega
    clear c2
    refine wp_region_held_drew (S := fun w' => w'.cell? ⟨q, 0, none⟩ = some (.slice A n c) ∧ w'.cell? ⟨q, 1, none⟩ = some (.int .u64 gen) ∧ w'.cell? ⟨q, 2, none⟩ = some (.int .i64 bs)) (by kernel_rfl) (by first | exact HSF.out _ hd2 | exact HSF.out _ hb3 | exact HSF.out _ hb4) (fun hHeld => ?_)
    refine wpAnyH_take (i := 0) (v := ?_) rfl (by kernel_rfl) (by kernel_rfl) (by kernel_rfl) (fun _ _ _ h => h) (Or.inl ⟨by first | kernel_rfl | rfl, ?_⟩) (by assumption) ?_
    rotate_left
    · (intro wq hSw; (try dsimp only at hSw); (try simp (maxSteps := 2000000) only [List.getElem_toArray, List.getElem_cons_succ, List.getElem_cons_zero]); go_simp); try with_reducible rfl
    try simp (maxSteps := 2000000) only [List.getElem_toArray, List.getElem_cons_succ, List.getElem_cons_zero, Act.put, List.setIfInBounds_toArray, List.set_cons_zero, List.set_cons_succ]
    refine wpAnyH_take (i := 2) (v := ?_) rfl (by kernel_rfl) (by kernel_rfl) (by kernel_rfl) (fun _ _ _ h => h) (Or.inl ⟨by first | kernel_rfl | rfl, ?_⟩) (by assumption) ?_
    rotate_left
    · (intro wq hSw; (try dsimp only at hSw); (try simp (maxSteps := 2000000) only [List.getElem_toArray, List.getElem_cons_succ, List.getElem_cons_zero]); go_simp); try with_reducible rfl
    try simp (maxSteps := 2000000) only [List.getElem_toArray, List.getElem_cons_succ, List.getElem_cons_zero, Act.put, List.setIfInBounds_toArray, List.set_cons_zero, List.set_cons_succ]
    refine wpAnyH_ready (rs := [1]) (by kernel_rfl) (by simp) ?_
    refine AllReadyH.cons rfl (fun K hK => ?_) AllReadyH.nil
    try simp (maxSteps := 2000000) only [List.getElem_toArray, List.getElem_cons_succ, List.getElem_cons_zero]
    go_simp
    go_at_call 33
    have hrf := refs_any (c := c) (gen := gen) (size := bs) (HR2.out.below IntR.stable hd2) (by omega) hnc
    unfold blobC at hrf
    refine hrf.mono ?_
    clear hrf
    rintro e w3 ⟨A3, c3, rfl, hc3, hr3, hb⟩
    have hb3 : Below w2.heap.size w2 w3 := hd2.trans (hb.mono hd2.size)
    have HR3 := Lib.hid hr3
    clear hb hr3
    try (go_wp2_with fail)
    refine hK.out _ _ (by first | exact HSF.out _ hd2 | exact HSF.out _ hb3 | exact HSF.out _ hb4) (fun hHeld => ?_)
    clear hK K
    try simp (maxSteps := 2000000) only [List.getElem_toArray, List.getElem_cons_succ, List.getElem_cons_zero, Act.put, List.setIfInBounds_toArray, List.set_cons_zero, List.set_cons_succ]
    refine wpAnyH_ready (rs := [3]) (by kernel_rfl) (by simp) ?_
    refine AllReadyH.cons rfl (fun K hK => ?_) AllReadyH.nil
    try simp (maxSteps := 2000000) only [List.getElem_toArray, List.getElem_cons_succ, List.getElem_cons_zero]
    go_simp
    go_at_call 34
    have hrf := rrefs_any (c := c) (gen := gen) (size := bs) (HR2.out.below IntR.stable hb3) (by omega) hnc
    unfold blobC at hrf
    refine hrf.mono ?_
    clear hrf
    rintro e w4 ⟨A4, c4, rfl, hc4, hr4, hb⟩
    have hb4 : Below w2.heap.size w2 w4 := hb3.trans (hb.mono hb3.size)
    have HR34 := Lib.hid (HR3.out.below RefR.stable hb)
    have HR4 := Lib.hid hr4
    clear hb hr4
    try (go_wp2_with fail)
    refine hK.out _ _ (by first | exact HSF.out _ hd2 | exact HSF.out _ hb3 | exact HSF.out _ hb4) (fun hHeld => ?_)
    clear hK K
    try simp (maxSteps := 2000000) only [List.getElem_toArray, List.getElem_cons_succ, List.getElem_cons_zero, Act.put, List.setIfInBounds_toArray, List.set_cons_zero, List.set_cons_succ]
    refine wpAnyH_take (i := 4) (v := ?_) rfl (by kernel_rfl) (by kernel_rfl) (by kernel_rfl) (fun _ _ _ h => h) (Or.inl ⟨by first | kernel_rfl | rfl, ?_⟩) (by assumption) ?_
    rotate_left
    · (intro wq hSw; (try dsimp only at hSw); (try simp (maxSteps := 2000000) only [List.getElem_toArray, List.getElem_cons_succ, List.getElem_cons_zero]); go_simp); try with_reducible rfl
    try simp (maxSteps := 2000000) only [List.getElem_toArray, List.getElem_cons_succ, List.getElem_cons_zero, Act.put, List.setIfInBounds_toArray, List.set_cons_zero, List.set_cons_succ]
    refine wpAnyH_take (i := 5) (v := ?_) rfl (by kernel_rfl) (by kernel_rfl) (by kernel_rfl) (fun _ _ _ h => h) (Or.inl ⟨by first | kernel_rfl | rfl, ?_⟩) (by assumption) ?_
    rotate_left
    · (intro wq hSw; (try dsimp only at hSw); (try simp (maxSteps := 2000000) only [List.getElem_toArray, List.getElem_cons_succ, List.getElem_cons_zero]); go_simp); try with_reducible rfl
    try simp (maxSteps := 2000000) only [List.getElem_toArray, List.getElem_cons_succ, List.getElem_cons_zero, Act.put, List.setIfInBounds_toArray, List.set_cons_zero, List.set_cons_succ]
    refine wpAnyH_done (by kernel_rfl) ?_ _
    clear hHeld
    have HB4 := Lib.hid (HB2.out.trans (hb4.mono HB2.out.size))
    have BB4 := Lib.hid (BB2.out.below hb4)
    have HC4 := Lib.hid (HC.out.below hb4)
    have HRP := Lib.hid (HR2.out.below IntR.stable hb4)
    clear hb3 hb4 hd2 HSF HR2 HR3 BB2 HC HB2
    have en : ((n : Int) != (n : Int)) = false := by simp
    go_wp2_with fail
    clear en
    go_loopw [10] (fun vi wr => ∃ i : Nat, i ≤ n ∧ vi = .int .i64 i ∧ Hid (Below w4.heap.size w4 wr)) (fun vi _ => n - (intOf vi).toNat)
    case atStart => exact ⟨0, Nat.zero_le _, rfl, Lib.hid (Below.refl _ _)⟩
    case round =>
      obtain ⟨i, hi, rfl, HB⟩ := hrel
      have p0 : (0 : Int) ≤ (i : Int) := Int.natCast_nonneg _
      by_cases hlt : i < n
      · have p1 : (i : Int) < (n : Int) := by omega
        obtain ⟨b3, o3, x3, rfl, hx3, hb3, u0, u1, u2⟩ := ref_at (HR34.out.below RefR.stable HB.out) hlt
        obtain ⟨b4, o4, x4, rfl, hx4, hb4, v0, v1, v2⟩ := ref_at (HR4.out.below RefR.stable HB.out) hlt
        obtain rfl : x3 = x4 := Option.some.inj (hx3.symm.trans hx4)
        obtain ⟨xa, xb⟩ := x3
        clear hx3 hx4
        dsimp only at u0 u1 u2 v0 v1 v2
        go_wp2_with fail
        refine wp_region_later (by kernel_rfl) (by kernel_rfl) ?_
        repeat (go_big_quiet_step (fail))
        refine wpQuiet_nil ?_
        rintro _ ⟨z, rfl⟩
        go_wp2_with fail
        exact ⟨⟨i + 1, by omega, by go_num, Lib.hid (HB.out.trans (z.ok.mono HB.out.size))⟩, by simp [intOf]; omega⟩
      · have p1 : ¬ (i : Int) < (n : Int) := by omega
        have HBr := Lib.hid (HB4.out.trans (HB.out.mono HB4.out.size))
        have HRr := Lib.hid (HRP.out.below IntR.stable HB.out)
        have hcr := HC4.out.below HB.out
        have bBr := BB4.out.below HB.out
        have hdr : Below wr.heap.size wr wr.drew := (Below.refl _ _).drew
        have HSF : Hid (∀ w', Below wr.heap.size wr w' → w'.cell? ⟨q, 0, none⟩ = some (.slice A n c) ∧ w'.cell? ⟨q, 1, none⟩ = some (.int .u64 gen) ∧ w'.cell? ⟨q, 2, none⟩ = some (.int .i64 bs)) := Lib.hid fun w' hb => by
          have bB := bBr.below hb
          exact ⟨bB.cell 0, bB.cell 1, bB.cell 2⟩
        have HCr := Lib.hid hcr
        have g2 : size ≤ 1000000 := by omega
        clear hcr bBr HR34 HR4 HB4 BB4 HC4 HRP HB
        go_wp2_with fail
        refine wp_region_held_drew (S := fun w' => w'.cell? ⟨q, 0, none⟩ = some (.slice A n c) ∧ w'.cell? ⟨q, 1, none⟩ = some (.int .u64 gen) ∧ w'.cell? ⟨q, 2, none⟩ = some (.int .i64 bs)) (by kernel_rfl) (by first | exact HSF.out _ hdr | exact HSF.out _ h1 | exact HSF.out _ h2 | exact HSF.out _ h3 | exact HSF.out _ h4 | exact HSF.out _ h5 | exact HSF.out _ h6) (fun hHeld => ?_)
        refine wpAnyH_take (i := 0) (v := ?_) rfl (by kernel_rfl) (by kernel_rfl) (by kernel_rfl) (fun _ _ _ h => h) (Or.inl ⟨by first | kernel_rfl | rfl, ?_⟩) (by assumption) ?_
        rotate_left
        · (intro wq hSw; (try dsimp only at hSw); (try simp (maxSteps := 2000000) only [List.getElem_toArray, List.getElem_cons_succ, List.getElem_cons_zero]); go_simp); try with_reducible rfl
        try simp (maxSteps := 2000000) only [List.getElem_toArray, List.getElem_cons_succ, List.getElem_cons_zero, Act.put, List.setIfInBounds_toArray, List.set_cons_zero, List.set_cons_succ]
        refine wpAnyH_take (i := 1) (v := ?_) rfl (by kernel_rfl) (by kernel_rfl) (by kernel_rfl) (fun _ _ _ h => h) (Or.inl ⟨by first | kernel_rfl | rfl, ?_⟩) (by assumption) ?_
        rotate_left
        · (intro wq hSw; (try dsimp only at hSw); (try simp (maxSteps := 2000000) only [List.getElem_toArray, List.getElem_cons_succ, List.getElem_cons_zero]); go_simp); try with_reducible rfl
        try simp (maxSteps := 2000000) only [List.getElem_toArray, List.getElem_cons_succ, List.getElem_cons_zero, Act.put, List.setIfInBounds_toArray, List.set_cons_zero, List.set_cons_succ]
        refine wpAnyH_take (i := 3) (v := ?_) rfl (by kernel_rfl) (by kernel_rfl) (by kernel_rfl) (fun _ _ _ h => h) (Or.inl ⟨by first | kernel_rfl | rfl, ?_⟩) (by assumption) ?_
        rotate_left
        · (intro wq hSw; (try dsimp only at hSw); (try simp (maxSteps := 2000000) only [List.getElem_toArray, List.getElem_cons_succ, List.getElem_cons_zero]); go_simp); try with_reducible rfl
        try simp (maxSteps := 2000000) only [List.getElem_toArray, List.getElem_cons_succ, List.getElem_cons_zero, Act.put, List.setIfInBounds_toArray, List.set_cons_zero, List.set_cons_succ]
        refine wpAnyH_take (i := 4) (v := ?_) rfl (by kernel_rfl) (by kernel_rfl) (by kernel_rfl) (fun _ _ _ h => h) (Or.inl ⟨by first | kernel_rfl | rfl, ?_⟩) (by assumption) ?_
        rotate_left
        · (intro wq hSw; (try dsimp only at hSw); (try simp (maxSteps := 2000000) only [List.getElem_toArray, List.getElem_cons_succ, List.getElem_cons_zero]); go_simp); try with_reducible rfl
        try simp (maxSteps := 2000000) only [List.getElem_toArray, List.getElem_cons_succ, List.getElem_cons_zero, Act.put, List.setIfInBounds_toArray, List.set_cons_zero, List.set_cons_succ]
        refine wpAnyH_ready (rs := [2]) (by kernel_rfl) (by simp) ?_
        refine AllReadyH.cons rfl (fun K hK => ?_) AllReadyH.nil
        try simp (maxSteps := 2000000) only [List.getElem_toArray, List.getElem_cons_succ, List.getElem_cons_zero]
        go_simp
        go_at_call 35
        refine (bcnt_b (HCr.out.below hdr) (Lib.hid (by omega))).mono ?_
        rintro e w1 ⟨rfl, hb⟩
        have h1 : Below wr.heap.size wr w1 := hdr.trans (hb.mono hdr.size)
        clear hb
        try (go_wp2_with fail)
        refine hK.out _ _ (by first | exact HSF.out _ hdr | exact HSF.out _ h1 | exact HSF.out _ h2 | exact HSF.out _ h3 | exact HSF.out _ h4 | exact HSF.out _ h5 | exact HSF.out _ h6) (fun hHeld => ?_)
        clear hK K
        try simp (maxSteps := 2000000) only [List.getElem_toArray, List.getElem_cons_succ, List.getElem_cons_zero, Act.put, List.setIfInBounds_toArray, List.set_cons_zero, List.set_cons_succ]
        refine wpAnyH_ready (rs := [5]) (by kernel_rfl) (by simp) ?_
        refine AllReadyH.cons rfl (fun K hK => ?_) AllReadyH.nil
        try simp (maxSteps := 2000000) only [List.getElem_toArray, List.getElem_cons_succ, List.getElem_cons_zero]
        go_simp
        go_at_call 36
        refine (rcnt_b k1 (by omega) g2).mono ?_
        rintro e w2 ⟨rfl, hb⟩
        have h2 : Below wr.heap.size wr w2 := h1.trans (hb.mono h1.size)
        clear hb
        try (go_wp2_with fail)
        refine hK.out _ _ (by first | exact HSF.out _ hdr | exact HSF.out _ h1 | exact HSF.out _ h2 | exact HSF.out _ h3 | exact HSF.out _ h4 | exact HSF.out _ h5 | exact HSF.out _ h6) (fun hHeld => ?_)
        clear hK K
        try simp (maxSteps := 2000000) only [List.getElem_toArray, List.getElem_cons_succ, List.getElem_cons_zero, Act.put, List.setIfInBounds_toArray, List.set_cons_zero, List.set_cons_succ]
        refine wpAnyH_take (i := 6) (v := ?_) rfl (by kernel_rfl) (by kernel_rfl) (by kernel_rfl) (fun _ _ _ h => h) (Or.inl ⟨by first | kernel_rfl | rfl, ?_⟩) (by assumption) ?_
        rotate_left
        · (intro wq hSw; (try dsimp only at hSw); (try simp (maxSteps := 2000000) only [List.getElem_toArray, List.getElem_cons_succ, List.getElem_cons_zero]); go_simp); try with_reducible rfl
        try simp (maxSteps := 2000000) only [List.getElem_toArray, List.getElem_cons_succ, List.getElem_cons_zero, Act.put, List.setIfInBounds_toArray, List.set_cons_zero, List.set_cons_succ]
        refine wpAnyH_take (i := 7) (v := ?_) rfl (by kernel_rfl) (by kernel_rfl) (by kernel_rfl) (fun _ _ _ h => h) (Or.inl ⟨by first | kernel_rfl | rfl, ?_⟩) (by assumption) ?_
        rotate_left
        · (intro wq hSw; (try dsimp only at hSw); (try simp (maxSteps := 2000000) only [List.getElem_toArray, List.getElem_cons_succ, List.getElem_cons_zero]); go_simp); try with_reducible rfl
        try simp (maxSteps := 2000000) only [List.getElem_toArray, List.getElem_cons_succ, List.getElem_cons_zero, Act.put, List.setIfInBounds_toArray, List.set_cons_zero, List.set_cons_succ]
        refine wpAnyH_take (i := 8) (v := ?_) rfl (by kernel_rfl) (by kernel_rfl) (by kernel_rfl) (fun _ _ _ h => h) (Or.inl ⟨by first | kernel_rfl | rfl, ?_⟩) (by assumption) ?_
        rotate_left
        · (intro wq hSw; (try dsimp only at hSw); (try simp (maxSteps := 2000000) only [List.getElem_toArray, List.getElem_cons_succ, List.getElem_cons_zero]); go_simp); try with_reducible rfl
        try simp (maxSteps := 2000000) only [List.getElem_toArray, List.getElem_cons_succ, List.getElem_cons_zero, Act.put, List.setIfInBounds_toArray, List.set_cons_zero, List.set_cons_succ]
        refine wpAnyH_take (i := 9) (v := ?_) rfl (by kernel_rfl) (by kernel_rfl) (by kernel_rfl) (fun _ _ _ h => h) (Or.inl ⟨by first | kernel_rfl | rfl, ?_⟩) (by assumption) ?_
        rotate_left
        · (intro wq hSw; (try dsimp only at hSw); (try simp (maxSteps := 2000000) only [List.getElem_toArray, List.getElem_cons_succ, List.getElem_cons_zero]); go_simp); try with_reducible rfl
        try simp (maxSteps := 2000000) only [List.getElem_toArray, List.getElem_cons_succ, List.getElem_cons_zero, Act.put, List.setIfInBounds_toArray, List.set_cons_zero, List.set_cons_succ]
        refine wpAnyH_take (i := 11) (v := ?_) rfl (by kernel_rfl) (by kernel_rfl) (by kernel_rfl) (fun _ _ _ h => h) (Or.inl ⟨by first | kernel_rfl | rfl, ?_⟩) (by assumption) ?_
        rotate_left
        · (intro wq hSw; (try dsimp only at hSw); (try simp (maxSteps := 2000000) only [List.getElem_toArray, List.getElem_cons_succ, List.getElem_cons_zero]); go_simp); try with_reducible rfl
        try simp (maxSteps := 2000000) only [List.getElem_toArray, List.getElem_cons_succ, List.getElem_cons_zero, Act.put, List.setIfInBounds_toArray, List.set_cons_zero, List.set_cons_succ]
        refine wpAnyH_take (i := 12) (v := ?_) rfl (by kernel_rfl) (by kernel_rfl) (by kernel_rfl) (fun _ _ _ h => h) (Or.inl ⟨by first | kernel_rfl | rfl, ?_⟩) (by assumption) ?_
        rotate_left
        · (intro wq hSw; (try dsimp only at hSw); (try simp (maxSteps := 2000000) only [List.getElem_toArray, List.getElem_cons_succ, List.getElem_cons_zero]); go_simp); try with_reducible rfl
        try simp (maxSteps := 2000000) only [List.getElem_toArray, List.getElem_cons_succ, List.getElem_cons_zero, Act.put, List.setIfInBounds_toArray, List.set_cons_zero, List.set_cons_succ]
        refine wpAnyH_ready (rs := [10]) (by kernel_rfl) (by simp) ?_
        refine AllReadyH.cons rfl (fun K hK => ?_) AllReadyH.nil
        try simp (maxSteps := 2000000) only [List.getElem_toArray, List.getElem_cons_succ, List.getElem_cons_zero]
        go_simp
        go_at_call 37
        have hri := right_any (c := c) (gen := gen) (size := bs) (HCr.out.below h2) (HRr.out.below IntR.stable h2) (by omega)
        unfold blobC at hri
        refine hri.mono ?_
        clear hri
        rintro e w3 ⟨rfl, hb⟩
        have h3 : Below wr.heap.size wr w3 := h2.trans (hb.mono h2.size)
        clear hb
        try (go_wp2_with fail)
        refine hK.out _ _ (by first | exact HSF.out _ hdr | exact HSF.out _ h1 | exact HSF.out _ h2 | exact HSF.out _ h3 | exact HSF.out _ h4 | exact HSF.out _ h5 | exact HSF.out _ h6) (fun hHeld => ?_)
        clear hK K
        try simp (maxSteps := 2000000) only [List.getElem_toArray, List.getElem_cons_succ, List.getElem_cons_zero, Act.put, List.setIfInBounds_toArray, List.set_cons_zero, List.set_cons_succ]
        refine wpAnyH_ready (rs := [13]) (by kernel_rfl) (by simp) ?_
        refine AllReadyH.cons rfl (fun K hK => ?_) AllReadyH.nil
        try simp (maxSteps := 2000000) only [List.getElem_toArray, List.getElem_cons_succ, List.getElem_cons_zero]
        go_simp
        go_at_call 38
        have hri := rright_any (c := c) (gen := gen) (size := bs) k1 (by omega) (HRr.out.below IntR.stable h3) (by omega)
        unfold blobC at hri
        refine hri.mono ?_
        clear hri
        rintro e w4 ⟨rfl, hb⟩
        have h4 : Below wr.heap.size wr w4 := h3.trans (hb.mono h3.size)
        clear hb
        try (go_wp2_with fail)
        refine hK.out _ _ (by first | exact HSF.out _ hdr | exact HSF.out _ h1 | exact HSF.out _ h2 | exact HSF.out _ h3 | exact HSF.out _ h4 | exact HSF.out _ h5 | exact HSF.out _ h6) (fun hHeld => ?_)
        clear hK K
        try simp (maxSteps := 2000000) only [List.getElem_toArray, List.getElem_cons_succ, List.getElem_cons_zero, Act.put, List.setIfInBounds_toArray, List.set_cons_zero, List.set_cons_succ]
        refine wpAnyH_take (i := 14) (v := ?_) rfl (by kernel_rfl) (by kernel_rfl) (by kernel_rfl) (fun _ _ _ h => h) (Or.inl ⟨by first | kernel_rfl | rfl, ?_⟩) (by assumption) ?_
        rotate_left
        · (intro wq hSw; (try dsimp only at hSw); (try simp (maxSteps := 2000000) only [List.getElem_toArray, List.getElem_cons_succ, List.getElem_cons_zero]); go_simp); try with_reducible rfl
        try simp (maxSteps := 2000000) only [List.getElem_toArray, List.getElem_cons_succ, List.getElem_cons_zero, Act.put, List.setIfInBounds_toArray, List.set_cons_zero, List.set_cons_succ]
        refine wpAnyH_take (i := 15) (v := ?_) rfl (by kernel_rfl) (by kernel_rfl) (by kernel_rfl) (fun _ _ _ h => h) (Or.inl ⟨by first | kernel_rfl | rfl, ?_⟩) (by assumption) ?_
        rotate_left
        · (intro wq hSw; (try dsimp only at hSw); (try simp (maxSteps := 2000000) only [List.getElem_toArray, List.getElem_cons_succ, List.getElem_cons_zero]); go_simp); try with_reducible rfl
        try simp (maxSteps := 2000000) only [List.getElem_toArray, List.getElem_cons_succ, List.getElem_cons_zero, Act.put, List.setIfInBounds_toArray, List.set_cons_zero, List.set_cons_succ]
        refine wpAnyH_take (i := 16) (v := ?_) rfl (by kernel_rfl) (by kernel_rfl) (by kernel_rfl) (fun _ _ _ h => h) (Or.inl ⟨by first | kernel_rfl | rfl, ?_⟩) (by assumption) ?_
        rotate_left
        · (intro wq hSw; (try dsimp only at hSw); (try simp (maxSteps := 2000000) only [List.getElem_toArray, List.getElem_cons_succ, List.getElem_cons_zero]); go_simp); try with_reducible rfl
        try simp (maxSteps := 2000000) only [List.getElem_toArray, List.getElem_cons_succ, List.getElem_cons_zero, Act.put, List.setIfInBounds_toArray, List.set_cons_zero, List.set_cons_succ]
        refine wpAnyH_take (i := 17) (v := ?_) rfl (by kernel_rfl) (by kernel_rfl) (by kernel_rfl) (fun _ _ _ h => h) (Or.inl ⟨by first | kernel_rfl | rfl, ?_⟩) (by assumption) ?_
        rotate_left
        · (intro wq hSw; (try dsimp only at hSw); (try simp (maxSteps := 2000000) only [List.getElem_toArray, List.getElem_cons_succ, List.getElem_cons_zero]); go_simp); try with_reducible rfl
        try simp (maxSteps := 2000000) only [List.getElem_toArray, List.getElem_cons_succ, List.getElem_cons_zero, Act.put, List.setIfInBounds_toArray, List.set_cons_zero, List.set_cons_succ]
        refine wpAnyH_ready (rs := [18]) (by kernel_rfl) (by simp) ?_
        refine AllReadyH.cons rfl (fun K hK => ?_) AllReadyH.nil
        try simp (maxSteps := 2000000) only [List.getElem_toArray, List.getElem_cons_succ, List.getElem_cons_zero]
        go_simp
        go_at_call 35
        refine (bcnt_nil size).mono ?_
        rintro e w5 ⟨rfl, hw⟩
        rw [hw]
        clear hw
        try (go_wp2_with fail)
        refine hK.out _ _ (by first | exact HSF.out _ hdr | exact HSF.out _ h1 | exact HSF.out _ h2 | exact HSF.out _ h3 | exact HSF.out _ h4 | exact HSF.out _ h5 | exact HSF.out _ h6) (fun hHeld => ?_)
        clear hK K
        try simp (maxSteps := 2000000) only [List.getElem_toArray, List.getElem_cons_succ, List.getElem_cons_zero, Act.put, List.setIfInBounds_toArray, List.set_cons_zero, List.set_cons_succ]
        refine wpAnyH_take (i := 19) (v := ?_) rfl (by kernel_rfl) (by kernel_rfl) (by kernel_rfl) (fun _ _ _ h => h) (Or.inl ⟨by first | kernel_rfl | rfl, ?_⟩) (by assumption) ?_
        rotate_left
        · (intro wq hSw; (try dsimp only at hSw); (try simp (maxSteps := 2000000) only [List.getElem_toArray, List.getElem_cons_succ, List.getElem_cons_zero]); go_simp); try with_reducible rfl
        try simp (maxSteps := 2000000) only [List.getElem_toArray, List.getElem_cons_succ, List.getElem_cons_zero, Act.put, List.setIfInBounds_toArray, List.set_cons_zero, List.set_cons_succ]
        refine wpAnyH_take (i := 20) (v := ?_) rfl (by kernel_rfl) (by kernel_rfl) (by kernel_rfl) (fun _ _ _ h => h) (Or.inl ⟨by first | kernel_rfl | rfl, ?_⟩) (by assumption) ?_
        rotate_left
        · (intro wq hSw; (try dsimp only at hSw); (try simp (maxSteps := 2000000) only [List.getElem_toArray, List.getElem_cons_succ, List.getElem_cons_zero]); go_simp); try with_reducible rfl
        try simp (maxSteps := 2000000) only [List.getElem_toArray, List.getElem_cons_succ, List.getElem_cons_zero, Act.put, List.setIfInBounds_toArray, List.set_cons_zero, List.set_cons_succ]
        refine wpAnyH_take (i := 21) (v := ?_) rfl (by kernel_rfl) (by kernel_rfl) (by kernel_rfl) (fun _ _ _ h => h) (Or.inl ⟨by first | kernel_rfl | rfl, ?_⟩) (by assumption) ?_
        rotate_left
        · (intro wq hSw; (try dsimp only at hSw); (try simp (maxSteps := 2000000) only [List.getElem_toArray, List.getElem_cons_succ, List.getElem_cons_zero]); go_simp); try with_reducible rfl
        try simp (maxSteps := 2000000) only [List.getElem_toArray, List.getElem_cons_succ, List.getElem_cons_zero, Act.put, List.setIfInBounds_toArray, List.set_cons_zero, List.set_cons_succ]
        refine wpAnyH_ready (rs := [22]) (by kernel_rfl) (by simp) ?_
        refine AllReadyH.cons rfl (fun K hK => ?_) AllReadyH.nil
        try simp (maxSteps := 2000000) only [List.getElem_toArray, List.getElem_cons_succ, List.getElem_cons_zero]
        go_simp
        go_at_call 32
        refine bkeeps_any.mono ?_
        rintro e w6 ⟨rfl, hb⟩
        have h6 : Below wr.heap.size wr w6 := h4.trans (hb.mono h4.size)
        clear hb
        try (go_wp2_with fail)
        refine hK.out _ _ (by first | exact HSF.out _ hdr | exact HSF.out _ h1 | exact HSF.out _ h2 | exact HSF.out _ h3 | exact HSF.out _ h4 | exact HSF.out _ h5 | exact HSF.out _ h6) (fun hHeld => ?_)
        clear hK K
        try simp (maxSteps := 2000000) only [List.getElem_toArray, List.getElem_cons_succ, List.getElem_cons_zero, Act.put, List.setIfInBounds_toArray, List.set_cons_zero, List.set_cons_succ]
        refine wpAnyH_take (i := 23) (v := ?_) rfl (by kernel_rfl) (by kernel_rfl) (by kernel_rfl) (fun _ _ _ h => h) (Or.inl ⟨by first | kernel_rfl | rfl, ?_⟩) (by assumption) ?_
        rotate_left
        · (intro wq hSw; (try dsimp only at hSw); (try simp (maxSteps := 2000000) only [List.getElem_toArray, List.getElem_cons_succ, List.getElem_cons_zero]); go_simp); try with_reducible rfl
        try simp (maxSteps := 2000000) only [List.getElem_toArray, List.getElem_cons_succ, List.getElem_cons_zero, Act.put, List.setIfInBounds_toArray, List.set_cons_zero, List.set_cons_succ]
        refine wpAnyH_take (i := 24) (v := ?_) rfl (by kernel_rfl) (by kernel_rfl) (by kernel_rfl) (fun _ _ _ h => h) (Or.inl ⟨by first | kernel_rfl | rfl, ?_⟩) (by assumption) ?_
        rotate_left
        · (intro wq hSw; (try dsimp only at hSw); (try simp (maxSteps := 2000000) only [List.getElem_toArray, List.getElem_cons_succ, List.getElem_cons_zero]); go_simp); try with_reducible rfl
        try simp (maxSteps := 2000000) only [List.getElem_toArray, List.getElem_cons_succ, List.getElem_cons_zero, Act.put, List.setIfInBounds_toArray, List.set_cons_zero, List.set_cons_succ]
        refine wpAnyH_done (by kernel_rfl) ?_ _
        clear hHeld
        go_wp2_with fail
        go_ret
        exact ⟨rfl, HBr.out.trans (h6.mono HBr.out.size)⟩
end Go.Proofs.YtcliejdiaohamaaGreat

set_option linter.unusedSimpArgs false
set_option linter.unusedVariables false
namespace Go.Proofs.YtcliejdiaohamaaGreat
open Go.RowKit Go.Cib
attribute [local go_sem] cell_set Later.cell Later.frozen Grw.cell Grw.frozen
open Go.ChangeShapes Go.WideShapes Go.ChangeAt Go.Deep
theorem u64_bounds {z : Int} (h : (Lit.int .u64 z).wf = true) : 0 ≤ z ∧ z < 18446744073709551616 := by
  simp [Lit.wf, IntKind.min, IntKind.max, IntKind.bits, IntKind.signed] at h
  omega
end Go.Proofs.YtcliejdiaohamaaGreat

set_option linter.unusedSimpArgs false
set_option linter.unusedVariables false
namespace Go.Proofs.YtcliejdiaohamaaGreat
open Go.RowKit Go.Cib
attribute [local go_sem] cell_set Later.cell Later.frozen Grw.cell Grw.frozen
open Go.ChangeShapes Go.WideShapes Go.ChangeAt Go.Deep
set_option maxRecDepth 100000 in
theorem open_blob {H : Type} {enc : TypeId × Value → H} {w : World} {base b0 : Nat} {spare : Nat → Bool} {held : Bool} {r : Reach} {v : Value} {d : DataW H} {ps : List MemPlace}
    (hval : Value.okWide Tryz.prog w r b0 61 v) (h : DataW.Trod enc Tryz.prog w base spare held 61 v d ps) : ∃ (A : Option Addr) (n c : Nat) (l : List Int) (g s : Int), v = .agg #[.slice A n c, .int .u64 g, .int .i64 s] ∧ n ≤ c ∧ RdL IntR 1 (fun _ => True) w A n l ∧ 0 ≤ g ∧ g < 18446744073709551616 := by
  obtain ⟨cs, rfl, hsz⟩ := okWide_struct Tryz.underlying61 hval
  obtain ⟨fuel, hx⟩ := h
  have h5 : cs.size = 3 := hsz.trans (by kernel_rfl)
  have hl : (Value.agg cs).cells.toList.length = 3 := by simpa [Value.cells] using h5
  obtain ⟨xs, n, _, _, hlen, hxl, hf⟩ := DataW.trod_struct Tryz.underlying61 hx
  have e0 : (Value.agg cs).cells.toList = cs.toList := rfl
  rw [e0] at hf hl
  match hc : cs.toList, hl with
  | [c0, c1, c2], _ =>
    rw [hc] at hf
    have f0 := hf 0 _ rfl
    have f1 := hf 1 _ rfl
    have f2 := hf 2 _ rfl
    have k1 : Tryz.prog.cellsOf 46 = 1 := by kernel_rfl
    have k2 : Tryz.prog.cellsOf 22 = 1 := by kernel_rfl
    have k3 : Tryz.prog.cellsOf 3 = 1 := by kernel_rfl
    have hx3 : xs.length = 3 := hxl
    simp only [List.getElem_toArray, List.getElem_cons_zero, List.getElem_cons_succ, k1, k2, k3, List.drop_zero, List.drop_succ_cons, List.take_succ_cons, List.take_zero] at f0 f1 f2
    rw [List.getElem?_eq_getElem (by omega)] at f0 f1 f2
    obtain ⟨A, m, c, ys, e, hmc, hcm, hr⟩ := opens_slice Tryz.underlying46 (opens_int Tryz.underlying3 k3) f0
    obtain ⟨g, e1, _, hg⟩ := DataW.trod_int Tryz.underlying22 f1
    obtain ⟨z, e2, _, _⟩ := DataW.trod_int Tryz.underlying3 f2
    have hgb := u64_bounds hg
    simp only [List.cons.injEq, and_true] at e e1 e2
    subst e; subst e1; subst e2
    refine ⟨A, m, c, ys, g, z, ?_, hmc, hr, hgb.1, hgb.2⟩
    rw [show cs = cs.toList.toArray by simp, hc]
end Go.Proofs.YtcliejdiaohamaaGreat
