/-
  ScrollBack, walked.
  A geometry among the arguments; bounds of whole numbers.
  A base and a blob among the arguments.
-/
import Derived.Test.YtcliejdiaohamaaGreatSk15
import Derived.Test.YtcliejdiaohamaaGreatSk3
import Derived.Test.YtcliejdiaohamaaGreatSk2
import Derived.Test.YtcliejdiaohamaaGreatSk4
import Derived.Test.YtcliejdiaohamaaGreatSk7
set_option linter.unusedSimpArgs false
set_option linter.unusedVariables false
namespace Go.Proofs.YtcliejdiaohamaaGreat
open Go.RowKit Go.Cib
attribute [local go_sem] cell_set Later.cell Later.frozen Grw.cell Grw.frozen
theorem scN_400 {k n : Nat} (hk : 1 ≤ k) (hn : n ≤ 2000) : scN k n ≤ 60 := by
  unfold scN
  split
  · omega
  · have h1 : (n - 1) / (k * 44 - 10) ≤ (n - 1) / 34 := Nat.div_le_div_left (by omega) (by omega)
    omega
set_option maxRecDepth 100000 in
set_option maxHeartbeats 64000000 in
theorem scback_any {w : World} {k m f c : Int} {A1 A2 A3 : Option Addr} {n1 c1 n2 c2 n3 c3 : Nat} {xs ys : List Nat} {gone : List Int} (R1 : Hid (RdL ByR 1 (fun _ => True) w A1 n1 xs)) (hc1 : n1 ≤ c1) (R2 : Hid (RdL ByR 1 (fun _ => True) w A2 n2 ys)) (hc2 : n2 ≤ c2) (R3 : Hid (RdL IntR 1 (fun _ => True) w A3 n3 gone)) :
    Calls Tryz.prog 11 #[.agg (baseC k m f c), .slice A1 n1 c1, .slice A2 n2 c2, .slice A3 n3 c3] w fun e w' => e = .returned (.bool true) ∧ Below w.heap.size w w' := by
  have hsm := fun w => bsmall_any (w := w) k m f c
  have hb0 : Below w.heap.size w (w.alloc (.cells (baseC k m f c) 76)) := (Below.refl _ _).alloc (Nat.le_refl _) _
  have bB := BoxAt.new w (baseC k m f c) 76
  unfold baseC at hsm hb0 bB ⊢
  go_enter Tryz.func11, Tryz.ntmps11
  obtain ⟨wA, hwA⟩ : ∃ wA, w.alloc (.cells #[.int .i64 k, .int .i64 m, .int .i64 f, .int .i64 c] 76) = wA := ⟨_, rfl⟩
  obtain ⟨q, hq⟩ : ∃ q, w.heap.size = q := ⟨_, rfl⟩
  rw [hwA] at hb0 bB
  rw [hq] at bB
  have HB0 := Lib.hid hb0
  have BB := Lib.hid bB
  have c0 : wA.cell? ⟨q, 0, none⟩ = some (.int .i64 k) ∧ wA.cell? ⟨q, 1, none⟩ = some (.int .i64 m) ∧ wA.cell? ⟨q, 2, none⟩ = some (.int .i64 f) ∧ wA.cell? ⟨q, 3, none⟩ = some (.int .i64 c) := ⟨bB.cell 0, bB.cell 1, bB.cell 2, bB.cell 3⟩
  clear hb0 bB
  go_wp2_with fail
  clear hwA hq
  cases hs : bsmB k m f c with
  | false =>
    rw [hs] at hsm
    refine (hsm _).mono ?_
    clear hsm
    rintro e w1 ⟨rfl, hb1⟩
    have HB1 := Lib.hid (HB0.out.trans (hb1.mono HB0.out.size))
    clear c0
    go_wp2_with fail
    refine rolls_any.mono ?_
    rintro e wz ⟨rfl, hbz⟩
    go_wp2_with fail
    go_ret
    exact ⟨rfl, HB1.out.trans (hbz.mono HB1.out.size)⟩
  | true =>
    rw [hs] at hsm
    refine (hsm _).mono ?_
    clear hsm
    rintro e w1 ⟨rfl, hb1⟩
    have HB1 := Lib.hid (HB0.out.trans (hb1.mono HB0.out.size))
    have BB1 := Lib.hid (BB.out.below hb1)
    obtain ⟨k, m, f, c, rfl, rfl, rfl, rfl, k1, m1, km, f20, c1', c60⟩ := bsm_nat hs
    have c1s : w1.cell? ⟨q, 0, none⟩ = some (.int .i64 (k : Int)) ∧ w1.cell? ⟨q, 1, none⟩ = some (.int .i64 (m : Int)) ∧ w1.cell? ⟨q, 2, none⟩ = some (.int .i64 (f : Int)) ∧ w1.cell? ⟨q, 3, none⟩ = some (.int .i64 (c : Int)) := ⟨BB1.out.cell 0, BB1.out.cell 1, BB1.out.cell 2, BB1.out.cell 3⟩
    clear hs hb1 c0 BB
    have p1 : (0 : Int) ≤ (n1 : Int) := Int.natCast_nonneg _
    have p2 : (0 : Int) ≤ (n2 : Int) := Int.natCast_nonneg _
    have p3 : (0 : Int) ≤ (n3 : Int) := Int.natCast_nonneg _
    by_cases g0 : (n1 : Int) > 2000
    · go_wp2_with fail
      refine rolls_any.mono ?_
      rintro e wz ⟨rfl, hbz⟩
      go_wp2_with fail
      go_ret
      exact ⟨rfl, HB1.out.trans (hbz.mono HB1.out.size)⟩
    by_cases g1 : (n2 : Int) > 2000
    · go_wp2_with fail
      refine rolls_any.mono ?_
      rintro e wz ⟨rfl, hbz⟩
      go_wp2_with fail
      go_ret
      exact ⟨rfl, HB1.out.trans (hbz.mono HB1.out.size)⟩
    by_cases g2 : (n3 : Int) > (m : Int)
    · go_wp2_with fail
      refine rolls_any.mono ?_
      rintro e wz ⟨rfl, hbz⟩
      go_wp2_with fail
      go_ret
      exact ⟨rfl, HB1.out.trans (hbz.mono HB1.out.size)⟩
    have hmd := bmade_any (w0 := w1) (w := w1) (k := k) (m := m) (f := f) (c := c) (Below.refl _ _) k1 m1 (by omega) c1' (by omega) (by omega)
    unfold baseC at hmd
    go_wp2_with fail
    refine hmd.mono ?_
    clear hmd c1s
    rintro e w3 ⟨a, cb, bf, p, o, l, go, gl, rfl, hM, hP, hb3⟩
    have HM3 := Lib.hid (show MidP (PoolB p o l go gl) (fun j => j < w1.heap.size) w1 w3 a cb bf k m (f + c) (newS (f + c) (k + m)) from hM)
    have HP3 := Lib.hid (PoolT.new hP)
    have HR1 := Lib.hid (RdL.bound1 ByR.stable (R1.out.below ByR.stable HB1.out))
    have HR2 := Lib.hid (RdL.bound1 ByR.stable (R2.out.below ByR.stable HB1.out))
    have HR3 := Lib.hid (RdL.bound1 IntR.stable (R3.out.below IntR.stable HB1.out))
    have HQ1 := Lib.hid (show q < w1.heap.size from BB1.out.lt)
    have hxb := by_byt HR1.out
    have hyb := by_byt HR2.out
    have hxl : xs.length = n1 := HR1.out.1
    have hyl : ys.length = n2 := HR2.out.1
    have hM60 := scN_400 (k := k) (n := n1) k1 (by omega)
    have hM61 := scN_400 (k := k) (n := n2) k1 (by omega)
    have HKW : Hid (∀ w' : World, Below w1.heap.size w1 w' → w'.cell? ⟨q, 0, none⟩ = some (.int .i64 (k : Int)) ∧ w'.cell? ⟨q, 3, none⟩ = some (.int .i64 (c : Int))) := Lib.hid fun w' hb => ⟨(BB1.out.below hb).cell 0, (BB1.out.below hb).cell 3⟩
    clear hM hP hb3 R1 R2 R3 HB0
    have hpu := scp_or (cx := c1) HM3.out HP3.out (fun j hj => hj) (HR1.out.below ByR.stable HM3.out.bel) (fun j hj => hj.2) hc1 (by omega) (by omega) (Nat.zero_le _) (Nat.le_refl _) (fun st hst => by
      obtain ⟨d, hd, rfl⟩ := List.mem_iff_getElem.1 hst
      rw [(newS_at (List.getElem?_eq_getElem hd)).1]; show 0 < 800000; omega) (by omega)
    have HPU := Lib.hid hpu
    clear hpu
    go_wp2_with fail
    refine HPU.out.mono ?_
    clear HPU
    rintro e w4 ⟨e2, p2', g2', ct2, s2, M1, A4, c4, S4, sts4, rfl, hc4, hr4, hS4, hP4, hM4, hK4, hor⟩
    have bX := BoxAt.new w4 #[.int .i64 p2', .int .u64 g2', .int .i64 ct2, .int .i64 s2] 24
    have hb5 : Below w4.heap.size w4 (w4.alloc (.cells #[.int .i64 p2', .int .u64 g2', .int .i64 ct2, .int .i64 s2] 24)) := (Below.refl _ _).alloc (Nat.le_refl _) _
    have hM5 := hM4.below hb5
    have hP5 := hP4.below hb5
    obtain ⟨w5, hw5⟩ : ∃ w5, w4.alloc (.cells #[.int .i64 p2', .int .u64 g2', .int .i64 ct2, .int .i64 s2] 24) = w5 := ⟨_, rfl⟩
    obtain ⟨q12, hq12⟩ : ∃ q12, w4.heap.size = q12 := ⟨_, rfl⟩
    have hs5 : w5.heap.size = q12 + 1 := by rw [← hw5, ← hq12, World.size_alloc]
    rw [hw5] at bX hb5 hM5 hP5
    rw [hq12] at bX hM5
    have HX5 := Lib.hid bX
    have HM5 := Lib.hid hM5
    have HP5 := Lib.hid hP5
    have HR4 := Lib.hid (hr4.below IntR.stable hb5)
    have HW5 := Lib.hid (HB1.out.trans (hM5.bel.mono HB1.out.size))
    obtain ⟨s0, s3⟩ := HKW.out _ hM5.bel
    obtain ⟨M, hMe⟩ : ∃ M, scN k n1 = M := ⟨_, rfl⟩
    have hcI : scI k (n1 : Int) = (M : Int) := by rw [scI_nat, hMe]
    have HQ12 := Lib.hid (show q12 < w5.heap.size by omega)
    clear hb5 hM5 hP5 hM4 hP4 hr4 hK4 bX hS4
    go_wp2_with fail
    refine (rscnt_any (size := (n1 : Int)) k1 (by omega) (by omega)).mono ?_
    rintro e w6 ⟨rfl, hw6⟩
    rw [hw6, hcI]
    clear hw6
    rw [hMe] at hor
    rcases hor with ⟨rfl, rfl, htl, rfl, rfl, rfl, rfl, rfl⟩ | ⟨rfl, rfl, hlt0, rfl⟩
    · have gM : ¬ (M1 : Int) > (c : Int) := by omega
      obtain ⟨X5, hX5⟩ : ∃ X5 : Nat → Prop, (fun j => (j < w1.heap.size ∨ S4 j) ∨ q12 ≤ j ∧ j < w5.heap.size) = X5 := ⟨_, rfl⟩
      have HX5s := Lib.hid (show (∀ j, j < w1.heap.size → X5 j) ∧ (∀ j, S4 j → X5 j) ∧ X5 q12 by rw [← hX5]; exact ⟨fun j hj => .inl (.inl hj), fun j hj => .inl (.inr hj), .inr ⟨Nat.le_refl _, HQ12.out⟩⟩)
      rw [hX5] at HM5
      have hA5 := putC_alvS (n := f + c) (k := k) (N := k + m) (aa := f + 0) (G := 0) (M := M1) (Alv.new (f + c) (k + m)) hxb (by omega)
      have hV5 := ScV.new (n := f + c) (k := k) (N := k + m) (aa := f + 0) (G := 0) (M := M1) (Alv.new (f + c) (k + m)) hxb (by omega)
      have hC5 : ∀ st ∈ putC (f + c) k (k + m) (scRf (f + 0) 0) (scTx k (f + 0) 0 M1 xs) (newS (f + c) (k + m)) M1, st.cache.length < 1 + M1 := putC_cache (fun st hst => by
        obtain ⟨d, hd, rfl⟩ := List.mem_iff_getElem.1 hst
        rw [(newS_at (List.getElem?_eq_getElem hd)).1]; show 0 < 1; omega) M1
      obtain ⟨sts5, hsts⟩ : ∃ sts5, putC (f + c) k (k + m) (scRf (f + 0) 0) (scTx k (f + 0) 0 M1 xs) (newS (f + c) (k + m)) M1 = sts5 := ⟨_, rfl⟩
      rw [hsts] at hA5 hV5 hC5 HM5
      have HA5 := Lib.hid hA5
      have HV5 := Lib.hid hV5
      have HC5 := Lib.hid hC5
      obtain ⟨F2, hF2⟩ : ∃ F2, c - (0 + M1) = F2 := ⟨_, rfl⟩
      have hwF : IntKind.i64.wrap ((c : Int) - (M1 : Int)) = (F2 : Int) := by rw [IntKind.wrap_i64]; omega
      have HF2 := Lib.hid hF2
      have hd5 : Below w5.heap.size w5 w5.drew := (Below.refl _ _).drew
      have HSF : Hid (∀ w', Below w5.heap.size w5 w' → w'.cell? ⟨q, 3, none⟩ = some (.int .i64 (c : Int))) := Lib.hid fun w' hb => (HKW.out w' (HM5.out.bel.trans (hb.mono HM5.out.bel.size))).2
      have HM1E := Lib.hid hMe
      clear hw5 hq12 hs5 hX5 hA5 hV5 hC5 hsts hF2 hcI hMe
      go_wp2_with fail
      clear s0 s3 gM
      refine wp_region_held_drew (S := fun w' => w'.cell? ⟨q, 3, none⟩ = some (.int .i64 (c : Int))) (by kernel_rfl) (by first | exact HSF.out _ hd5 | exact HSF.out _ hb6) (fun hHeld => ?_)
      refine wpAnyH_take (i := 0) (v := ?_) rfl (by kernel_rfl) (by kernel_rfl) (by kernel_rfl) (fun _ _ _ h => h) (Or.inl ⟨by first | kernel_rfl | rfl, ?_⟩) (by assumption) ?_
      rotate_left
      · (intro wq hSw; (try dsimp only at hSw); (try simp (maxSteps := 2000000) only [zz1, zz2, zz3]); go_simp); try with_reducible rfl
      try simp (maxSteps := 2000000) only [zz1, zz2, zz3, Act.put, zz4, zz5, zz6]
      refine wpAnyH_take (i := 1) (v := ?_) rfl (by kernel_rfl) (by kernel_rfl) (by kernel_rfl) (fun _ _ _ h => h) (Or.inl ⟨by first | kernel_rfl | rfl, ?_⟩) (by assumption) ?_
      rotate_left
      · (intro wq hSw; (try dsimp only at hSw); (try simp (maxSteps := 2000000) only [zz1, zz2, zz3]); go_simp); try with_reducible rfl
      try simp (maxSteps := 2000000) only [zz1, zz2, zz3, Act.put, zz4, zz5, zz6]
      refine wpAnyH_take (i := 2) (v := ?_) rfl (by kernel_rfl) (by kernel_rfl) (by kernel_rfl) (fun _ _ _ h => h) (Or.inl ⟨by first | kernel_rfl | rfl, ?_⟩) (by assumption) ?_
      rotate_left
      · (intro wq hSw; (try dsimp only at hSw); (try simp (maxSteps := 2000000) only [zz1, zz2, zz3]); go_simp); try with_reducible rfl
      try simp (maxSteps := 2000000) only [zz1, zz2, zz3, Act.put, zz4, zz5, zz6]
      refine wpAnyH_take (i := 3) (v := ?_) rfl (by kernel_rfl) (by kernel_rfl) (by kernel_rfl) (fun _ _ _ h => h) (Or.inl ⟨by first | kernel_rfl | rfl, ?_⟩) (by assumption) ?_
      rotate_left
      · (intro wq hSw; (try dsimp only at hSw); (try simp (maxSteps := 2000000) only [zz1, zz2, zz3]); go_simp); try with_reducible rfl
      try simp (maxSteps := 2000000) only [zz1, zz2, zz3, Act.put, zz4, zz5, zz6]
      refine wpAnyH_take (i := 4) (v := ?_) rfl (by kernel_rfl) (by kernel_rfl) (by kernel_rfl) (fun _ _ _ h => h) (Or.inl ⟨by first | kernel_rfl | rfl, ?_⟩) (by assumption) ?_
      rotate_left
      · (intro wq hSw; (try dsimp only at hSw); (try simp (maxSteps := 2000000) only [zz1, zz2, zz3]); go_simp); try with_reducible rfl
      try simp (maxSteps := 2000000) only [zz1, zz2, zz3, Act.put, zz4, zz5, zz6]
      refine wpAnyH_take (i := 5) (v := ?_) rfl (by kernel_rfl) (by kernel_rfl) (by kernel_rfl) (fun _ _ _ h => h) (Or.inl ⟨by first | kernel_rfl | rfl, ?_⟩) (by assumption) ?_
      rotate_left
      · (intro wq hSw; (try dsimp only at hSw); (try simp (maxSteps := 2000000) only [zz1, zz2, zz3]); go_simp); try with_reducible rfl
      try simp (maxSteps := 2000000) only [zz1, zz2, zz3, Act.put, zz4, zz5, zz6]
      refine wpAnyH_take (i := 6) (v := ?_) rfl (by kernel_rfl) (by kernel_rfl) (by kernel_rfl) (fun _ _ _ h => h) (Or.inl ⟨by first | kernel_rfl | rfl, ?_⟩) (by assumption) ?_
      rotate_left
      · (intro wq hSw; (try dsimp only at hSw); (try simp (maxSteps := 2000000) only [zz1, zz2, zz3]); go_simp); try with_reducible rfl
      try simp (maxSteps := 2000000) only [zz1, zz2, zz3, Act.put, zz4, zz5, zz6]
      refine wpAnyH_take (i := 7) (v := ?_) rfl (by kernel_rfl) (by kernel_rfl) (by kernel_rfl) (fun _ _ _ h => h) (Or.inl ⟨by first | kernel_rfl | rfl, ?_⟩) (by assumption) ?_
      rotate_left
      · (intro wq hSw; (try dsimp only at hSw); (try simp (maxSteps := 2000000) only [zz1, zz2, zz3]); go_simp); try with_reducible rfl
      try simp (maxSteps := 2000000) only [zz1, zz2, zz3, Act.put, zz4, zz5, zz6]
      refine wpAnyH_take (i := 8) (v := ?_) rfl (by kernel_rfl) (by kernel_rfl) (by kernel_rfl) (fun _ _ _ h => h) (Or.inl ⟨by first | kernel_rfl | rfl, ?_⟩) (by assumption) ?_
      rotate_left
      · (intro wq hSw; (try dsimp only at hSw); (try simp (maxSteps := 2000000) only [zz1, zz2, zz3]); go_simp); try with_reducible rfl
      try simp (maxSteps := 2000000) only [zz1, zz2, zz3, Act.put, zz4, zz5, zz6]
      refine wpAnyH_take (i := 9) (v := ?_) rfl (by kernel_rfl) (by kernel_rfl) (by kernel_rfl) (fun _ _ _ h => h) (Or.inl ⟨by first | kernel_rfl | rfl, ?_⟩) (by assumption) ?_
      rotate_left
      · (intro wq hSw; (try dsimp only at hSw); (try simp (maxSteps := 2000000) only [zz1, zz2, zz3]); go_simp); try with_reducible rfl
      try simp (maxSteps := 2000000) only [zz1, zz2, zz3, Act.put, zz4, zz5, zz6]
      refine wpAnyH_take (i := 11) (v := ?_) rfl (by kernel_rfl) (by kernel_rfl) (by kernel_rfl) (fun _ _ _ h => h) (Or.inl ⟨by first | kernel_rfl | rfl, ?_⟩) (by assumption) ?_
      rotate_left
      · (intro wq hSw; (try dsimp only at hSw); (try simp (maxSteps := 2000000) only [zz1, zz2, zz3]); go_simp); try with_reducible rfl
      try simp (maxSteps := 2000000) only [zz1, zz2, zz3, Act.put, zz4, zz5, zz6]
      refine wpAnyH_take (i := 12) (v := ?_) rfl (by kernel_rfl) (by kernel_rfl) (by kernel_rfl) (fun _ _ _ h => h) (Or.inl ⟨by first | kernel_rfl | rfl, ?_⟩) (by assumption) ?_
      rotate_left
      · (intro wq hSw; (try dsimp only at hSw); (try simp (maxSteps := 2000000) only [zz1, zz2, zz3]); go_simp); try with_reducible rfl
      try simp (maxSteps := 2000000) only [zz1, zz2, zz3, Act.put, zz4, zz5, zz6]
      refine wpAnyH_take (i := 13) (v := ?_) rfl (by kernel_rfl) (by kernel_rfl) (by kernel_rfl) (fun _ _ _ h => h) (Or.inl ⟨by first | kernel_rfl | rfl, ?_⟩) (by assumption) ?_
      rotate_left
      · (intro wq hSw; (try dsimp only at hSw); (try simp (maxSteps := 2000000) only [zz1, zz2, zz3]); go_simp); try with_reducible rfl
      try simp (maxSteps := 2000000) only [zz1, zz2, zz3, Act.put, zz4, zz5, zz6]
      refine wpAnyH_take (i := 14) (v := ?_) rfl (by kernel_rfl) (by kernel_rfl) (by kernel_rfl) (fun _ _ _ h => h) (Or.inl ⟨by first | kernel_rfl | rfl, ?_⟩) (by assumption) ?_
      rotate_left
      · (intro wq hSw; (try dsimp only at hSw); (try simp (maxSteps := 2000000) only [zz1, zz2, zz3]); go_simp); try with_reducible rfl
      try simp (maxSteps := 2000000) only [zz1, zz2, zz3, Act.put, zz4, zz5, zz6]
      refine wpAnyH_ready (rs := [10]) (by kernel_rfl) (by simp) ?_
      refine AllReadyH.cons rfl (fun K hK => ?_) AllReadyH.nil
      try simp (maxSteps := 2000000) only [zz1, zz2, zz3]
      go_simp
      go_at_call 42
      have hfr := (HP5.out.below hd5).free
      rw [HF2.out] at hfr
      refine hfr.mono ?_
      clear hfr
      rintro e w6 ⟨rfl, hb⟩
      have hb6 : Below w5.heap.size w5 w6 := hd5.trans (hb.mono hd5.size)
      clear hb
      try (go_wp2_with fail)
      refine hK.out _ _ (by first | exact HSF.out _ hd5 | exact HSF.out _ hb6) (fun hHeld => ?_)
      clear hK K
      try simp (maxSteps := 2000000) only [zz1, zz2, zz3, Act.put, zz4, zz5, zz6]
      refine wpAnyH_take (i := 15) (v := ?_) rfl (by kernel_rfl) (by kernel_rfl) (by kernel_rfl) (fun _ _ _ h => h) (Or.inl ⟨by first | kernel_rfl | rfl, ?_⟩) (by assumption) ?_
      rotate_left
      · (intro wq hSw; (try dsimp only at hSw); (try simp (maxSteps := 2000000) only [zz1, zz2, zz3]); go_simp); try with_reducible rfl
      try simp (maxSteps := 2000000) only [zz1, zz2, zz3, Act.put, zz4, zz5, zz6]
      refine wpAnyH_take (i := 16) (v := ?_) rfl (by kernel_rfl) (by kernel_rfl) (by kernel_rfl) (fun _ _ _ h => h) (Or.inl ⟨by first | kernel_rfl | rfl, ?_⟩) (by assumption) ?_
      rotate_left
      · (intro wq hSw; (try dsimp only at hSw); (try simp (maxSteps := 2000000) only [zz1, zz2, zz3]); go_simp); try with_reducible rfl
      try simp (maxSteps := 2000000) only [zz1, zz2, zz3, Act.put, zz4, zz5, zz6]
      refine wpAnyH_done (by kernel_rfl) ?_ _
      clear hHeld hwF
      have HM6 := Lib.hid (HM5.out.below' hb6)
      have hpu := scp_or (cx := c2) HM6.out (HP5.out.below hb6) (fun j hj => hj) (HR2.out.below ByR.stable HM6.out.bel) (fun j hj => HX5s.out.1 j hj.2) hc2 (by omega) (by omega) (by omega) (Nat.le_refl _) (fun st hst => by have := HC5.out st hst; omega) (by omega)
      have HPU := Lib.hid hpu
      have HR46 := Lib.hid (HR4.out.below IntR.stable hb6)
      have HX6 := Lib.hid (HX5.out.below hb6)
      clear hpu hb6 HM5 HP5 HR4 HX5 HSF hd5
      go_wp2_with fail
      refine HPU.out.mono ?_
      clear HPU
      rintro e w9 ⟨e9, p9, g9, t9, z9, M2, A9, c9, S9, sts9, rfl, hc9, hr9, hS9, hP9, hM9, hK9, hor9⟩
      have HA9 : Hid (Alv (f + c) sts9) := Lib.hid (by
        rcases hor9 with ⟨_, h2, h3, _, _, _, _, rfl⟩ | ⟨_, _, _, rfl⟩
        · exact putC_alvS HA5.out hyb (by omega)
        · exact HA5.out)
      have HV9 : Hid (ScV (fun _ => true) k (k + m) (f + 0) 0 M1 xs sts9) := Lib.hid (by
        rcases hor9 with ⟨_, h2, h3, _, _, _, _, rfl⟩ | ⟨_, _, _, rfl⟩
        · exact HV5.out.old (n := f + c) hyb (by omega) (by omega)
        · exact HV5.out)
      have HC9 : Hid (∀ st ∈ sts9, st.cache.length < 200) := Lib.hid (by
        rcases hor9 with ⟨_, h2, h3, _, _, _, _, rfl⟩ | ⟨_, _, _, rfl⟩
        · intro st hst
          have := putC_cache HC5.out M2 st hst
          omega
        · intro st hst
          have := HC5.out st hst
          omega)
      have HOR : Hid ((e9 = 0 ∧ M2 = scN k n2 ∧ 0 + M1 + M2 ≤ c ∧ p9 = ((f + (0 + M1) : Nat) : Int) ∧ g9 = ((0 + M1 : Nat) : Int) ∧ t9 = (M2 : Int) ∧ z9 = (n2 : Int) ∧ ScV (fun _ => true) k (k + m) (f + (0 + M1)) (0 + M1) M2 ys sts9) ∨ (e9 = 140 ∧ M2 = 0)) := Lib.hid (by
        rcases hor9 with ⟨h1, h2, h3, h4, h5, h6, h7, rfl⟩ | ⟨h1, h2, _, _⟩
        · exact .inl ⟨h1, h2, h3, h4, h5, h6, h7, ScV.new HA5.out hyb (by omega)⟩
        · exact .inr ⟨h1, h2⟩)
      have hM2l : M2 ≤ 60 := by
        rcases hor9 with ⟨_, h2, _⟩ | ⟨_, h2, _⟩ <;> omega
      clear hor9
      have bX := BoxAt.new w9 #[.int .i64 p9, .int .u64 g9, .int .i64 t9, .int .i64 z9] 24
      have hb10 : Below w9.heap.size w9 (w9.alloc (.cells #[.int .i64 p9, .int .u64 g9, .int .i64 t9, .int .i64 z9] 24)) := (Below.refl _ _).alloc (Nat.le_refl _) _
      have hM10 := hM9.below hb10
      obtain ⟨w10, hw10⟩ : ∃ w10, w9.alloc (.cells #[.int .i64 p9, .int .u64 g9, .int .i64 t9, .int .i64 z9] 24) = w10 := ⟨_, rfl⟩
      obtain ⟨q16, hq16⟩ : ∃ q16, w9.heap.size = q16 := ⟨_, rfl⟩
      have hs10 : w10.heap.size = q16 + 1 := by rw [← hw10, ← hq16, World.size_alloc]
      rw [hw10] at bX hb10 hM10
      rw [hq16] at bX hM10
      have HX12 := Lib.hid ((hK9.box HX6.out HX5s.out.2.2).below hb10)
      have HX16 := Lib.hid bX
      have HR4a := Lib.hid ((hK9.rd IntR.stable HR46.out (fun j hj => HX5s.out.2.1 j hj)).below IntR.stable hb10)
      have HR9a := Lib.hid (hr9.below IntR.stable hb10)
      obtain ⟨X10, hX10⟩ : ∃ X10 : Nat → Prop, (fun j => (X5 j ∨ S9 j) ∨ q16 ≤ j ∧ j < w10.heap.size) = X10 := ⟨_, rfl⟩
      have HX10s := Lib.hid (show (∀ j, j < w1.heap.size → X10 j) ∧ (∀ j, S4 j → X10 j) ∧ X10 q12 ∧ (∀ j, S9 j → X10 j) ∧ X10 q16 by rw [← hX10]; exact ⟨fun j hj => .inl (.inl (HX5s.out.1 j hj)), fun j hj => .inl (.inl (HX5s.out.2.1 j hj)), .inl (.inl HX5s.out.2.2), fun j hj => .inl (.inr hj), .inr ⟨Nat.le_refl _, by omega⟩⟩)
      rw [hX10] at hM10
      have HM10 := Lib.hid hM10
      clear hM10 hX10 hb10 bX hr9 hM9 hP9 hK9 hS9 HR46 HX6 HM6 HA5 HV5 HC5 HX5s
      go_wp2_with fail
      clear hw10 hq16 hs10
      go_loopw [19] (fun vi wr => ∃ i : Nat, i ≤ M2 ∧ vi = .int .i64 i ∧ Hid (Below w10.heap.size w10 wr)) (fun vi _ => M2 - (intOf vi).toNat)
      case atStart => exact ⟨0, Nat.zero_le _, rfl, Lib.hid (Below.refl _ _)⟩
      case round =>
        obtain ⟨i, hi, rfl, HB⟩ := hrel
        have p0 : (0 : Int) ≤ (i : Int) := Int.natCast_nonneg _
        by_cases hlt : i < M2
        · have p4 : (i : Int) < (M2 : Int) := by omega
          obtain ⟨wo, rfl⟩ : ∃ wo, wo = wr := ⟨_, rfl⟩
          go_wp2_with fail
          go_loopw [20] (fun vj wr => ∃ j : Nat, j ≤ M1 ∧ vj = .int .i64 j ∧ Hid (Below w10.heap.size w10 wr)) (fun vj _ => M1 - (intOf vj).toNat)
          case atStart => exact ⟨0, Nat.zero_le _, rfl, HB⟩
          case round =>
            obtain ⟨j, hj, rfl, HBj⟩ := hrel
            have p5 : (0 : Int) ≤ (j : Int) := Int.natCast_nonneg _
            by_cases hlt2 : j < M1
            · have p6 : (j : Int) < (M1 : Int) := by omega
              obtain ⟨b3, o3, rfl, _, hb3⟩ := (HR9a.out.below IntR.stable HBj.out).addr hlt
              obtain ⟨b4, o4, rfl, _, hb4⟩ := (HR4a.out.below IntR.stable HBj.out).addr hlt2
              obtain ⟨x, hx, v1⟩ := int_at1 (HR9a.out.below IntR.stable HBj.out) hlt
              obtain ⟨y, hy, v2⟩ := int_at1 (HR4a.out.below IntR.stable HBj.out) hlt2
              have hne : (x == y) = false := by
                unfold plL at hx hy
                rw [List.getElem?_map, List.getElem?_range hlt] at hx
                rw [List.getElem?_map, List.getElem?_range hlt2] at hy
                have e1 := Option.some.inj hx
                have e2 := Option.some.inj hy
                rw [← e1, ← e2]
                simp only [beq_eq_false_iff_ne, ne_eq]
                push_cast
                omega
              clear hx hy
              go_wp2_with fail
              refine wp_region_later (by kernel_rfl) (by kernel_rfl) ?_
              repeat (go_big_quiet_step (fail))
              refine wpQuiet_nil ?_
              rintro _ ⟨z, rfl⟩
              go_wp2_with fail
              exact ⟨⟨j + 1, by omega, by go_num, Lib.hid (HBj.out.trans (z.ok.mono HBj.out.size))⟩, by simp [intOf]; omega⟩
            · have p6 : ¬ (j : Int) < (M1 : Int) := by omega
              go_wp2_with fail
              exact ⟨⟨i + 1, by omega, by go_num, HBj⟩, by simp [intOf]; omega⟩
        · have p4 : ¬ (i : Int) < (M2 : Int) := by omega
          have HMr := Lib.hid (HM10.out.below' HB.out)
          have HX12r := Lib.hid (HX12.out.below HB.out)
          have HX16r := Lib.hid (HX16.out.below HB.out)
          have HR4r := Lib.hid (HR4a.out.below IntR.stable HB.out)
          have HR9r := Lib.hid (HR9a.out.below IntR.stable HB.out)
          have hfl := flush_p HMr.out (fun st hst => by have := HC9.out st hst; omega)
          have HFL := Lib.hid hfl
          clear hfl HB HM10 HX12 HX16 HR4a HR9a
          go_wp2_with fail
          refine HFL.out.mono ?_
          clear HFL
          rintro e w11 ⟨rfl, hM11, hK11⟩
          have HM11 := Lib.hid hM11
          have hKX := hK11.mono (Y := X10) fun j hj => .inl hj
          have HX12f := Lib.hid (hKX.box HX12r.out HX10s.out.2.2.1)
          have HX16f := Lib.hid (hKX.box HX16r.out HX10s.out.2.2.2.2)
          have HR4f := Lib.hid (hKX.rd IntR.stable HR4r.out (fun j hj => HX10s.out.2.1 j hj))
          have HR9f := Lib.hid (hKX.rd IntR.stable HR9r.out (fun j hj => HX10s.out.2.2.2.1 j hj))
          have HVF := Lib.hid (HV9.out.flush (n := f + c) (by omega) HA9.out)
          have HOF : Hid ((e9 = 0 ∧ M2 = scN k n2 ∧ 0 + M1 + M2 ≤ c ∧ p9 = ((f + (0 + M1) : Nat) : Int) ∧ g9 = ((0 + M1 : Nat) : Int) ∧ t9 = (M2 : Int) ∧ z9 = (n2 : Int) ∧ ScV (fun _ => true) k (k + m) (f + (0 + M1)) (0 + M1) M2 ys (sts9.map flushG)) ∨ (e9 = 140 ∧ M2 = 0)) := Lib.hid (by
            rcases HOR.out with ⟨h1, h2, h3, h4, h5, h6, h7, h8⟩ | h
            · exact .inl ⟨h1, h2, h3, h4, h5, h6, h7, h8.flush (n := f + c) (by omega) HA9.out⟩
            · exact .inr h)
          clear hM11 hK11 hKX HMr HX12r HX16r HR4r HR9r HV9 HOR HC9 HA9
          go_wp2_with fail
          go_loopw [21] (fun vd wr => ∃ (d : Nat) (sts' : List DSt), d ≤ n3 ∧ vd = .int .i64 d ∧ Hid (MidP (PoolB p o l go gl) X10 w1 wr a cb bf k m (f + c) sts') ∧ Hid (KpX X10 w11 wr) ∧ Hid (ScV (butL (fun _ => true) (gone.take d)) k (k + m) (f + 0) 0 M1 xs sts') ∧ Hid ((e9 = 0 ∧ M2 = scN k n2 ∧ 0 + M1 + M2 ≤ c ∧ p9 = ((f + (0 + M1) : Nat) : Int) ∧ g9 = ((0 + M1 : Nat) : Int) ∧ t9 = (M2 : Int) ∧ z9 = (n2 : Int) ∧ ScV (butL (fun _ => true) (gone.take d)) k (k + m) (f + (0 + M1)) (0 + M1) M2 ys sts') ∨ (e9 = 140 ∧ M2 = 0))) (fun vd _ => n3 - (intOf vd).toNat)
          case atStart => exact ⟨0, _, Nat.zero_le _, rfl, HM11, Lib.hid KpX.refl, HVF, HOF⟩
          case round =>
            clear HM11 HVF HOF
            obtain ⟨d, sts', hd2, rfl, HM, HK, HV, HO⟩ := hrel
            have pd : (0 : Int) ≤ (d : Int) := Int.natCast_nonneg _
            by_cases hlt2 : d < n3
            · have pd2 : (d : Int) < (n3 : Int) := by omega
              obtain ⟨b2, o2, rfl, _, hb2⟩ := (HR3.out.below IntR.stable HM.out.bel).addr hlt2
              obtain ⟨y, hy, v2⟩ := int_at1 (HR3.out.below IntR.stable HM.out.bel) hlt2
              have HTK := Lib.hid (show gone.take (d + 1) = gone.take d ++ [y] by rw [List.take_add_one, hy]; rfl)
              clear hy
              go_wp2_with fail
              refine (fail_p HM.out y).mono ?_
              rintro e w12 ⟨rfl, hM12, hK12⟩
              have HM12 := Lib.hid hM12
              have HK12 := Lib.hid (HK.out.trans (hK12.mono fun j hj => .inl hj))
              have HV12 : Hid (ScV (butL (fun _ => true) (gone.take (d + 1))) k (k + m) (f + 0) 0 M1 xs (failA (f + c) sts' y)) := Lib.hid (by rw [HTK.out, butL_snoc]; exact HV.out.fail (by omega) y)
              have HO12 : Hid ((e9 = 0 ∧ M2 = scN k n2 ∧ 0 + M1 + M2 ≤ c ∧ p9 = ((f + (0 + M1) : Nat) : Int) ∧ g9 = ((0 + M1 : Nat) : Int) ∧ t9 = (M2 : Int) ∧ z9 = (n2 : Int) ∧ ScV (butL (fun _ => true) (gone.take (d + 1))) k (k + m) (f + (0 + M1)) (0 + M1) M2 ys (failA (f + c) sts' y)) ∨ (e9 = 140 ∧ M2 = 0)) := Lib.hid (by
                rcases HO.out with ⟨h1, h2, h3, h4, h5, h6, h7, h8⟩ | h
                · rw [HTK.out, butL_snoc]; exact .inl ⟨h1, h2, h3, h4, h5, h6, h7, h8.fail (by omega) y⟩
                · exact .inr h)
              clear hM12 hK12 HM HK HV HO v2
              go_wp2_with fail
              exact ⟨⟨d + 1, _, by omega, by go_num, HM12, HK12, HV12, HO12⟩, by simp [intOf]; omega⟩
            · have pd2 : ¬ (d : Int) < (n3 : Int) := by omega
              obtain rfl : d = n3 := by omega
              have hgt := show gone.take d = gone from List.take_of_length_le (by rw [HR3.out.1]; exact Nat.le_refl _)
              have hV := HV.out
              have hO := HO.out
              rw [hgt] at hV hO
              have hcnt := butL_cnt (k + m) gone (fun _ => true)
              rw [cntP_true, HR3.out.1] at hcnt
              have hgl : ¬ cntP (butL (fun _ => true) gone) (k + m) < k := by omega
              have hg1 := scg_any (aa := f + 0) (G := 0) (gs := fun _ => butL (fun _ => true) gone) HM.out.x.mid (by omega) (by omega) (by omega) (by rw [HM1E.out]; omega) (Lib.hid (by omega)) hxb hxl (by rw [HM1E.out]; exact hV)
              rw [HM1E.out] at hg1
              unfold scC at hg1
              have HG1 := Lib.hid hg1
              have HO2 := Lib.hid hO
              have HX12g := HK.out.box HX12f.out HX10s.out.2.2.1
              have HX16g := Lib.hid (HK.out.box HX16f.out HX10s.out.2.2.2.2)
              have HR4g := Lib.hid (HK.out.rd IntR.stable HR4f.out (fun j hj => HX10s.out.2.1 j hj))
              have HR9g := Lib.hid (HK.out.rd IntR.stable HR9f.out (fun j hj => HX10s.out.2.2.2.1 j hj))
              have k0 := HX12g.cell 0
              have k1' := HX12g.cell 1
              have k2 := HX12g.cell 2
              have k3 := HX12g.cell 3
              have HGL := Lib.hid hgl
              clear hV hO hcnt hg1 HX12g hgt HV HO hgl
              go_wp2_with fail
              refine HG1.out.mono ?_
              clear HG1 k0 k1' k2 k3
              rintro e w14 ⟨hb14, ⟨⟨i, _, hlo⟩, _⟩ | ⟨_, A5, c5, A6, c6, rfl, hc5, hr5, hc6, hr6⟩⟩
              · exact absurd hlo HGL.out
              have HM14 := Lib.hid (HM.out.below' hb14)
              obtain ⟨TX, hTX⟩ : ∃ TX, textB xs = TX := ⟨_, rfl⟩
              have t1 := text_run (c := c5) hr5
              have t2 := text_run (c := c1) (HR1.out.below ByR.stable HM14.out.bel)
              rw [hTX] at t1 t2
              have hi1 := ints7_same (c1 := c6) (c2 := c4) hr6 (HR4g.out.below IntR.stable hb14) (by omega)
              have HI1 := Lib.hid hi1
              have HX16h := Lib.hid (HX16g.out.below hb14)
              have HR9h := Lib.hid (HR9g.out.below IntR.stable hb14)
              clear hr5 hr6 hb14 hTX hi1 HM HX16g HR9g HR4g
              go_wp2_with fail
              refine HI1.out.mono ?_
              clear HI1 t1 t2
              rintro e w15 ⟨rfl, hb15⟩
              have HM15 := Lib.hid (HM14.out.below' hb15)
              have HW15 := Lib.hid (HB1.out.trans (HM15.out.bel.mono HB1.out.size))
              have HX16i := HX16h.out.below hb15
              have HR9i := Lib.hid (HR9h.out.below IntR.stable hb15)
              clear hb15 HM14 HX16h HR9h
              rcases HO2.out with ⟨rfl, hM2e, hle2, rfl, rfl, rfl, rfl, hV2⟩ | ⟨rfl, hM20⟩
              · have hg2 := scg_any (aa := f + (0 + M1)) (G := 0 + M1) (gs := fun _ => butL (fun _ => true) gone) HM15.out.x.mid (by omega) (by omega) (by omega) (by rw [← hM2e]; omega) (Lib.hid (by omega)) hyb hyl (by rw [← hM2e]; exact hV2)
                rw [← hM2e] at hg2
                unfold scC at hg2
                obtain ⟨aa2, haa2⟩ : ∃ aa2, f + (0 + M1) = aa2 := ⟨_, rfl⟩
                rw [haa2] at hg2 HX16i HR9i
                obtain ⟨G2, hG2⟩ : ∃ G2, 0 + M1 = G2 := ⟨_, rfl⟩
                rw [hG2] at hg2 HX16i
                have HG2 := Lib.hid hg2
                have k0 := HX16i.cell 0
                have k1' := HX16i.cell 1
                have k2 := HX16i.cell 2
                have k3 := HX16i.cell 3
                clear hg2 HX16i hV2 haa2 hG2 hM2e hle2
                go_wp2_with fail
                refine HG2.out.mono ?_
                clear HG2 k0 k1' k2 k3
                rintro e w16 ⟨hb16, ⟨⟨i, _, hlo⟩, _⟩ | ⟨_, A7, c7, A8, c8, rfl, hc7, hr7, hc8, hr8⟩⟩
                · exact absurd hlo HGL.out
                have HM16 := Lib.hid (HM15.out.below' hb16)
                obtain ⟨TY, hTY⟩ : ∃ TY, textB ys = TY := ⟨_, rfl⟩
                have t1 := text_run (c := c7) hr7
                have t2 := text_run (c := c2) (HR2.out.below ByR.stable HM16.out.bel)
                rw [hTY] at t1 t2
                have hi2 := ints7_same (c1 := c8) (c2 := c9) hr8 (HR9i.out.below IntR.stable hb16) (by omega)
                have HI2 := Lib.hid hi2
                clear hr7 hr8 hb16 hTY hi2
                go_wp2_with fail
                refine HI2.out.mono ?_
                clear HI2 t1 t2
                rintro e w17 ⟨rfl, hb17⟩
                have HW17 := Lib.hid (HB1.out.trans ((HM16.out.below' hb17).bel.mono HB1.out.size))
                clear hb17
                go_wp2_with fail
                refine rolls_any.mono ?_
                rintro e wz ⟨rfl, hbz⟩
                go_wp2_with fail
                go_ret
                exact ⟨rfl, HW17.out.trans (hbz.mono HW17.out.size)⟩
              · clear HX16i
                go_wp2_with fail
                refine rolls_any.mono ?_
                rintro e wz ⟨rfl, hbz⟩
                go_wp2_with fail
                go_ret
                exact ⟨rfl, HW15.out.trans (hbz.mono HW15.out.size)⟩
    · have gM : (M : Int) > (c : Int) := by omega
      clear hw5 hq12 hs5
      go_wp2_with fail
      have hd5 : Below w5.heap.size w5 w5.drew := (Below.refl _ _).drew
      have HSF : Hid (∀ w', Below w5.heap.size w5 w' → w'.cell? ⟨q, 3, none⟩ = some (.int .i64 (c : Int))) := Lib.hid fun w' hb => (HKW.out w' (HM5.out.bel.trans (hb.mono HM5.out.bel.size))).2
      clear s0 s3
      refine wp_region_held_drew (S := fun w' => w'.cell? ⟨q, 3, none⟩ = some (.int .i64 (c : Int))) (by kernel_rfl) (by first | exact HSF.out _ hd5 | exact HSF.out _ hb6 | exact HSF.out _ hb7) (fun hHeld => ?_)
      refine wpAnyH_take (i := 0) (v := ?_) rfl (by kernel_rfl) (by kernel_rfl) (by kernel_rfl) (fun _ _ _ h => h) (Or.inl ⟨by first | kernel_rfl | rfl, ?_⟩) (by assumption) ?_
      rotate_left
      · (intro wq hSw; (try dsimp only at hSw); (try simp (maxSteps := 2000000) only [zz1, zz2, zz3]); go_simp); try with_reducible rfl
      try simp (maxSteps := 2000000) only [zz1, zz2, zz3, Act.put, zz4, zz5, zz6]
      refine wpAnyH_take (i := 1) (v := ?_) rfl (by kernel_rfl) (by kernel_rfl) (by kernel_rfl) (fun _ _ _ h => h) (Or.inl ⟨by first | kernel_rfl | rfl, ?_⟩) (by assumption) ?_
      rotate_left
      · (intro wq hSw; (try dsimp only at hSw); (try simp (maxSteps := 2000000) only [zz1, zz2, zz3]); go_simp); try with_reducible rfl
      try simp (maxSteps := 2000000) only [zz1, zz2, zz3, Act.put, zz4, zz5, zz6]
      refine wpAnyH_take (i := 2) (v := ?_) rfl (by kernel_rfl) (by kernel_rfl) (by kernel_rfl) (fun _ _ _ h => h) (Or.inl ⟨by first | kernel_rfl | rfl, ?_⟩) (by assumption) ?_
      rotate_left
      · (intro wq hSw; (try dsimp only at hSw); (try simp (maxSteps := 2000000) only [zz1, zz2, zz3]); go_simp); try with_reducible rfl
      try simp (maxSteps := 2000000) only [zz1, zz2, zz3, Act.put, zz4, zz5, zz6]
      refine wpAnyH_take (i := 3) (v := ?_) rfl (by kernel_rfl) (by kernel_rfl) (by kernel_rfl) (fun _ _ _ h => h) (Or.inl ⟨by first | kernel_rfl | rfl, ?_⟩) (by assumption) ?_
      rotate_left
      · (intro wq hSw; (try dsimp only at hSw); (try simp (maxSteps := 2000000) only [zz1, zz2, zz3]); go_simp); try with_reducible rfl
      try simp (maxSteps := 2000000) only [zz1, zz2, zz3, Act.put, zz4, zz5, zz6]
      refine wpAnyH_take (i := 4) (v := ?_) rfl (by kernel_rfl) (by kernel_rfl) (by kernel_rfl) (fun _ _ _ h => h) (Or.inl ⟨by first | kernel_rfl | rfl, ?_⟩) (by assumption) ?_
      rotate_left
      · (intro wq hSw; (try dsimp only at hSw); (try simp (maxSteps := 2000000) only [zz1, zz2, zz3]); go_simp); try with_reducible rfl
      try simp (maxSteps := 2000000) only [zz1, zz2, zz3, Act.put, zz4, zz5, zz6]
      refine wpAnyH_take (i := 5) (v := ?_) rfl (by kernel_rfl) (by kernel_rfl) (by kernel_rfl) (fun _ _ _ h => h) (Or.inl ⟨by first | kernel_rfl | rfl, ?_⟩) (by assumption) ?_
      rotate_left
      · (intro wq hSw; (try dsimp only at hSw); (try simp (maxSteps := 2000000) only [zz1, zz2, zz3]); go_simp); try with_reducible rfl
      try simp (maxSteps := 2000000) only [zz1, zz2, zz3, Act.put, zz4, zz5, zz6]
      refine wpAnyH_take (i := 6) (v := ?_) rfl (by kernel_rfl) (by kernel_rfl) (by kernel_rfl) (fun _ _ _ h => h) (Or.inl ⟨by first | kernel_rfl | rfl, ?_⟩) (by assumption) ?_
      rotate_left
      · (intro wq hSw; (try dsimp only at hSw); (try simp (maxSteps := 2000000) only [zz1, zz2, zz3]); go_simp); try with_reducible rfl
      try simp (maxSteps := 2000000) only [zz1, zz2, zz3, Act.put, zz4, zz5, zz6]
      refine wpAnyH_take (i := 7) (v := ?_) rfl (by kernel_rfl) (by kernel_rfl) (by kernel_rfl) (fun _ _ _ h => h) (Or.inl ⟨by first | kernel_rfl | rfl, ?_⟩) (by assumption) ?_
      rotate_left
      · (intro wq hSw; (try dsimp only at hSw); (try simp (maxSteps := 2000000) only [zz1, zz2, zz3]); go_simp); try with_reducible rfl
      try simp (maxSteps := 2000000) only [zz1, zz2, zz3, Act.put, zz4, zz5, zz6]
      refine wpAnyH_take (i := 8) (v := ?_) rfl (by kernel_rfl) (by kernel_rfl) (by kernel_rfl) (fun _ _ _ h => h) (Or.inl ⟨by first | kernel_rfl | rfl, ?_⟩) (by assumption) ?_
      rotate_left
      · (intro wq hSw; (try dsimp only at hSw); (try simp (maxSteps := 2000000) only [zz1, zz2, zz3]); go_simp); try with_reducible rfl
      try simp (maxSteps := 2000000) only [zz1, zz2, zz3, Act.put, zz4, zz5, zz6]
      refine wpAnyH_take (i := 10) (v := ?_) rfl (by kernel_rfl) (by kernel_rfl) (by kernel_rfl) (fun _ _ _ h => h) (Or.inl ⟨by first | kernel_rfl | rfl, ?_⟩) (by assumption) ?_
      rotate_left
      · (intro wq hSw; (try dsimp only at hSw); (try simp (maxSteps := 2000000) only [zz1, zz2, zz3]); go_simp); try with_reducible rfl
      try simp (maxSteps := 2000000) only [zz1, zz2, zz3, Act.put, zz4, zz5, zz6]
      refine wpAnyH_take (i := 11) (v := ?_) rfl (by kernel_rfl) (by kernel_rfl) (by kernel_rfl) (fun _ _ _ h => h) (Or.inl ⟨by first | kernel_rfl | rfl, ?_⟩) (by assumption) ?_
      rotate_left
      · (intro wq hSw; (try dsimp only at hSw); (try simp (maxSteps := 2000000) only [zz1, zz2, zz3]); go_simp); try with_reducible rfl
      try simp (maxSteps := 2000000) only [zz1, zz2, zz3, Act.put, zz4, zz5, zz6]
      refine wpAnyH_ready (rs := [9]) (by kernel_rfl) (by simp) ?_
      refine AllReadyH.cons rfl (fun K hK => ?_) AllReadyH.nil
      try simp (maxSteps := 2000000) only [zz1, zz2, zz3]
      go_simp
      go_at_call 42
      refine ((HP5.out.below hd5).free).mono ?_
      rintro e w6 ⟨rfl, hb⟩
      have hb6 : Below w5.heap.size w5 w6 := hd5.trans (hb.mono hd5.size)
      rw [show c - (0 + 0) = c by omega]
      clear hb
      try (go_wp2_with fail)
      refine hK.out _ _ (by first | exact HSF.out _ hd5 | exact HSF.out _ hb6 | exact HSF.out _ hb7) (fun hHeld => ?_)
      clear hK K
      try simp (maxSteps := 2000000) only [zz1, zz2, zz3, Act.put, zz4, zz5, zz6]
      refine wpAnyH_take (i := 12) (v := ?_) rfl (by kernel_rfl) (by kernel_rfl) (by kernel_rfl) (fun _ _ _ h => h) (Or.inl ⟨by first | kernel_rfl | rfl, ?_⟩) (by assumption) ?_
      rotate_left
      · (intro wq hSw; (try dsimp only at hSw); (try simp (maxSteps := 2000000) only [zz1, zz2, zz3]); go_simp); try with_reducible rfl
      try simp (maxSteps := 2000000) only [zz1, zz2, zz3, Act.put, zz4, zz5, zz6]
      refine wpAnyH_take (i := 13) (v := ?_) rfl (by kernel_rfl) (by kernel_rfl) (by kernel_rfl) (fun _ _ _ h => h) (Or.inl ⟨by first | kernel_rfl | rfl, ?_⟩) (by assumption) ?_
      rotate_left
      · (intro wq hSw; (try dsimp only at hSw); (try simp (maxSteps := 2000000) only [zz1, zz2, zz3]); go_simp); try with_reducible rfl
      try simp (maxSteps := 2000000) only [zz1, zz2, zz3, Act.put, zz4, zz5, zz6]
      refine wpAnyH_take (i := 14) (v := ?_) rfl (by kernel_rfl) (by kernel_rfl) (by kernel_rfl) (fun _ _ _ h => h) (Or.inl ⟨by first | kernel_rfl | rfl, ?_⟩) (by assumption) ?_
      rotate_left
      · (intro wq hSw; (try dsimp only at hSw); (try simp (maxSteps := 2000000) only [zz1, zz2, zz3]); go_simp); try with_reducible rfl
      try simp (maxSteps := 2000000) only [zz1, zz2, zz3, Act.put, zz4, zz5, zz6]
      refine wpAnyH_ready (rs := [15]) (by kernel_rfl) (by simp) ?_
      refine AllReadyH.cons rfl (fun K hK => ?_) AllReadyH.nil
      try simp (maxSteps := 2000000) only [zz1, zz2, zz3]
      go_simp
      go_at_call 43
      refine rolls_any.mono ?_
      rintro e w7 ⟨rfl, hb⟩
      have hb7 : Below w5.heap.size w5 w7 := hb6.trans (hb.mono hb6.size)
      clear hb
      try (go_wp2_with fail)
      refine hK.out _ _ (by first | exact HSF.out _ hd5 | exact HSF.out _ hb6 | exact HSF.out _ hb7) (fun hHeld => ?_)
      clear hK K
      try simp (maxSteps := 2000000) only [zz1, zz2, zz3, Act.put, zz4, zz5, zz6]
      refine wpAnyH_take (i := 16) (v := ?_) rfl (by kernel_rfl) (by kernel_rfl) (by kernel_rfl) (fun _ _ _ h => h) (Or.inl ⟨by first | kernel_rfl | rfl, ?_⟩) (by assumption) ?_
      rotate_left
      · (intro wq hSw; (try dsimp only at hSw); (try simp (maxSteps := 2000000) only [zz1, zz2, zz3]); go_simp); try with_reducible rfl
      try simp (maxSteps := 2000000) only [zz1, zz2, zz3, Act.put, zz4, zz5, zz6]
      refine wpAnyH_take (i := 17) (v := ?_) rfl (by kernel_rfl) (by kernel_rfl) (by kernel_rfl) (fun _ _ _ h => h) (Or.inl ⟨by first | kernel_rfl | rfl, ?_⟩) (by assumption) ?_
      rotate_left
      · (intro wq hSw; (try dsimp only at hSw); (try simp (maxSteps := 2000000) only [zz1, zz2, zz3]); go_simp); try with_reducible rfl
      try simp (maxSteps := 2000000) only [zz1, zz2, zz3, Act.put, zz4, zz5, zz6]
      refine wpAnyH_done (by kernel_rfl) ?_ _
      clear hHeld
      go_wp2_with fail
      go_ret
      exact ⟨rfl, HW5.out.trans (hb7.mono HW5.out.size)⟩
end Go.Proofs.YtcliejdiaohamaaGreat

set_option linter.unusedSimpArgs false
set_option linter.unusedVariables false
namespace Go.Proofs.YtcliejdiaohamaaGreat
open Go.RowKit Go.Cib
attribute [local go_sem] cell_set Later.cell Later.frozen Grw.cell Grw.frozen
open Go.ChangeShapes Go.WideShapes Go.ChangeAt Go.Deep
theorem opens_by : Opens Tryz.prog 5 ByR 1 :=
  ⟨by kernel_rfl, by omega, fun H enc w base spare held fuel cs x _ hx => by
    obtain ⟨n, rfl, _, hw⟩ := DataW.trod_int Tryz.underlying5 hx
    have h2 : 0 ≤ n ∧ n ≤ 255 := by
      simp [Lit.wf, IntKind.min, IntKind.max, IntKind.signed, IntKind.bits] at hw
      omega
    exact ⟨n.toNat, by omega, by rw [show ((n.toNat : Nat) : Int) = n by omega]⟩⟩
end Go.Proofs.YtcliejdiaohamaaGreat

set_option linter.unusedSimpArgs false
set_option linter.unusedVariables false
namespace Go.Proofs.YtcliejdiaohamaaGreat
open Go.RowKit Go.Cib
attribute [local go_sem] cell_set Later.cell Later.frozen Grw.cell Grw.frozen
open Go.ChangeShapes Go.WideShapes Go.ChangeAt Go.Deep
set_option maxRecDepth 100000 in
theorem open_base {H : Type} {enc : TypeId × Value → H} {w : World} {base b0 : Nat} {spare : Nat → Bool} {held : Bool} {r : Reach} {v : Value} {d : DataW H} {ps : List MemPlace}
    (hval : Value.okWide Tryz.prog w r b0 76 v) (h : DataW.Trod enc Tryz.prog w base spare held 76 v d ps) : ∃ k m f c : Int, v = .agg #[.int .i64 k, .int .i64 m, .int .i64 f, .int .i64 c] := by
  obtain ⟨cs, rfl, hsz⟩ := okWide_struct Tryz.underlying76 hval
  obtain ⟨fuel, hx⟩ := h
  have h5 : cs.size = 4 := hsz.trans (by kernel_rfl)
  have hl : (Value.agg cs).cells.toList.length = 4 := by simpa [Value.cells] using h5
  obtain ⟨xs, n, _, _, hlen, hxl, hf⟩ := DataW.trod_struct Tryz.underlying76 hx
  have e0 : (Value.agg cs).cells.toList = cs.toList := rfl
  rw [e0] at hf hl
  match hc : cs.toList, hl with
  | [c0, c1, c2, c3], _ =>
    rw [hc] at hf
    have f0 := hf 0 _ rfl
    have f1 := hf 1 _ rfl
    have f2 := hf 2 _ rfl
    have f3 := hf 3 _ rfl
    have k1 : Tryz.prog.cellsOf 3 = 1 := by kernel_rfl
    have hx3 : xs.length = 4 := hxl
    simp only [List.getElem_toArray, List.getElem_cons_zero, List.getElem_cons_succ, k1, List.drop_zero, List.drop_succ_cons, List.take_succ_cons, List.take_zero] at f0 f1 f2 f3
    rw [List.getElem?_eq_getElem (by omega)] at f0 f1 f2 f3
    obtain ⟨s, e1, _, _⟩ := DataW.trod_int Tryz.underlying3 f0
    obtain ⟨t, e2, _, _⟩ := DataW.trod_int Tryz.underlying3 f1
    obtain ⟨u, e3, _, _⟩ := DataW.trod_int Tryz.underlying3 f2
    obtain ⟨x, e4, _, _⟩ := DataW.trod_int Tryz.underlying3 f3
    simp only [List.cons.injEq, and_true] at e1 e2 e3 e4
    subst e1; subst e2; subst e3; subst e4
    refine ⟨s, t, u, x, ?_⟩
    rw [show cs = cs.toList.toArray by simp, hc]
end Go.Proofs.YtcliejdiaohamaaGreat
