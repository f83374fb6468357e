/-
  The matrix of fractions.
-/
import Derived.Test.YthhljmlpjnkfgaaGreatMat2
set_option linter.unusedSimpArgs false
set_option linter.unusedVariables false
namespace Go.Proofs.YthhljmlpjnkfgaaGreat
open Go.RowKit Go.Cib
attribute [local go_sem] cell_set Later.cell Later.frozen Grw.cell Grw.frozen

theorem call_cauchy (args : Array Value) (w : World) : (callFunc 49 args).run Tryz.prog w = .ok (.enter 49 args) w := by go_simp
set_option maxRecDepth 100000 in
set_option maxHeartbeats 1600000 in
theorem cauchy1_any {w : World} {b fb xb yb n1 n2 c1 c2 : Nat} {A1 A2 : Option Addr} {S1 S2 : Nat → Prop} {xs ys : List Nat} (F : Fld w b) (hf : BoxAt w fb #[.pointer (some ⟨b, 0, none⟩)]) (hx : BoxAt w xb #[.slice A1 n1 c1]) (hy : BoxAt w yb #[.slice A2 n2 c2])
    (R1 : RdL ByR 1 S1 w A1 n1 xs) (R2 : RdL ByR 1 S2 w A2 n2 ys) {i j : Nat} (hi : i < n1) (hj : j < n2) (hne : gt xs i ≠ gt ys j) :
    Calls Tryz.prog 49 #[.int .i64 (i : Int), .int .i64 (j : Int), .pointer (some ⟨fb, 0, none⟩), .pointer (some ⟨xb, 0, none⟩), .pointer (some ⟨yb, 0, none⟩)] w fun e w' => e = .returned (.int .u8 (dv 1 (gt xs i ^^^ gt ys j) : Int)) ∧ Below w.heap.size w w' := by
  obtain ⟨b1, o1, rfl, _, l1⟩ := R1.addr hi
  obtain ⟨b2, o2, rfl, _, l2⟩ := R2.addr hj
  obtain ⟨v1, x1⟩ := by_at R1 hi
  obtain ⟨v2, x2⟩ := by_at R2 hj
  have k1 := hf.cell 0
  have k2 := hx.cell 0
  have k3 := hy.cell 0
  have g1 := hf.lt
  have g2 := hx.lt
  have g3 := hy.lt
  have q1 : (i : Int) < (n1 : Int) := by omega
  have q2 : (j : Int) < (n2 : Int) := by omega
  have q3 : (0 : Int) ≤ (i : Int) := Int.natCast_nonneg _
  have q4 : (0 : Int) ≤ (j : Int) := Int.natCast_nonneg _
  have hxb := xor_bits x1 x2
  have hdv := fun (y : Later w.heap.size w) => div_any (F.below y.ok) (a := 1) (c := gt xs i ^^^ gt ys j) (by decide) (xor_ne hne) (xor_lt x1 x2)
  clear hf hx hy R1 R2 F hi hj
  go_enter Tryz.func49, Tryz.ntmps49
  go_wp2_with fail
  refine wp_region_later (by kernel_rfl) (by kernel_rfl) ?_
  repeat (go_big_quiet_step ((go_at_call 50; exact Later.call _ (hdv _) (Nat.le_refl _))))
  refine wpQuiet_nil ?_
  rintro _ ⟨z, rfl⟩
  go_wp2_with fail
  go_ret
  exact ⟨rfl, z.ok⟩

theorem gt_mem {l : List Nat} {i : Nat} (h : i < l.length) : gt l i ∈ l := List.mem_of_getElem? (gt_of_lt h)
/-- The factors of parity. -/
def cauF (xs ys : List Nat) (i j : Nat) : Nat := dv 1 (gt xs i ^^^ gt ys j)
set_option maxRecDepth 100000 in
set_option maxHeartbeats 4000000 in
theorem cauchy_new {w : World} {b n1 n2 c1 c2 : Nat} {A1 A2 : Option Addr} {S : Nat → Prop} {xs ys : List Nat} (F : FldNew w b) (R1 : RdL ByR 1 S w A1 n1 xs) (R2 : RdL ByR 1 S w A2 n2 ys) (hS : ¬ S b)
    (h1 : 1 ≤ n1) (h2 : n1 ≤ 255) (h3 : 1 ≤ n2) (h4 : n2 ≤ 255) (hcc1 : n1 ≤ c1) (hcc2 : n2 ≤ c2) (hnd : (xs ++ ys).Nodup) :
    Calls Tryz.prog 27 #[.pointer (some ⟨b, 0, none⟩), .slice A1 n1 c1, .slice A2 n2 c2] w fun e w' => ∃ A c, e = .returned (.tuple #[.agg #[.int .i64 (n1 : Int), .int .i64 (n2 : Int), .slice A (n1 * n2) c], .int .i64 0]) ∧ n1 * n2 ≤ c ∧
      RdL ByR 1 (fun k => w.heap.size ≤ k) w' A (n1 * n2) (flatF (cauF xs ys) n1 n2) ∧ Fld w' b ∧ Keep (· = b) w w' := by
  have hl1 := R1.1
  have hl2 := R2.1
  have HR1 := Lib.hid R1
  have HR2 := Lib.hid R2
  have HF := Lib.hid F
  have d1 : decide (1 ≤ (n1 : Int) ∧ (n1 : Int) ≤ 255) = true := by simp; omega
  have d2 : decide (1 ≤ (n2 : Int) ∧ (n2 : Int) ≤ 255) = true := by simp; omega
  have hbl : b < w.heap.size := by obtain ⟨cs, hb, _⟩ := F.ex; exact hb.lt
  clear F R1 R2
  go_enter Tryz.func27, Tryz.ntmps27
  go_wp2_with fail
  have hb1 := (((BoxAt.new w #[.pointer (some ⟨b, 0, none⟩)] 25).alloc (.cells #[.slice A1 n1 c1] 29)).alloc (.cells #[.slice A2 n2 c2] 29)).alloc (.cells #[.int .i64 0, .int .i64 0, .slice none 0 0] 55)
  have hb2 := ((BoxAt.new (w.alloc (.cells #[.pointer (some ⟨b, 0, none⟩)] 25)) #[.slice A1 n1 c1] 29).alloc (.cells #[.slice A2 n2 c2] 29)).alloc (.cells #[.int .i64 0, .int .i64 0, .slice none 0 0] 55)
  have hb3 := (BoxAt.new ((w.alloc (.cells #[.pointer (some ⟨b, 0, none⟩)] 25)).alloc (.cells #[.slice A1 n1 c1] 29)) #[.slice A2 n2 c2] 29).alloc (.cells #[.int .i64 0, .int .i64 0, .slice none 0 0] 55)
  have hb4 := BoxAt.new (((w.alloc (.cells #[.pointer (some ⟨b, 0, none⟩)] 25)).alloc (.cells #[.slice A1 n1 c1] 29)).alloc (.cells #[.slice A2 n2 c2] 29)) #[.int .i64 0, .int .i64 0, .slice none 0 0] 55
  have hbA : Below w.heap.size w ((((w.alloc (.cells #[.pointer (some ⟨b, 0, none⟩)] 25)).alloc (.cells #[.slice A1 n1 c1] 29)).alloc (.cells #[.slice A2 n2 c2] 29)).alloc (.cells #[.int .i64 0, .int .i64 0, .slice none 0 0] 55)) := (by repeat (first | (with_reducible exact Below.refl _ _) | (with_reducible assumption) | (with_reducible refine Below.drew ?_) | (with_reducible refine Below.setCell ?_ ?_ _) | (with_reducible refine Below.alloc ?_ ?_ _) | (with_reducible refine Below.later ?_ ?_ _) | (first | (with_reducible exact Nat.le_refl _) | omega | (simp only [World.size_alloc, World.size_setCell, World.size_drew] <;> omega))))
  simp only [World.size_alloc] at hb1 hb2 hb3 hb4
  generalize ((((w.alloc (.cells #[.pointer (some ⟨b, 0, none⟩)] 25)).alloc (.cells #[.slice A1 n1 c1] 29)).alloc (.cells #[.slice A2 n2 c2] 29)).alloc (.cells #[.int .i64 0, .int .i64 0, .slice none 0 0] 55)) = wA at *
  have HA := Lib.hid hbA
  refine (nobody_new (w := wA) (b := b) ?_).mono ?_
  · obtain ⟨cs, h5, h6⟩ := HF.out.ex
    exact ⟨cs, h5.below hbA, h6⟩
  rintro e w2 ⟨rfl, F2, K2⟩
  replace hb1 := hb1.keeps K2 (by omega)
  replace hb2 := hb2.keeps K2 (by omega)
  replace hb3 := hb3.keeps K2 (by omega)
  replace hb4 := hb4.keeps K2 (by omega)
  have HK2 := Lib.hid K2
  have HF2 := Lib.hid F2
  have hk2 : Keep (· = b) w w2 := (Keep.of_below (F := fun k => k = b) hbA).trans K2 (fun k h _ => h)
  have r1 := RdL.keep ByR.stable HR1.out hk2 (fun k hk e => hS (e ▸ hk))
  have r2 := RdL.keep ByR.stable HR2.out hk2 (fun k hk e => hS (e ▸ hk))
  have HB1 := Lib.hid hb1
  have HB2 := Lib.hid hb2
  have HB3 := Lib.hid hb3
  have HB4 := Lib.hid hb4
  have HR1 := Lib.hid r1
  have HR2 := Lib.hid r2
  have HKK := Lib.hid hk2
  have k1 := hb1.cell 0
  have k2 := hb2.cell 0
  have k3 := hb3.cell 0
  have l4 := hb4.lt
  have l3 := hb3.lt
  have l2 := hb2.lt
  have l1 := hb1.lt
  clear hb1 hb2 hb3 hb4 r1 r2 hk2 K2 F2 hbA
  go_wp2_with (go_at_call 46; refine (within_any _).mono ?_; rintro e w9 ⟨rfl, hw9⟩; rw [hw9]; clear hw9; try rw [d1]; try rw [d2])
  have hal : Below w2.heap.size w2 (w2.alloc (.cells #[.slice A1 n1 c1, .slice A2 n2 c2] 29)) := (Below.refl _ _).alloc (Nat.le_refl _) _
  have hbx := BoxAt.new w2 #[.slice A1 n1 c1, .slice A2 n2 c2] 29
  obtain ⟨wB, hwB⟩ : ∃ wB, w2.alloc (.cells #[.slice A1 n1 c1, .slice A2 n2 c2] 29) = wB := ⟨_, rfl⟩
  rw [hwB] at hal hbx ⊢
  have hls : RdL RowR 1 (fun _ => True) wB (some ⟨w2.heap.size, 0, none⟩) 2 [xs, ys] := ⟨rfl, fun _ => ⟨_, 0, rfl, trivial, hbx.lt, fun i x hx => by
    rcases i with _ | _ | i
    · simp at hx; subst hx
      refine ⟨[.slice A1 n1 c1], rfl, ⟨A1, n1, c1, rfl, hcc1, (HR1.out.below ByR.stable hal).weaken ByR.stable (fun _ _ => trivial)⟩, fun j v hj => ?_⟩
      rcases j with _ | j
      · simp at hj; subst hj
        exact hbx.cell 0
      · simp at hj
    · simp at hx; subst hx
      refine ⟨[.slice A2 n2 c2], rfl, ⟨A2, n2, c2, rfl, hcc2, (HR2.out.below ByR.stable hal).weaken ByR.stable (fun _ _ => trivial)⟩, fun j v hj => ?_⟩
      rcases j with _ | j
      · simp at hj; subst hj
        exact hbx.cell 1
      · simp at hj
    · simp at hx⟩⟩
  refine (twice_any hls (by omega) (by intro l hl; simp at hl; rcases hl with rfl | rfl <;> omega) (by simpa using hnd)).mono ?_
  rintro e w4 ⟨rfl, hb4⟩
  have hb24 : Below w2.heap.size w2 w4 := hal.trans (hb4.mono hal.size)
  have HB24 := Lib.hid hb24
  replace k1 := ((HB1.out.below hb24)).cell 0
  replace k2 := ((HB2.out.below hb24)).cell 0
  replace k3 := ((HB3.out.below hb24)).cell 0
  clear hls hbx hal hwB hb4
  have hs24 := hb24.size
  go_wp2_with fail
  refine (filled_any h2 h4 (g := 49) (f := cauF xs ys) (Lib.hid call_cauchy) (Lib.hid fun i j W hi hj hW => ?_)).mono ?_
  · have hb2W : Below w2.heap.size w2 W := HB24.out.trans (hW.mono hs24)
    have hne : gt xs i ≠ gt ys j := fun e => (List.nodup_append.1 hnd).2.2 _ (gt_mem (by omega)) _ (gt_mem (by omega)) e
    exact (cauchy1_any (HF2.out.below hb2W) (HB1.out.below hb2W) (HB2.out.below hb2W) (HB3.out.below hb2W) (HR1.out.below ByR.stable hb2W) (HR2.out.below ByR.stable hb2W) hi hj hne).mono fun e W' h => ⟨h.1, gm_lt, h.2⟩
  rintro e w5 ⟨A, c, rfl, hc, hr, hb5⟩
  have hb25 : Below w2.heap.size w2 w5 := HB24.out.trans (hb5.mono hs24)
  have g0 := (HB4.out.below hb25).cell 0
  have g1 := (HB4.out.below hb25).cell 1
  have g2 := (HB4.out.below hb25).cell 2
  have f0 := (HB4.out.below hb25).frozen 0
  have f1 := (HB4.out.below hb25).frozen 1
  have f2 := (HB4.out.below hb25).frozen 2
  have HB25 := Lib.hid hb25
  have HRR := Lib.hid hr
  have hs25 := hb25.size
  clear hr hb5 hb25 k1 k2 k3 hnd
  go_wp2_with fail
  refine bodyPost_ret (v := .tuple #[.agg #[.int .i64 (n1 : Int), .int .i64 (n2 : Int), .slice A (n1 * n2) c], .int .i64 0]) (by simp [results, Tryz.results27, go_sem, *]) rfl ?_
  refine ⟨A, c, rfl, hc, ?_, ?_, ?_⟩
  · refine RdL.weaken ByR.stable (S := fun k => w4.heap.size ≤ k) ?_ (fun k hk => by have h5 : w4.heap.size ≤ k := hk; show _ ≤ k; omega)
    repeat (first | exact HRR.out | refine RdL.setCell ByR.stable ?_ (show ¬ w4.heap.size ≤ _ by dsimp only; omega) _)
  · refine HF2.out.keep ?_
    have hbk := HB25.out.block b (by omega)
    repeat (first | exact hbk | refine (Below.heap_setCell _ _ _ _ (by dsimp only; omega)).trans ?_)
  · have hkk : Keep (· = b) w w5 := HKK.out.trans (Keep.of_below (F := fun _ => False) HB25.out) (fun _ h => h.elim)
    repeat (first | exact hkk | refine Keep.setCell ?_ (fun h5 => absurd h5 (by dsimp only; omega)) _)
end Go.Proofs.YthhljmlpjnkfgaaGreat
