/-
  All rows: data, and parity behind.
  Bytes as text; the page's own numbers.
  Rows that are the same, told so.
  What must come at any rate.
  Too few rows: plain.
  Rows of which some are taken away.
  Rows put together.
  Bytes appended to a row of zeros with room: the row filled.
  A text cut into rows.
  The inverse is one from both sides; what k rows of a code give back: plain.
  What k rows of a code give back: plain.
-/
import Derived.Test.YthhljmlpjnkfgaaGreatDa6
import Derived.Lib.SlBytesConst
import Derived.Laws.BytesArg
import Derived.Test.YthhljmlpjnkfgaaGreatDa5
set_option linter.unusedSimpArgs false
set_option linter.unusedVariables false
namespace Go.Proofs.YthhljmlpjnkfgaaGreat
open Go.RowKit Go.Cib
attribute [local go_sem] cell_set Later.cell Later.frozen Grw.cell Grw.frozen

def CalE (w : World) (k m N : Nat) (ss : Rws) (e : Ending) (w' : World) : Prop := Below w.heap.size w w' ∧
  ((goodB k N ss = false ∧ e = .returned (.tuple #[.slice none 0 0, .int .i64 2])) ∨
   (goodB k N ss = true ∧ ∃ A c, e = .returned (.tuple #[.slice A (k + m) c, .int .i64 0]) ∧ k + m ≤ c ∧ RdL RowR 1 (fun j => w.heap.size ≤ j) w' A (k + m) (ss ++ encU k ss (lenF0 ss) m)))
set_option maxRecDepth 100000 in
set_option maxHeartbeats 8000000 in
theorem call2_any {w : World} {cb b k m N cs : Nat} {As : Option Addr} {S : Nat → Prop} {ss : Rws} (H : CodAt w cb b k m) (R : RdL RowR 1 S w As N ss) (hN : N ≤ 1000) (hlen : ∀ i, (ra ss i).length ≤ 1000000) :
    Calls Tryz.prog 23 #[.pointer (some ⟨cb, 0, none⟩), .slice As N cs] w fun e w' => CalE w k m N ss e w' := by
  have HC := Lib.hid H
  have HR := Lib.hid R
  have hsl := R.1
  have hk1 := H.k1
  have hkm := H.km
  have hen := encode_any (cs := cs) H R hN (hlen 0)
  have q0 : (N : Int) ≤ 1000 := by omega
  clear H R
  go_enter Tryz.func23, Tryz.ntmps23
  go_wp2_with fail
  refine hen.mono ?_
  rintro e w1 ⟨hb1, ⟨hB, rfl⟩ | ⟨hB, Ap, cp, rfl, hrp⟩⟩
  · have HB := Lib.hid hB
    clear hB hen
    go_wp2_with fail
    go_ret2
    exact ⟨hb1, .inl ⟨HB.out, rfl⟩⟩
  · have HB := Lib.hid hB
    have hNk : N = k := by
      unfold goodB at hB
      rw [Bool.and_eq_true] at hB
      simpa using hB.1
    subst hNk
    have hal := all_any (HC.out.below hb1)
    have HP := Lib.hid hrp
    have HB1 := Lib.hid hb1
    have q1 : ((N + m : Nat) : Int) ≤ 255 := by omega
    have q2 : (0 : Int) ≤ ((N + m : Nat) : Int) := Int.natCast_nonneg _
    clear hB hen hrp
    go_wp2_with fail
    refine hal.mono ?_
    rintro e w2 ⟨rfl, hb2⟩
    have hb02 := HB1.out.trans (hb2.mono HB1.out.size)
    have hs1 := HB1.out.size
    have hs2 := hb2.size
    have hrp2 : RdL RowR 1 (fun j => w.heap.size ≤ j ∧ j < w2.heap.size) w2 Ap m (encU N ss (lenF0 ss) m) := RdL.stable RowR.stable HP.out fun b hS hlt => ⟨⟨hS, by omega⟩, hb2.block b hlt⟩
    have HP2 := Lib.hid hrp2
    have HB02 := Lib.hid hb02
    clear hal hb2 hrp2 hb02
    go_wp2_with (at_make; refine wpList_make0 RowR (fun j => w.heap.size ≤ j) sl_rows rfl rfl (base := w2.heap.size) rfl rfl (N + m) (by omega) (by omega) (by unfold maxLen; omega) (by (first | (with_reducible exact Nat.le_refl _) | omega | (simp only [World.size_alloc, World.size_setCell, World.size_drew] <;> omega))) ?_; intro y hys hown; have HO := Lib.hid hown; have HY := Lib.hid (show Below w2.heap.size w2 y.to from y.ok); clear hown hys)
    go_loopw [8, 27] (fun vs vi wr => ∃ (i : Nat) (A : Option Addr) (c : Nat), i ≤ N ∧ vi = .int .i64 i ∧ vs = .slice A i c ∧ i ≤ c ∧ Hid (OwnL RowR 29 1 w2.heap.size (fun j => w.heap.size ≤ j) wr (.slice A i c) i (ss.take i)) ∧ Hid (Below w2.heap.size w2 wr)) (fun _ vi _ => N - (intOf vi).toNat)
    case atStart => exact ⟨0, _, _, Nat.zero_le _, rfl, rfl, Nat.zero_le _, by rw [List.take_zero]; exact HO, HY⟩
    case round =>
      clear HO HY
      obtain ⟨i, A, c, hi, rfl, rfl, hc, HO, HY⟩ := hrel
      have p0 : (0 : Int) ≤ (i : Int) := Int.natCast_nonneg _
      by_cases hlt : i < N
      · have p1 : (i : Int) < (N : Int) := by omega
        have hb0r : Below w.heap.size w wr := HB02.out.trans (HY.out.mono HB02.out.size)
        obtain ⟨bb, o, rfl, _, hbb⟩ := HR.out.addr hlt
        obtain ⟨A1, m1, c1, v1, hmc1, r1⟩ := row_at HR.out hlt
        have v1' := (hb0r.cell (p := ⟨bb, o + i, none⟩) hbb).trans v1
        have r1' := r1.below ByR.stable hb0r
        have hm1l : m1 ≤ 1000000 := by have := hlen i; rw [r1.1] at this; exact this
        have hnx : ss.take (i + 1) = ss.take i ++ [ra ss i] := by rw [List.take_add_one, ra_of_lt (by omega)]; rfl
        have HNX := Lib.hid hnx
        have HR1 := Lib.hid r1'
        have hszr := hb0r.size
        have hs2r := HY.out.size
        clear hnx r1 r1' v1
        go_wp2_with (first
          | (at_builtin; refine wpList_appL ByR.stable ByR.one sl_by rfl (by exact rfl) (base := wr.heap.size) (S := fun _ => True) (n := 0) (v := .slice none 0 0) (xs := []) (by exact rfl) OwnL.nil_ (by exact rfl) HR1.out (fun _ _ h => h) (by unfold maxLen; omega) (by omega) (Nat.le_refl _) ?_; intro A3 c3 w3 hc3 hown3 hg3 hat; simp only [Nat.zero_add, List.nil_append] at hc3 hown3 ⊢; have hb3 : Below wr.heap.size wr w3 := ⟨hg3.os, hg3.tape, hg3.output, hg3.size, fun k hk => hg3.block k hk (by intro h; cases h)⟩; have hv3 := (RowV.of_own hown3).rd (S := Go.Cib.Rest (fun j => w.heap.size ≤ j) (.slice A i c)) (fun j hj => ⟨(by show _ ≤ j; omega), fun e => (by have := (HO.out.lt _ e.symm).2; omega)⟩); have HV3 := Lib.hid hv3; have HO3 := Lib.hid (HO.out.keep RowR.stable hb3); have HB3 := Lib.hid (HY.out.trans (hb3.mono HY.out.size)); have hs3 := HB3.out.size; clear hv3 hb3 hown3 hg3 hat)
          | (at_builtin; go_must (refine wpList_push1 RowR.stable RowR.one sl_rows (by rfl) (by rfl) (base := w2.heap.size) (S := fun j => w.heap.size ≤ j) (cs := #[.slice A3 m1 c3]) (y := ra ss i) (by rfl) (by rfl) HO3.out (by rfl) ⟨A3, m1, c3, rfl, hc3, HV3.out⟩ (by unfold maxLen; omega) (by omega) hs3 ?_); intro A8 c8 ug hc8 own9 hlt8 hb8 hat8; rw [← HNX.out] at own9; have HO9 := Lib.hid own9; have HB9 := Lib.hid (HB3.out.trans hb8); clear own9 hb8 hlt8 hat8))
        exact ⟨⟨i + 1, A8, c8, by omega, by go_num, rfl, hc8, HO9, HB9⟩, by simp [intOf]; omega⟩
      · have p1 : ¬ (i : Int) < (N : Int) := by omega
        obtain rfl : i = N := by omega
        rw [List.take_of_length_le (by omega)] at HO
        have hs2r := HY.out.size
        have hrest : ∀ cs y, RowR (fun j => w.heap.size ≤ j ∧ j < w2.heap.size) wr cs y → RowR (Go.Cib.Rest (fun j => w.heap.size ≤ j) (.slice A i c)) wr cs y := fun cs y h => RowR.stable _ _ _ _ _ _ h fun b hb _ => ⟨⟨hb.1, fun e => by have := (HO.out.lt _ e.symm).1; omega⟩, rfl⟩
        have hp3 := HP2.out.below RowR.stable HY.out
        have HRE := Lib.hid hrest
        have HP3 := Lib.hid hp3
        clear hrest hp3
        go_wp2_with (at_builtin; go_must (refine wpList_appL RowR.stable RowR.one sl_rows rfl (by exact rfl) (base := w2.heap.size) (S := fun j => w.heap.size ≤ j) (by exact rfl) HO.out (by exact rfl) HP3.out HRE.out (by unfold maxLen; omega) (by omega) hs2r ?_); intro A3 c3 w3 hc3 hown3 hg3 hat; have HO3 := Lib.hid hown3; have HB3 := Lib.hid (show Below w2.heap.size w2 w3 from HY.out.trans ⟨hg3.os, hg3.tape, hg3.output, (by have := hg3.size; omega), fun k hk => hg3.block k (Nat.lt_of_lt_of_le hk hs2r) (fun e => by have := (HO.out.lt _ e.symm).1; omega)⟩); clear hown3 hg3 hat)
        go_ret2
        obtain ⟨A', c', e, _, hr⟩ := HO3.out.rd (S' := fun j => w.heap.size ≤ j) (fun j hj => by omega) (fun cs x hx => RowR.stable _ _ _ _ _ _ hx fun b hb _ => ⟨hb.1, rfl⟩)
        injection e with e1 _ e2
        subst e1; subst e2
        exact ⟨HB02.out.trans (HB3.out.mono HB02.out.size), .inr ⟨HB.out, A3, c3, rfl, hc3, hr⟩⟩
end Go.Proofs.YthhljmlpjnkfgaaGreat

set_option linter.unusedSimpArgs false
set_option linter.unusedVariables false
namespace Go.Proofs.YthhljmlpjnkfgaaGreat
open Go.RowKit Go.Cib
attribute [local go_sem] cell_set Later.cell Later.frozen Grw.cell Grw.frozen

def textB (xs : List Nat) : ByteArray := strOfNums (xs.map fun x : Nat => (x : Int))
theorem by_u8 {S : Nat → Prop} {w : World} {A : Option Addr} {n : Nat} {xs : List Nat} (h : RdL ByR 1 S w A n xs) : RdL U8R 1 S w A n (xs.map fun x : Nat => (x : Int)) := by
  refine ⟨by rw [List.length_map]; exact h.1, fun hn => ?_⟩
  obtain ⟨b, o, hA, hS, hlt, hc⟩ := h.2 hn
  refine ⟨b, o, hA, hS, hlt, fun i x hx => ?_⟩
  rw [List.getElem?_map] at hx
  cases hl : xs[i]? with
  | none => rw [hl] at hx; cases hx
  | some y =>
    rw [hl] at hx
    injection hx with hx
    obtain ⟨cs, h1, ⟨_, h2⟩, h3⟩ := hc i y hl
    exact ⟨cs, h1, by rw [h2, ← hx]; rfl, h3⟩
theorem text_run {S : Nat → Prop} {w : World} {A : Option Addr} {n c : Nat} {xs : List Nat} (h0 : RdL ByR 1 S w A n xs) : (convert 29 9 (.slice A n c)).run Tryz.prog w = .ok (.string (textB xs)) w := by
  have h := by_u8 h0
  unfold textB
  generalize (xs.map fun x : Nat => (x : Int)) = bs at h ⊢
  by_cases hn : 0 < n
  · obtain ⟨b, o, rfl, _, _⟩ := h.addr hn
    refine run_convert_bytes_arg w _ 5 (by kernel_rfl) (by kernel_rfl) b o n c _ h.1 (fun i hi => ?_) _ (by kernel_rfl)
    obtain ⟨hl, cs, h1, h2, h3⟩ := h.at hi
    have := h3 0 _ (by rw [h2]; rfl)
    simp only [Nat.mul_one, Nat.add_zero] at this
    rw [this]
    simp [List.getD, hl]
  · obtain rfl : n = 0 := by omega
    have hb := List.length_eq_zero_iff.1 h.1
    rw [hb, run_convert_bytes_string w _ _ 5 _ _ _ (by kernel_rfl) (by kernel_rfl) (by kernel_rfl)]
    cases A with
    | none => simp [Conv.bytesToString]; rfl
    | some a => simp [Conv.bytesToString, loadCells, loadCellsFrom]; rfl
def par1 : List Nat := combF (rowF 2 2) [[5], [9]] [0]
theorem enc1 : encU 2 [[5], [9]] (lenF0 [[5], [9]]) 1 = [par1] := rfl
theorem out1 : outF 2 3 2 [[], [9], par1] = [[5], [9]] := by decide +kernel
theorem th1 : thU [[], [9], par1] 3 = [1, 2] := by decide +kernel
theorem bad1 : thBad 2 1 3 [[], [9], par1] = false := by decide +kernel
theorem th2 : thU [[], [9], []] 3 = [1] := by decide +kernel
theorem bad2 : thBad 2 1 3 [[], [9], []] = false := by decide +kernel
theorem srt1 : srtF [2, 1] = [1, 2] := by
  unfold srtF
  simp [List.mergeSort, List.MergeSort.Internal.splitInTwo, List.merge]
theorem us1 : usN 2 [2, 1] = [1, 2] := by unfold usN; rw [srt1]; rfl
theorem pl1 : planF 2 [1, 2] 1 = [1, 0] := by decide +kernel
theorem tx5 : textB [5] = ⟨#[5]⟩ := by decide +kernel
theorem tx9 : textB [9] = ⟨#[9]⟩ := by decide +kernel
theorem tx10 : textB [1, 0] = ⟨#[1, 0]⟩ := by decide +kernel
end Go.Proofs.YthhljmlpjnkfgaaGreat

set_option linter.unusedSimpArgs false
set_option linter.unusedVariables false
namespace Go.Proofs.YthhljmlpjnkfgaaGreat
open Go.RowKit Go.Cib
attribute [local go_sem] cell_set Later.cell Later.frozen Grw.cell Grw.frozen

set_option maxRecDepth 100000 in
set_option maxHeartbeats 8000000 in
theorem same5_any {w : World} {n ca cb : Nat} {A B : Option Addr} {S1 S2 : Nat → Prop} {ss : Rws} (R1 : RdL RowR 1 S1 w A n ss) (R2 : RdL RowR 1 S2 w B n ss) (hn : n ≤ 1000) :
    Calls Tryz.prog 21 #[.slice A n ca, .slice B n cb] w fun e w' => e = .returned (.bool true) ∧ Below w.heap.size w w' := by
  have H1 := Lib.hid R1
  have H2 := Lib.hid R2
  have q1 : (n : Int) ≤ 1000 := by omega
  have q9 : ((n : Int) != (n : Int)) = false := by simp
  clear R1 R2
  go_enter Tryz.func21, Tryz.ntmps21
  go_wp2_with fail
  go_loopw [5] (fun vi wr => ∃ i : Nat, i ≤ n ∧ vi = .int .i64 i ∧ Hid (Below w.heap.size w wr)) (fun vi _ => n - (intOf vi).toNat)
  case atStart => exact ⟨0, Nat.zero_le _, rfl, Lib.hid (Below.refl _ _)⟩
  case round =>
    obtain ⟨wq, rfl⟩ : ∃ wq, wq = wr := ⟨_, rfl⟩
    obtain ⟨i, hi, rfl, HB⟩ := hrel
    have p0 : (0 : Int) ≤ (i : Int) := Int.natCast_nonneg _
    by_cases hlt : i < n
    · have p1 : (i : Int) < (n : Int) := by omega
      obtain ⟨ba, oa, rfl, _, hba⟩ := H1.out.addr hlt
      obtain ⟨bb, ob, rfl, _, hbb⟩ := H2.out.addr hlt
      obtain ⟨A1, m1, c1, v1, _, r1⟩ := row_at H1.out hlt
      obtain ⟨A2, m2, c2, v2, _, r2⟩ := row_at H2.out hlt
      have u1 := fun w' (h : Below wq.heap.size wq w') => ((HB.out.trans (h.mono HB.out.size)).cell (p := ⟨ba, oa + i, none⟩) hba).trans v1
      have u2 := fun w' (h : Below wq.heap.size wq w') => ((HB.out.trans (h.mono HB.out.size)).cell (p := ⟨bb, ob + i, none⟩) hbb).trans v2
      have t1 := fun w' (h : Below wq.heap.size wq w') => text_run (c := c1) (r1.below ByR.stable (HB.out.trans (h.mono HB.out.size)))
      have t2 := fun w' (h : Below wq.heap.size wq w') => text_run (c := c2) (r2.below ByR.stable (HB.out.trans (h.mono HB.out.size)))
      obtain ⟨tx, htx⟩ : ∃ tx, textB (ra ss i) = tx := ⟨_, rfl⟩
      rw [htx] at t1 t2
      have q8 : (tx != tx) = false := by rw [bne, bytes_beq]; simp
      clear v1 v2 r1 r2 htx hlt
      go_wp2_with fail
      refine wp_region_held_drew (S := fun w' => Below wq.heap.size wq w') (by kernel_rfl) (by first | assumption | exact Below.refl _ _ | exact (Below.refl _ _).drew) (fun hHeld => ?_)
      refine wpAnyH_take (i := 0) (v := ?_) rfl (by kernel_rfl) (by kernel_rfl) (by kernel_rfl) (fun _ _ _ h => h) (Or.inl ⟨by first | kernel_rfl | rfl, ?_⟩) (by assumption) ?_
      rotate_left
      · (intro wq hSw; (try dsimp only at hSw); (try simp (maxSteps := 2000000) only [List.getElem_toArray, List.getElem_cons_succ, List.getElem_cons_zero]); go_simp); try with_reducible rfl
      try simp (maxSteps := 2000000) only [List.getElem_toArray, List.getElem_cons_succ, List.getElem_cons_zero, Act.put, List.setIfInBounds_toArray, List.set_cons_zero, List.set_cons_succ]
      refine wpAnyH_take (i := 1) (v := ?_) rfl (by kernel_rfl) (by kernel_rfl) (by kernel_rfl) (fun _ _ _ h => h) (Or.inl ⟨by first | kernel_rfl | rfl, ?_⟩) (by assumption) ?_
      rotate_left
      · (intro wq hSw; (try dsimp only at hSw); (try simp (maxSteps := 2000000) only [List.getElem_toArray, List.getElem_cons_succ, List.getElem_cons_zero]); go_simp); try with_reducible rfl
      try simp (maxSteps := 2000000) only [List.getElem_toArray, List.getElem_cons_succ, List.getElem_cons_zero, Act.put, List.setIfInBounds_toArray, List.set_cons_zero, List.set_cons_succ]
      refine wpAnyH_take (i := 2) (v := ?_) rfl (by kernel_rfl) (by kernel_rfl) (by kernel_rfl) (fun _ _ _ h => h) (Or.inl ⟨by first | kernel_rfl | rfl, ?_⟩) (by assumption) ?_
      rotate_left
      · (intro wq hSw; (try dsimp only at hSw); (try simp (maxSteps := 2000000) only [List.getElem_toArray, List.getElem_cons_succ, List.getElem_cons_zero]); go_simp); try with_reducible rfl
      try simp (maxSteps := 2000000) only [List.getElem_toArray, List.getElem_cons_succ, List.getElem_cons_zero, Act.put, List.setIfInBounds_toArray, List.set_cons_zero, List.set_cons_succ]
      refine wpAnyH_take (i := 3) (v := ?_) rfl (by kernel_rfl) (by kernel_rfl) (by kernel_rfl) (fun _ _ _ h => h) (Or.inl ⟨by first | kernel_rfl | rfl, ?_⟩) (by assumption) ?_
      rotate_left
      · (intro wq hSw; (try dsimp only at hSw); (try simp (maxSteps := 2000000) only [List.getElem_toArray, List.getElem_cons_succ, List.getElem_cons_zero]); go_simp); try with_reducible rfl
      try simp (maxSteps := 2000000) only [List.getElem_toArray, List.getElem_cons_succ, List.getElem_cons_zero, Act.put, List.setIfInBounds_toArray, List.set_cons_zero, List.set_cons_succ]
      refine wpAnyH_take (i := 4) (v := ?_) rfl (by kernel_rfl) (by kernel_rfl) (by kernel_rfl) (fun _ _ _ h => h) (Or.inl ⟨by first | kernel_rfl | rfl, ?_⟩) (by assumption) ?_
      rotate_left
      · (intro wq hSw; (try dsimp only at hSw); (try simp (maxSteps := 2000000) only [List.getElem_toArray, List.getElem_cons_succ, List.getElem_cons_zero]); go_simp); try with_reducible rfl
      try simp (maxSteps := 2000000) only [List.getElem_toArray, List.getElem_cons_succ, List.getElem_cons_zero, Act.put, List.setIfInBounds_toArray, List.set_cons_zero, List.set_cons_succ]
      refine wpAnyH_take (i := 5) (v := ?_) rfl (by kernel_rfl) (by kernel_rfl) (by kernel_rfl) (fun _ _ _ h => h) (Or.inl ⟨by first | kernel_rfl | rfl, ?_⟩) (by assumption) ?_
      rotate_left
      · (intro wq hSw; (try dsimp only at hSw); (try simp (maxSteps := 2000000) only [List.getElem_toArray, List.getElem_cons_succ, List.getElem_cons_zero]); go_simp); try with_reducible rfl
      try simp (maxSteps := 2000000) only [List.getElem_toArray, List.getElem_cons_succ, List.getElem_cons_zero, Act.put, List.setIfInBounds_toArray, List.set_cons_zero, List.set_cons_succ]
      refine wpAnyH_take (i := 6) (v := ?_) rfl (by kernel_rfl) (by kernel_rfl) (by kernel_rfl) (fun _ _ _ h => h) (Or.inl ⟨by first | kernel_rfl | rfl, ?_⟩) (by assumption) ?_
      rotate_left
      · (intro wq hSw; (try dsimp only at hSw); (try simp (maxSteps := 2000000) only [List.getElem_toArray, List.getElem_cons_succ, List.getElem_cons_zero]); go_simp); try with_reducible rfl
      try simp (maxSteps := 2000000) only [List.getElem_toArray, List.getElem_cons_succ, List.getElem_cons_zero, Act.put, List.setIfInBounds_toArray, List.set_cons_zero, List.set_cons_succ]
      refine wpAnyH_take (i := 7) (v := ?_) rfl (by kernel_rfl) (by kernel_rfl) (by kernel_rfl) (fun _ _ _ h => h) (Or.inl ⟨by first | kernel_rfl | rfl, ?_⟩) (by assumption) ?_
      rotate_left
      · (intro wq hSw; (try dsimp only at hSw); (try simp (maxSteps := 2000000) only [List.getElem_toArray, List.getElem_cons_succ, List.getElem_cons_zero]); go_simp); try with_reducible rfl
      try simp (maxSteps := 2000000) only [List.getElem_toArray, List.getElem_cons_succ, List.getElem_cons_zero, Act.put, List.setIfInBounds_toArray, List.set_cons_zero, List.set_cons_succ]
      refine wpAnyH_take (i := 8) (v := ?_) rfl (by kernel_rfl) (by kernel_rfl) (by kernel_rfl) (fun _ _ _ h => h) (Or.inl ⟨by first | kernel_rfl | rfl, ?_⟩) (by assumption) ?_
      rotate_left
      · (intro wq hSw; (try dsimp only at hSw); (try simp (maxSteps := 2000000) only [List.getElem_toArray, List.getElem_cons_succ, List.getElem_cons_zero]); go_simp); try with_reducible rfl
      try simp (maxSteps := 2000000) only [List.getElem_toArray, List.getElem_cons_succ, List.getElem_cons_zero, Act.put, List.setIfInBounds_toArray, List.set_cons_zero, List.set_cons_succ]
      refine wpAnyH_take (i := 9) (v := ?_) rfl (by kernel_rfl) (by kernel_rfl) (by kernel_rfl) (fun _ _ _ h => h) (Or.inl ⟨by first | kernel_rfl | rfl, ?_⟩) (by assumption) ?_
      rotate_left
      · (intro wq hSw; (try dsimp only at hSw); (try simp (maxSteps := 2000000) only [List.getElem_toArray, List.getElem_cons_succ, List.getElem_cons_zero]); go_simp); try with_reducible rfl
      try simp (maxSteps := 2000000) only [List.getElem_toArray, List.getElem_cons_succ, List.getElem_cons_zero, Act.put, List.setIfInBounds_toArray, List.set_cons_zero, List.set_cons_succ]
      refine wpAnyH_take (i := 10) (v := ?_) rfl (by kernel_rfl) (by kernel_rfl) (by kernel_rfl) (fun _ _ _ h => h) (Or.inl ⟨by first | kernel_rfl | rfl, ?_⟩) (by assumption) ?_
      rotate_left
      · (intro wq hSw; (try dsimp only at hSw); (try simp (maxSteps := 2000000) only [List.getElem_toArray, List.getElem_cons_succ, List.getElem_cons_zero]); go_simp); try with_reducible rfl
      try simp (maxSteps := 2000000) only [List.getElem_toArray, List.getElem_cons_succ, List.getElem_cons_zero, Act.put, List.setIfInBounds_toArray, List.set_cons_zero, List.set_cons_succ]
      refine wpAnyH_done (by kernel_rfl) ?_ _
      go_wp2_with fail
      exact ⟨⟨i + 1, by omega, by go_num, Lib.hid (HB.out.trans ((Below.refl _ _).drew.mono HB.out.size))⟩, by simp [intOf]; omega⟩
    · have p1 : ¬ (i : Int) < (n : Int) := by omega
      go_wp2_with fail
      go_ret
      exact ⟨rfl, HB.out⟩
end Go.Proofs.YthhljmlpjnkfgaaGreat

set_option linter.unusedSimpArgs false
set_option linter.unusedVariables false
namespace Go.Proofs.YthhljmlpjnkfgaaGreat
open Go.RowKit Go.Cib
attribute [local go_sem] cell_set Later.cell Later.frozen Grw.cell Grw.frozen

/-- Two rows side by side as a slice of slices. -/
theorem rows_mk {w : World} {g : Nat} {n : Nat} {cs : Array Value} {ls : Rws} {S : Nat → Prop} (hb : BoxAt w g cs) (hl : ls.length = n) (hS : S g) (h : ∀ i, i < n → ∃ A m c, cs[i]? = some (.slice A m c) ∧ m ≤ c ∧ RdL ByR 1 S w A m (ra ls i)) : RdL RowR 1 S w (some ⟨g, 0, none⟩) n ls := by
  refine ⟨hl, fun _ => ⟨g, 0, rfl, hS, hb.lt, fun i x hx => ?_⟩⟩
  have hi : i < n := by rw [← hl]; exact (List.getElem?_eq_some_iff.1 hx).1
  obtain ⟨A, m, c, e1, e2, e3⟩ := h i hi
  rw [ra_some hx] at e3
  refine ⟨[.slice A m c], rfl, ⟨A, m, c, rfl, e2, e3⟩, fun j v hj => ?_⟩
  rcases j with _ | j
  · simp at hj; subst hj
    rw [show 0 + i * 1 + 0 = i by omega]
    exact (hb.cell i).trans e1
  · simp at hj
theorem one_by (w : World) (x : Nat) (hx : x < 256) (t : TypeId) : RdL ByR 1 (fun _ => True) (w.alloc (.cells #[.int .u8 (x : Int)] t)) (some ⟨w.heap.size, 0, none⟩) 1 [x] :=
  by_mk rfl (fun y hy => by rw [List.mem_singleton.1 hy]; exact hx) trivial (by rw [World.size_alloc]; omega) (fun k hk => by
    obtain rfl : k = 0 := by omega
    exact (BoxAt.new w _ t).cell 0)
theorem par_len : par1.length = 1 := by decide +kernel
theorem len3 : ∀ i, lenF [[], [9], par1] i ≤ 1000000 := fun i => by
  rcases i with _ | _ | _ | i
  · show 0 ≤ _; omega
  · show 1 ≤ _; omega
  · show par1.length ≤ _; rw [par_len]; omega
  · show 0 ≤ _; omega
set_option maxRecDepth 100000 in
set_option maxHeartbeats 16000000 in
theorem decodes_any {w : World} : Calls Tryz.prog 11 #[] w fun e w' => e = .returned (.bool true) ∧ Below w.heap.size w w' := by
  go_enter Tryz.func11, Tryz.ntmps11
  go_wp2_with fail
  refine fldnew_any.mono ?_
  rintro e w1 ⟨rfl, hF, hb1⟩
  have hs1 := hb1.size
  have hnew := new_any (k := 2) (m := 1) hF (by omega) (by omega) (by omega)
  have hc2 : ((2 : Nat) : Int) = 2 := rfl
  have hc1 : ((1 : Nat) : Int) = 1 := rfl
  rw [hc2, hc1] at hnew
  go_wp2_with fail
  refine hnew.mono ?_
  rintro e w2 ⟨cb, rfl, hC, hk⟩
  have hb2 : Below w.heap.size w w2 := hb1.trans (Keep.below hk hb1.size (fun k hk => by rw [hk]; exact Nat.le_refl _))
  have HC := Lib.hid hC
  have HB2 := Lib.hid hb2
  clear hF hb1 hnew hC hk hb2
  -- the two rows
  have hr5 := (one_by w2 5 (by decide) 5)
  have hr9 := (one_by (w2.alloc (.cells #[.int .u8 5] 5)) 9 (by decide) 5)
  have hba : Below w2.heap.size w2 (((w2.alloc (.cells #[.int .u8 5] 5)).alloc (.cells #[.int .u8 9] 5)).alloc (.cells #[.slice (some ⟨w2.heap.size, 0, none⟩) 1 1, .slice (some ⟨w2.heap.size + 1, 0, none⟩) 1 1] 29)) := (by repeat (first | (with_reducible exact Below.refl _ _) | (with_reducible assumption) | (with_reducible refine Below.drew ?_) | (with_reducible refine Below.setCell ?_ ?_ _) | (with_reducible refine Below.alloc ?_ ?_ _) | (with_reducible refine Below.later ?_ ?_ _) | (first | (with_reducible exact Nat.le_refl _) | omega | (simp only [World.size_alloc, World.size_setCell, World.size_drew] <;> omega))))
  have hbx := BoxAt.new ((w2.alloc (.cells #[.int .u8 5] 5)).alloc (.cells #[.int .u8 9] 5)) #[.slice (some ⟨w2.heap.size, 0, none⟩) 1 1, .slice (some ⟨w2.heap.size + 1, 0, none⟩) 1 1] 29
  replace hr5 := (hr5.alloc ByR.stable (.cells #[.int .u8 9] 5)).alloc ByR.stable (.cells #[.slice (some ⟨w2.heap.size, 0, none⟩) 1 1, .slice (some ⟨w2.heap.size + 1, 0, none⟩) 1 1] 29)
  replace hr9 := hr9.alloc ByR.stable (.cells #[.slice (some ⟨w2.heap.size, 0, none⟩) 1 1, .slice (some ⟨w2.heap.size + 1, 0, none⟩) 1 1] 29)
  simp only [World.size_alloc] at hbx hr9
  go_wp2_with fail
  generalize (((w2.alloc (.cells #[.int .u8 5] 5)).alloc (.cells #[.int .u8 9] 5)).alloc (.cells #[.slice (some ⟨w2.heap.size, 0, none⟩) 1 1, .slice (some ⟨w2.heap.size + 1, 0, none⟩) 1 1] 29)) = w3 at *
  have hls : RdL RowR 1 (fun _ => True) w3 (some ⟨w2.heap.size + 1 + 1, 0, none⟩) 2 [[5], [9]] := rows_mk hbx rfl trivial fun i hi => by
    rcases i with _ | _ | i
    · exact ⟨_, 1, 1, rfl, Nat.le_refl _, hr5⟩
    · exact ⟨_, 1, 1, rfl, Nat.le_refl _, hr9⟩
    · omega
  have hB3 := HB2.out.trans (hba.mono HB2.out.size)
  have hcall := call2_any (cs := 2) (HC.out.below hba) hls (by omega) (fun i => by
    rcases i with _ | _ | i
    · show 1 ≤ _; omega
    · show 1 ≤ _; omega
    · show 0 ≤ _; omega)
  have HB3 := Lib.hid hB3
  have HC3 := Lib.hid (HC.out.below hba)
  clear hbx hr5 hr9 hls hba hB3
  refine hcall.mono ?_
  rintro e w4 ⟨hb4, ⟨hG, _⟩ | ⟨_, A4, c4, rfl, hc4, hr4⟩⟩
  · exact absurd hG (by decide)
  have hB4 := HB3.out.trans (hb4.mono HB3.out.size)
  have hC4 := HC3.out.below hb4
  have hr4' : RdL RowR 1 (fun j => w3.heap.size ≤ j) w4 A4 3 [[5], [9], par1] := hr4
  have HB4 := Lib.hid hB4
  have HC4 := Lib.hid hC4
  have HR4 := Lib.hid hr4'
  obtain ⟨b4, o4, rfl, _, l4⟩ := hr4'.addr (k := 1) (by omega)
  obtain ⟨A1, m1, cc1, v1, hm1, r1⟩ := row_at hr4' (k := 1) (by omega)
  obtain ⟨A2, m2, cc2, v2, hm2, r2⟩ := row_at hr4' (k := 2) (by omega)
  obtain rfl : m1 = 1 := r1.1.symm
  obtain rfl : m2 = 1 := r2.1.symm.trans par_len
  have R1 : Hid (RdL ByR 1 (fun _ => True) w4 A1 1 [9]) := Lib.hid (r1.weaken ByR.stable fun _ _ => trivial)
  have R2 : Hid (RdL ByR 1 (fun _ => True) w4 A2 1 par1) := Lib.hid (r2.weaken ByR.stable fun _ _ => trivial)
  have h3 : ((2 : Nat) + 1) = 3 := rfl
  clear hcall hb4 hr4 hr4' r1 r2 hB4 hC4
  go_wp2_with fail
  have hal : Below w4.heap.size w4 (w4.alloc (.cells #[.slice none 0 0, .slice A1 1 cc1, .slice A2 1 cc2] 29)).drew := ((Below.refl _ _).alloc (Nat.le_refl _) _).drew
  have hbx := BoxAt.new w4 #[.slice none 0 0, .slice A1 1 cc1, .slice A2 1 cc2] 29
  have hls : RdL RowR 1 (fun _ => True) (w4.alloc (.cells #[.slice none 0 0, .slice A1 1 cc1, .slice A2 1 cc2] 29)).drew (some ⟨w4.heap.size, 0, none⟩) 3 [[], [9], par1] := rows_mk (cs := #[.slice none 0 0, .slice A1 1 cc1, .slice A2 1 cc2]) (hbx.keep rfl) rfl trivial fun i hi => by
    rcases i with _ | _ | _ | i
    · exact ⟨none, 0, 0, rfl, Nat.le_refl _, RdL.nil⟩
    · exact ⟨A1, 1, cc1, rfl, hm1, R1.out.below ByR.stable hal⟩
    · exact ⟨A2, 1, cc2, rfl, hm2, R2.out.below ByR.stable hal⟩
    · omega
  have hda := ddata_any (cs := 3) (HC4.out.below hal) hls (by omega) len3 (Lib.hid fun h1 h2 => inj_useT h1 h2 (by omega) (by omega))
  have HAL := Lib.hid hal
  have s1 : w4.drew.cell? ⟨b4, o4 + 1, none⟩ = some (.slice A1 1 cc1) ∧ w4.drew.cell? ⟨b4, o4 + 2, none⟩ = some (.slice A2 1 cc2) := ⟨v1, v2⟩
  have keepS : ∀ w', Below w4.drew.heap.size w4.drew w' → w'.cell? ⟨b4, o4 + 1, none⟩ = some (.slice A1 1 cc1) ∧ w'.cell? ⟨b4, o4 + 2, none⟩ = some (.slice A2 1 cc2) := fun w' h => ⟨(h.cell (p := ⟨b4, o4 + 1, none⟩) l4).trans v1, (h.cell (p := ⟨b4, o4 + 2, none⟩) l4).trans v2⟩
  have KS := Lib.hid keepS
  clear hal hbx hls keepS
  refine wp_region_held_drew (S := fun w' => w'.cell? ⟨b4, o4 + 1, none⟩ = some (.slice A1 1 cc1) ∧ w'.cell? ⟨b4, o4 + 2, none⟩ = some (.slice A2 1 cc2)) (by kernel_rfl) (by first | exact s1 | exact s2 | exact KS.out _ ((Below.refl _ _).alloc (Nat.le_refl _) _)) (fun hHeld => ?_)
  refine wpAnyH_take (i := 0) (v := ?_) rfl (by kernel_rfl) (by kernel_rfl) (by kernel_rfl) (fun _ _ _ h => h) (Or.inl ⟨by first | kernel_rfl | rfl, ?_⟩) (by assumption) ?_
  rotate_left
  · (intro wq hSw; (try dsimp only at hSw); (try simp (maxSteps := 2000000) only [List.getElem_toArray, List.getElem_cons_succ, List.getElem_cons_zero]); go_simp); try with_reducible rfl
  try simp (maxSteps := 2000000) only [List.getElem_toArray, List.getElem_cons_succ, List.getElem_cons_zero, Act.put, List.setIfInBounds_toArray, List.set_cons_zero, List.set_cons_succ]
  refine wpAnyH_take (i := 1) (v := ?_) rfl (by kernel_rfl) (by kernel_rfl) (by kernel_rfl) (fun _ _ _ h => h) (Or.inl ⟨by first | kernel_rfl | rfl, ?_⟩) (by assumption) ?_
  rotate_left
  · (intro wq hSw; (try dsimp only at hSw); (try simp (maxSteps := 2000000) only [List.getElem_toArray, List.getElem_cons_succ, List.getElem_cons_zero]); go_simp); try with_reducible rfl
  try simp (maxSteps := 2000000) only [List.getElem_toArray, List.getElem_cons_succ, List.getElem_cons_zero, Act.put, List.setIfInBounds_toArray, List.set_cons_zero, List.set_cons_succ]
  refine wpAnyH_take (i := 2) (v := ?_) rfl (by kernel_rfl) (by kernel_rfl) (by kernel_rfl) (fun _ _ _ h => h) (Or.inl ⟨by first | kernel_rfl | rfl, ?_⟩) (by assumption) ?_
  rotate_left
  · (intro wq hSw; (try dsimp only at hSw); (try simp (maxSteps := 2000000) only [List.getElem_toArray, List.getElem_cons_succ, List.getElem_cons_zero]); go_simp); try with_reducible rfl
  try simp (maxSteps := 2000000) only [List.getElem_toArray, List.getElem_cons_succ, List.getElem_cons_zero, Act.put, List.setIfInBounds_toArray, List.set_cons_zero, List.set_cons_succ]
  refine wpAnyH_take (i := 3) (v := ?_) rfl (by kernel_rfl) (by kernel_rfl) (by kernel_rfl) (fun _ _ _ h => h) (Or.inl ⟨by first | kernel_rfl | rfl, ?_⟩) (by assumption) ?_
  rotate_left
  · (intro wq hSw; (try dsimp only at hSw); (try simp (maxSteps := 2000000) only [List.getElem_toArray, List.getElem_cons_succ, List.getElem_cons_zero]); go_simp); try with_reducible rfl
  try simp (maxSteps := 2000000) only [List.getElem_toArray, List.getElem_cons_succ, List.getElem_cons_zero, Act.put, List.setIfInBounds_toArray, List.set_cons_zero, List.set_cons_succ]
  refine wpAnyH_take (i := 4) (v := ?_) rfl (by kernel_rfl) (by kernel_rfl) (by kernel_rfl) (fun _ _ _ h => h) (Or.inl ⟨by first | kernel_rfl | rfl, ?_⟩) (by assumption) ?_
  rotate_left
  · (intro wq hSw; (try dsimp only at hSw); (try simp (maxSteps := 2000000) only [List.getElem_toArray, List.getElem_cons_succ, List.getElem_cons_zero]); go_simp); try with_reducible rfl
  try simp (maxSteps := 2000000) only [List.getElem_toArray, List.getElem_cons_succ, List.getElem_cons_zero, Act.put, List.setIfInBounds_toArray, List.set_cons_zero, List.set_cons_succ]
  refine wpAnyH_take (i := 5) (v := ?_) rfl (by kernel_rfl) (by kernel_rfl) (by kernel_rfl) (fun _ _ _ h => h) (Or.inl ⟨by first | kernel_rfl | rfl, ?_⟩) (by assumption) ?_
  rotate_left
  · (intro wq hSw; (try dsimp only at hSw); (try simp (maxSteps := 2000000) only [List.getElem_toArray, List.getElem_cons_succ, List.getElem_cons_zero]); go_simp); try with_reducible rfl
  try simp (maxSteps := 2000000) only [List.getElem_toArray, List.getElem_cons_succ, List.getElem_cons_zero, Act.put, List.setIfInBounds_toArray, List.set_cons_zero, List.set_cons_succ]
  refine wpAnyH_take (i := 6) (v := ?_) rfl (by kernel_rfl) (by kernel_rfl) (by kernel_rfl) (fun _ _ _ h => h) (Or.inl ⟨by first | kernel_rfl | rfl, ?_⟩) (by assumption) ?_
  rotate_left
  · (intro wq hSw; (try dsimp only at hSw); (try simp (maxSteps := 2000000) only [List.getElem_toArray, List.getElem_cons_succ, List.getElem_cons_zero]); go_simp); try with_reducible rfl
  try simp (maxSteps := 2000000) only [List.getElem_toArray, List.getElem_cons_succ, List.getElem_cons_zero, Act.put, List.setIfInBounds_toArray, List.set_cons_zero, List.set_cons_succ]
  refine wpAnyH_ready (rs := [7]) (by kernel_rfl) (by simp) ?_
  refine AllReadyH.cons rfl (fun K hK => ?_) AllReadyH.nil
  try simp (maxSteps := 2000000) only [List.getElem_toArray, List.getElem_cons_succ, List.getElem_cons_zero]
  go_simp
  refine hK.out _ _ (by first | exact s1 | exact s2 | exact KS.out _ ((Below.refl _ _).alloc (Nat.le_refl _) _)) (fun hHeld => ?_)
  clear hK K
  try simp (maxSteps := 2000000) only [List.getElem_toArray, List.getElem_cons_succ, List.getElem_cons_zero, Act.put, List.setIfInBounds_toArray, List.set_cons_zero, List.set_cons_succ]
  refine wpAnyH_ready (rs := [8]) (by kernel_rfl) (by simp) ?_
  refine AllReadyH.cons rfl (fun K hK => ?_) AllReadyH.nil
  try simp (maxSteps := 2000000) only [List.getElem_toArray, List.getElem_cons_succ, List.getElem_cons_zero]
  go_simp
  go_at_call 17
  refine hda.mono ?_
  rintro e w5 ⟨hb5, ⟨hG, _⟩ | ⟨_, hF, _⟩ | ⟨_, _, g5, rfl, hr5⟩⟩
  · exact absurd (hG.symm.trans bad1) (by decide)
  · exact absurd hF (by rw [th1]; decide)
  rw [out1] at hr5
  have hb45 := HAL.out.trans (hb5.mono HAL.out.size)
  have s2 := KS.out w5 ((Below.refl w4.drew.heap.size w4).drew |> fun _ => ⟨hb45.os, hb45.tape, hb45.output, hb45.size, hb45.block⟩)
  have HB5 := Lib.hid (HB4.out.trans (hb45.mono HB4.out.size))
  have HC5 := Lib.hid (HC4.out.below hb45)
  have HR5 := Lib.hid (hr5.weaken RowR.stable (S' := fun _ => True) fun _ _ => trivial)
  have H45 := Lib.hid hb45
  clear hda hb5 hr5 hb45
  try (go_wp2_with fail)
  refine hK.out _ _ (by first | exact s1 | exact s2 | exact KS.out _ ((Below.refl _ _).alloc (Nat.le_refl _) _)) (fun hHeld => ?_)
  clear hK K
  try simp (maxSteps := 2000000) only [List.getElem_toArray, List.getElem_cons_succ, List.getElem_cons_zero, Act.put, List.setIfInBounds_toArray, List.set_cons_zero, List.set_cons_succ]
  refine wpAnyH_take (i := 9) (v := ?_) rfl (by kernel_rfl) (by kernel_rfl) (by kernel_rfl) (fun _ _ _ h => h) (Or.inl ⟨by first | kernel_rfl | rfl, ?_⟩) (by assumption) ?_
  rotate_left
  · (intro wq hSw; (try dsimp only at hSw); (try simp (maxSteps := 2000000) only [List.getElem_toArray, List.getElem_cons_succ, List.getElem_cons_zero]); go_simp); try with_reducible rfl
  try simp (maxSteps := 2000000) only [List.getElem_toArray, List.getElem_cons_succ, List.getElem_cons_zero, Act.put, List.setIfInBounds_toArray, List.set_cons_zero, List.set_cons_succ]
  refine wpAnyH_take (i := 10) (v := ?_) rfl (by kernel_rfl) (by kernel_rfl) (by kernel_rfl) (fun _ _ _ h => h) (Or.inl ⟨by first | kernel_rfl | rfl, ?_⟩) (by assumption) ?_
  rotate_left
  · (intro wq hSw; (try dsimp only at hSw); (try simp (maxSteps := 2000000) only [List.getElem_toArray, List.getElem_cons_succ, List.getElem_cons_zero]); go_simp); try with_reducible rfl
  try simp (maxSteps := 2000000) only [List.getElem_toArray, List.getElem_cons_succ, List.getElem_cons_zero, Act.put, List.setIfInBounds_toArray, List.set_cons_zero, List.set_cons_succ]
  refine wpAnyH_take (i := 11) (v := ?_) rfl (by kernel_rfl) (by kernel_rfl) (by kernel_rfl) (fun _ _ _ h => h) (Or.inl ⟨by first | kernel_rfl | rfl, ?_⟩) (by assumption) ?_
  rotate_left
  · (intro wq hSw; (try dsimp only at hSw); (try simp (maxSteps := 2000000) only [List.getElem_toArray, List.getElem_cons_succ, List.getElem_cons_zero]); go_simp); try with_reducible rfl
  try simp (maxSteps := 2000000) only [List.getElem_toArray, List.getElem_cons_succ, List.getElem_cons_zero, Act.put, List.setIfInBounds_toArray, List.set_cons_zero, List.set_cons_succ]
  refine wpAnyH_take (i := 12) (v := ?_) rfl (by kernel_rfl) (by kernel_rfl) (by kernel_rfl) (fun _ _ _ h => h) (Or.inl ⟨by first | kernel_rfl | rfl, ?_⟩) (by assumption) ?_
  rotate_left
  · (intro wq hSw; (try dsimp only at hSw); (try simp (maxSteps := 2000000) only [List.getElem_toArray, List.getElem_cons_succ, List.getElem_cons_zero]); go_simp); try with_reducible rfl
  try simp (maxSteps := 2000000) only [List.getElem_toArray, List.getElem_cons_succ, List.getElem_cons_zero, Act.put, List.setIfInBounds_toArray, List.set_cons_zero, List.set_cons_succ]
  refine wpAnyH_take (i := 13) (v := ?_) rfl (by kernel_rfl) (by kernel_rfl) (by kernel_rfl) (fun _ _ _ h => h) (Or.inl ⟨by first | kernel_rfl | rfl, ?_⟩) (by assumption) ?_
  rotate_left
  · (intro wq hSw; (try dsimp only at hSw); (try simp (maxSteps := 2000000) only [List.getElem_toArray, List.getElem_cons_succ, List.getElem_cons_zero]); go_simp); try with_reducible rfl
  try simp (maxSteps := 2000000) only [List.getElem_toArray, List.getElem_cons_succ, List.getElem_cons_zero, Act.put, List.setIfInBounds_toArray, List.set_cons_zero, List.set_cons_succ]
  refine wpAnyH_done (by kernel_rfl) ?_ _
  have v5 := hHeld.1
  have hbx := BoxAt.new w5 #[.slice none 0 0, .slice A1 1 cc1, .slice none 0 0] 29
  have hal : Below w5.heap.size w5 (w5.alloc (.cells #[.slice none 0 0, .slice A1 1 cc1, .slice none 0 0] 29)) := (Below.refl _ _).alloc (Nat.le_refl _) _
  clear hHeld s1 s2
  go_wp2_with fail
  generalize (w5.alloc (.cells #[.slice none 0 0, .slice A1 1 cc1, .slice none 0 0] 29)) = w6 at *
  have hls : RdL RowR 1 (fun _ => True) w6 (some ⟨w5.heap.size, 0, none⟩) 3 [[], [9], []] := rows_mk hbx rfl trivial fun i hi => by
    rcases i with _ | _ | _ | i
    · exact ⟨none, 0, 0, rfl, Nat.le_refl _, RdL.nil⟩
    · exact ⟨A1, 1, cc1, rfl, hm1, (R1.out.below ByR.stable H45.out).below ByR.stable hal⟩
    · exact ⟨none, 0, 0, rfl, Nat.le_refl _, RdL.nil⟩
    · omega
  have hda := ddata_any (cs := 3) (HC5.out.below hal) hls (by omega) (fun i => by
    rcases i with _ | _ | _ | i
    · show 0 ≤ _; omega
    · show 1 ≤ _; omega
    · show 0 ≤ _; omega
    · show 0 ≤ _; omega) (Lib.hid fun h1 h2 => inj_useT h1 h2 (by omega) (by omega))
  have HAL2 := Lib.hid hal
  clear hbx hal hls v5
  refine hda.mono ?_
  rintro e w7 ⟨hb7, ⟨hG, _⟩ | ⟨_, _, rfl⟩ | ⟨_, hF, _⟩⟩
  · exact absurd (hG.symm.trans bad2) (by decide)
  rotate_left
  · exact absurd (show (thU [[], [9], []] 3).length < 2 by rw [th2]; decide) hF
  have hb57 := HAL2.out.trans (hb7.mono HAL2.out.size)
  have HB7 := Lib.hid (HB5.out.trans (hb57.mono HB5.out.size))
  have HC7 := Lib.hid (HC5.out.below hb57)
  have HR7 := Lib.hid (HR5.out.below RowR.stable hb57)
  clear hda hb7 hb57
  have hbi := BoxAt.new w7 #[.int .i64 2, .int .i64 1] 3
  have hal : Below w7.heap.size w7 (w7.alloc (.cells #[.int .i64 2, .int .i64 1] 3)) := (Below.refl _ _).alloc (Nat.le_refl _) _
  go_wp2_with fail
  generalize (w7.alloc (.cells #[.int .i64 2, .int .i64 1] 3)) = w8 at *
  have hli : RdL IntR 1 (fun _ => True) w8 (some ⟨w7.heap.size, 0, none⟩) 2 [2, 1] := ⟨rfl, fun _ => ⟨w7.heap.size, 0, rfl, trivial, hbi.lt, fun i x hx => by
    rcases i with _ | _ | i
    · simp at hx; subst hx
      refine ⟨[.int .i64 2], rfl, rfl, fun j v hj => ?_⟩
      rcases j with _ | j
      · simp at hj; subst hj; exact hbi.cell 0
      · simp at hj
    · simp at hx; subst hx
      refine ⟨[.int .i64 1], rfl, rfl, fun j v hj => ?_⟩
      rcases j with _ | j
      · simp at hj; subst hj; exact hbi.cell 1
      · simp at hj
    · simp at hx⟩⟩
  have hnb : ¬ badP 2 1 [2, 1] 1 := by decide
  have hdp := dplan_any (c := 2) (want := 1) (HC7.out.below hal) hli (by omega) (Lib.hid fun h1 h2 => inj_usN (m := 1) (Classical.byContradiction fun h3 => h1 (.inr (.inr h3))) (by show 2 ≤ 2; omega) (by omega))
  have HAL3 := Lib.hid hal
  clear hbi hal hli
  refine hdp.mono ?_
  rintro e w9 ⟨hb9, ⟨hG, _⟩ | ⟨_, hF, _⟩ | ⟨_, _, A9, c9, A10, c10, rfl, hr9, hr10⟩⟩
  · exact absurd hG hnb
  · exact absurd hF (by omega)
  rw [us1] at hr9
  have hpl : planF 2 (usN 2 [2, 1]) (1 : Int).toNat = [1, 0] := by rw [us1]; exact pl1
  rw [hpl] at hr10
  have hb79 := HAL3.out.trans (hb9.mono HAL3.out.size)
  have HB9 := Lib.hid (HB7.out.trans (hb79.mono HB7.out.size))
  have hr7 := HR7.out.below RowR.stable hb79
  obtain ⟨D0, m0, cd0, d0, _, t0⟩ := row_at hr7 (k := 0) (by omega)
  obtain ⟨D1, n1, cd1, d1, _, t1⟩ := row_at hr7 (k := 1) (by omega)
  rw [Nat.zero_add] at d0 d1
  have x0 := text_run (c := cd0) (show RdL ByR 1 (fun _ => True) w9 D0 m0 [5] from t0)
  have x1 := text_run (c := cd1) (show RdL ByR 1 (fun _ => True) w9 D1 n1 [9] from t1)
  have x10 := text_run (c := c10) hr10
  rw [tx5] at x0
  rw [tx9] at x1
  rw [tx10] at x10
  obtain ⟨b9, o9, rfl, _, _⟩ := hr9.addr (k := 0) (by omega)
  have e0 := nat_at hr9 (k := 0) (by omega)
  have e1 := nat_at hr9 (k := 1) (by omega)
  rw [Nat.add_zero] at e0
  replace e0 : w9.cell? ⟨b9, o9, none⟩ = some (.int .i64 1) := e0
  replace e1 : w9.cell? ⟨b9, o9 + 1, none⟩ = some (.int .i64 2) := e1
  clear hdp hb9 hr9 hr10 hb79 hr7 t0 t1 hpl hnb
  go_wp2_with fail
  go_ret
  exact ⟨by simp, HB9.out⟩
end Go.Proofs.YthhljmlpjnkfgaaGreat

set_option linter.unusedSimpArgs false
set_option linter.unusedVariables false
namespace Go.Proofs.YthhljmlpjnkfgaaGreat
open Go.RowKit Go.Cib
attribute [local go_sem] cell_set Later.cell Later.frozen Grw.cell Grw.frozen

theorem cnt_put (p q : Nat → Bool) (a : Nat) : ∀ N, a < N → (∀ j, j ≠ a → q j = p j) → p a = false → q a = true → ((List.range N).filter q).length = ((List.range N).filter p).length + 1 := by
  intro N
  induction N with
  | zero => intro h; omega
  | succ N ih =>
    intro h he h0 h1
    rw [List.range_succ, List.filter_append, List.filter_append, List.length_append, List.length_append]
    by_cases haN : a = N
    · subst haN
      have : (List.range a).filter q = (List.range a).filter p := List.filter_congr fun j hj => he j (by have := List.mem_range.1 hj; omega)
      rw [this]
      simp [h0, h1]
    · rw [ih (by omega) he h0 h1]
      have : [N].filter q = [N].filter p := List.filter_congr fun j hj => he j (by have := List.mem_singleton.1 hj; omega)
      rw [this]; omega
structure FewI (row : List Nat) (N i c : Nat) (rows : Rws) : Prop where
  len : rows.length = N
  one : ∀ j, ra rows j = [] ∨ ra rows j = row
  cnt : c = (thU rows N).length
  le : c ≤ i
theorem ra_put {rows : Rws} {a : Nat} {row : List Nat} (h : a < rows.length) (j : Nat) : ra (rows.set a row) j = if j = a then row else ra rows j := by
  by_cases hj : j < rows.length
  · exact ra_set _ _ _ hj
  · rw [if_neg (by omega)]
    unfold ra
    rw [List.getD_eq_getElem?_getD, List.getD_eq_getElem?_getD, List.getElem?_eq_none (by simp; omega), List.getElem?_eq_none (by omega)]
theorem FewI.zero (row : List Nat) (N : Nat) : FewI row N 0 0 (List.replicate N []) where
  len := by simp
  one j := by
    left
    unfold ra
    rw [List.getD_eq_getElem?_getD, List.getElem?_replicate]
    split <;> rfl
  cnt := by
    unfold thU
    rw [List.filter_eq_nil_iff.2]
    · rfl
    · intro j hj
      have : lenF (List.replicate N []) j = 0 := by
        unfold lenF ra
        rw [List.getD_eq_getElem?_getD, List.getElem?_replicate]
        split <;> rfl
      simp [this]
  le := Nat.le_refl _
section
variable {row : List Nat} {N i cnt a : Nat} {rows : Rws}
theorem FewI.put (h : FewI row N i cnt rows) (ha : a < N) (hr : 0 < row.length) (he : (ra rows a).length = 0) : FewI row N (i + 1) (cnt + 1) (rows.set a row) := by
  have hal : a < rows.length := by rw [h.len]; exact ha
  refine ⟨by rw [List.length_set, h.len], fun j => ?_, ?_, by have := h.le; omega⟩
  · rw [ra_put hal]; split
    · exact .inr rfl
    · exact h.one j
  · rw [h.cnt]
    unfold thU
    rw [cnt_put (fun j => decide (0 < lenF rows j)) (fun j => decide (0 < lenF (rows.set a row) j)) a N ha]
    · intro j hj
      unfold lenF
      rw [ra_put hal, if_neg hj]
    · unfold lenF; simp [he]
    · unfold lenF
      rw [ra_put hal, if_pos rfl]; simp [hr]
theorem FewI.again (h : FewI row N i cnt rows) (ha : a < N) (hr : 0 < row.length) (he : ¬ (ra rows a).length = 0) : FewI row N (i + 1) cnt (rows.set a row) := by
  have hal : a < rows.length := by rw [h.len]; exact ha
  refine ⟨by rw [List.length_set, h.len], fun j => ?_, ?_, by have := h.le; omega⟩
  · rw [ra_put hal]; split
    · exact .inr rfl
    · exact h.one j
  · rw [h.cnt]
    unfold thU
    congr 1
    refine List.filter_congr fun j _ => ?_
    unfold lenF
    rw [ra_put hal]
    by_cases hj : j = a
    · subst hj
      rw [if_pos rfl]; simp; omega
    · rw [if_neg hj]
theorem FewI.lenF (h : FewI row N i cnt rows) (j : Nat) : lenF rows j = 0 ∨ lenF rows j = row.length := by
  unfold Go.Proofs.YthhljmlpjnkfgaaGreat.lenF
  rcases h.one j with h | h
  · rw [h]; exact .inl rfl
  · rw [h]; exact .inr rfl
theorem FewI.bad {k m : Nat} (h : FewI row (k + m) i cnt rows) : thBad k m (k + m) rows = false := by
  unfold thBad
  rw [Bool.or_eq_false_iff]
  refine ⟨by simp, List.any_eq_false.2 fun u hu => ?_⟩
  have hu2 := (thU_mem hu).2
  have hg : gt (thU rows (k + m)) 0 ∈ thU rows (k + m) := gt_mem (List.length_pos_of_mem hu)
  have hg2 := (thU_mem hg).2
  unfold oddB
  rcases h.lenF u with e | e
  · omega
  · rcases h.lenF (gt (thU rows (k + m)) 0) with e2 | e2
    · omega
    · simp [e, e2]
end
theorem bad_short {k m N : Nat} {rows : Rws} (h : N ≠ k + m) : thBad k m N rows = true := by unfold thBad; rw [decide_eq_true h, Bool.true_or]
theorem lenF_take (rows : Rws) (n j : Nat) : lenF (rows.take n) j ≤ lenF rows j := by
  unfold lenF ra
  rw [List.getD_eq_getElem?_getD, List.getD_eq_getElem?_getD, List.getElem?_take]
  split
  · exact Nat.le_refl _
  · exact Nat.zero_le _
/-- A clamped number. -/
theorem clamp {x N : Int} (h : 1 ≤ N) : ∃ a : Nat, max 0 (min x (N - 1)) = (a : Int) ∧ (a : Int) < N := ⟨(max 0 (min x (N - 1))).toNat, by omega, by omega⟩
end Go.Proofs.YthhljmlpjnkfgaaGreat

set_option linter.unusedSimpArgs false
set_option linter.unusedVariables false
namespace Go.Proofs.YthhljmlpjnkfgaaGreat
open Go.RowKit Go.Cib
attribute [local go_sem] cell_set Later.cell Later.frozen Grw.cell Grw.frozen

def holeF (gone : List Int) (i j : Nat) (r : List Nat) : List Nat := if (i : Int) ∈ gone.take j then [] else r
def missF (gone : List Int) (ss : Rws) (i : Nat) : Rws := (List.range i).map fun j : Nat => if (j : Int) ∈ gone then [] else ra ss j
theorem missF_next (gone : List Int) (ss : Rws) (i : Nat) {g : Nat} (hg : gone.length = g) : missF gone ss (i + 1) = missF gone ss i ++ [holeF gone i g (ra ss i)] := by
  unfold missF holeF
  rw [List.range_succ, List.map_append, List.take_of_length_le (by omega)]; rfl
set_option maxRecDepth 100000 in
set_option maxHeartbeats 8000000 in
theorem missing_any {w : World} {n g ca cb : Nat} {A B : Option Addr} {S1 S2 : Nat → Prop} {ss : Rws} {gone : List Int} (R1 : RdL RowR 1 S1 w A n ss) (R2 : RdL IntR 1 S2 w B g gone) (hn : n ≤ 1000) (hg : g ≤ 1000) (hlen : ∀ i, lenF ss i ≤ 1000000) :
    Calls Tryz.prog 25 #[.slice A n ca, .slice B g cb] w fun e w' => ∃ A' c', e = .returned (.slice A' n c') ∧ n ≤ c' ∧ RdL RowR 1 (fun j => w.heap.size ≤ j) w' A' n (missF gone ss n) ∧ Below w.heap.size w w' := by
  have H1 := Lib.hid R1
  have H2 := Lib.hid R2
  have hgl := R2.1
  have q1 : (n : Int) ≤ 1000 := by omega
  have q2 : (g : Int) ≤ 1000 := by omega
  have HGL := Lib.hid hgl
  clear R1 R2 hgl
  go_enter Tryz.func25, Tryz.ntmps25
  go_wp2_with fail
  go_loopw [5, 6] (fun vs vi wr => ∃ (i : Nat) (A : Option Addr) (c : Nat), i ≤ n ∧ vi = .int .i64 i ∧ vs = .slice A i c ∧ i ≤ c ∧ Hid (OwnL RowR 29 1 w.heap.size (fun j => w.heap.size ≤ j) wr (.slice A i c) i (missF gone ss i)) ∧ Hid (Below w.heap.size w wr)) (fun _ vi _ => n - (intOf vi).toNat)
  case atStart => exact ⟨0, none, 0, Nat.zero_le _, rfl, rfl, Nat.le_refl _, Lib.hid (by exact OwnL.nil_), Lib.hid (Below.refl _ _)⟩
  case round =>
    obtain ⟨i, AO, cO, hi, rfl, rfl, hcO, HO, HB⟩ := hrel
    have p0 : (0 : Int) ≤ (i : Int) := Int.natCast_nonneg _
    by_cases hlt : i < n
    · have p1 : (i : Int) < (n : Int) := by omega
      obtain ⟨ba, oa, rfl, _, hba⟩ := H1.out.addr hlt
      obtain ⟨A1, m1, c1, v1, _, r1⟩ := row_at H1.out hlt
      have v1' := (HB.out.cell (p := ⟨ba, oa + i, none⟩) hba).trans v1
      have v1a := (((HB.out.alloc (HB.out.size) (.cells #[] 5))).cell (p := ⟨ba, oa + i, none⟩) hba).trans v1
      have r1' := r1.below ByR.stable HB.out
      have hm1 : m1 ≤ 1000000 := by have := hlen i; unfold lenF at this; rw [r1.1] at this; exact this
      have hszr := HB.out.size
      have hA := Lib.hid (r1'.alloc ByR.stable (.cells #[] 5))
      clear v1 r1 r1'
      go_wp2_with (at_builtin; refine wpList_appL ByR.stable ByR.one sl_by rfl (by exact rfl) (base := wr.heap.size) (S := fun _ => True) (n := 0) (xs := []) (by exact rfl) (OwnL.made #[] 0 (Nat.le_refl _) (by unfold maxLen; omega) rfl) (by exact rfl) hA.out (fun _ _ h => h) (by unfold maxLen; omega) (by omega) (by simp only [World.size_alloc]; omega) ?_; intro A3 c3 w3 hc3 hown hg3 hat; have hb : Below wr.heap.size wr w3 := ((Below.refl _ _).alloc (Nat.le_refl _) _).grown hg3 (by simp only [World.size_alloc]; omega) (fun k hk => by simp only [Value.ownBlock, Option.some.injEq] at hk; omega); rw [Nat.zero_add, List.nil_append] at hown; obtain ⟨A5, c5, hv5, hc5, hr5⟩ := hown.rd (S' := Go.Cib.Rest (fun j => w.heap.size ≤ j) (.slice AO i cO)) (fun j hj => ⟨(by show _ ≤ j; omega), fun e => (by have := (HO.out.lt _ e.symm).2; omega)⟩) (fun cs x hx => hx); simp only [Value.slice.injEq] at hv5; obtain ⟨rfl, _, rfl⟩ := hv5; have HR3 := Lib.hid hr5; have HO3 := Lib.hid (HO.out.keep RowR.stable hb); have HB3 := Lib.hid (HB.out.trans (hb.mono HB.out.size)); have hs3 := HB3.out.size; clear hA hown hg3 hat hb hr5)
      have HRi : Hid (RdL ByR 1 (Go.Cib.Rest (fun j => w.heap.size ≤ j) (.slice AO i cO)) w3 A3 m1 (holeF gone i 0 (ra ss i))) := by unfold holeF; rw [List.take_zero, if_neg (by simp)]; exact HR3
      clear HR3
      go_loopw [7, 8] (fun vr vj wr => ∃ (j : Nat) (A' : Option Addr) (m c : Nat), j ≤ g ∧ vj = .int .i64 j ∧ vr = .slice A' m c ∧ wr = w3 ∧ Hid (m ≤ c) ∧ Hid (RdL ByR 1 (Go.Cib.Rest (fun j => w.heap.size ≤ j) (.slice AO i cO)) w3 A' m (holeF gone i j (ra ss i)))) (fun _ vj _ => g - (intOf vj).toNat)
      case atStart => exact ⟨0, _, _, _, Nat.zero_le _, rfl, rfl, rfl, Lib.hid (by omega), HRi⟩
      case round =>
        clear HRi
        obtain ⟨j, A4, m4, c4, hj, rfl, rfl, hwr, HC4, HR4⟩ := hrel
        rw [hwr]
        clear hwr
        have p5 : (0 : Int) ≤ (j : Int) := Int.natCast_nonneg _
        by_cases hlj : j < g
        · have p6 : (j : Int) < (g : Int) := by omega
          obtain ⟨bg, og, rfl, _, hbg⟩ := H2.out.addr hlj
          obtain ⟨x, hx, v2⟩ := int_at H2.out hlj
          have v2' := (HB3.out.cell (p := ⟨bg, og + j, none⟩) hbg).trans v2
          have htk : gone.take (j + 1) = gone.take j ++ [x] := by rw [List.take_add_one, hx]; rfl
          clear v2 hx
          by_cases he : x = (i : Int)
          · have he2 : (x == (i : Int)) = true := by rw [he]; simp
            have HR5 : Hid (RdL ByR 1 (Go.Cib.Rest (fun j => w.heap.size ≤ j) (.slice AO i cO)) w3 none 0 (holeF gone i (j + 1) (ra ss i))) := by
              unfold holeF
              rw [htk, if_pos (by rw [he]; simp)]
              exact Lib.hid RdL.nil
            clear htk he
            go_wp2_with fail
            exact ⟨⟨j + 1, none, 0, 0, by omega, by go_num, rfl, trivial, Lib.hid (Nat.le_refl _), HR5⟩, by simp [intOf]; omega⟩
          · have he2 : (x == (i : Int)) = false := by simp [he]
            have HR5 : Hid (RdL ByR 1 (Go.Cib.Rest (fun j => w.heap.size ≤ j) (.slice AO i cO)) w3 A4 m4 (holeF gone i (j + 1) (ra ss i))) := by
              have e : holeF gone i (j + 1) (ra ss i) = holeF gone i j (ra ss i) := by
                unfold holeF
                rw [htk]
                by_cases h : (i : Int) ∈ gone.take j
                · rw [if_pos h, if_pos (by simp [h])]
                · rw [if_neg h, if_neg (by simp [h]; exact fun e => he e.symm)]
              rw [e]; exact HR4
            clear htk he
            go_wp2_with fail
            exact ⟨⟨j + 1, A4, m4, c4, by omega, by go_num, rfl, trivial, HC4, HR5⟩, by simp [intOf]; omega⟩
        · have p6 : ¬ (j : Int) < (g : Int) := by omega
          obtain rfl : j = g := by omega
          have hnx := missF_next gone ss i HGL.out
          have HNX := Lib.hid hnx
          clear hnx hlj
          go_wp2_with (at_builtin; go_must (refine wpList_push1 RowR.stable RowR.one sl_rows (by rfl) (by rfl) (base := w.heap.size) (S := fun j => w.heap.size ≤ j) (cs := #[.slice A4 m4 c4]) (y := holeF gone i j (ra ss i)) (by rfl) (by rfl) HO3.out (by rfl) ⟨A4, m4, c4, rfl, HC4.out, HR4.out⟩ (by unfold maxLen; omega) (by omega) hs3 ?_); intro A8 c8 ug hc8 own9 hlt8 hb8 hat8; rw [← HNX.out] at own9; have HO9 := Lib.hid own9; have HB9 := Lib.hid (HB3.out.trans hb8); clear own9 hb8 hlt8 hat8)
          exact ⟨⟨i + 1, A8, c8, by omega, by go_num, rfl, hc8, HO9, HB9⟩, by simp [intOf]; omega⟩
    · have p1 : ¬ (i : Int) < (n : Int) := by omega
      obtain rfl : i = n := by omega
      go_wp2_with fail
      go_ret
      obtain ⟨A', c', e, _, hr⟩ := HO.out.rd (S' := fun j => w.heap.size ≤ j) (fun j hj => hj) (fun cs x hx => RowR.stable _ _ _ _ _ _ hx fun b hb _ => ⟨hb.1, rfl⟩)
      injection e with e1 _ e2
      subst e1; subst e2
      exact ⟨AO, cO, rfl, hcO, hr, HB.out⟩
end Go.Proofs.YthhljmlpjnkfgaaGreat

set_option linter.unusedSimpArgs false
set_option linter.unusedVariables false
namespace Go.Proofs.YthhljmlpjnkfgaaGreat
open Go.RowKit Go.Cib
attribute [local go_sem] cell_set Later.cell Later.frozen Grw.cell Grw.frozen
attribute [local go_sem ↓] run_min_b

def joinF (ss : Rws) (s i : Nat) : List Nat := (ss.take i).flatten.take s
theorem joinF_next {ss : Rws} {s i n : Nat} (hi : i < ss.length) (hr : (ra ss i).length = n) : joinF ss s (i + 1) = joinF ss s i ++ (ra ss i).take (min n (s - (joinF ss s i).length)) := by
  unfold joinF
  have h1 : ss.take (i + 1) = ss.take i ++ [ra ss i] := by rw [List.take_add_one, ra_of_lt hi]; rfl
  rw [h1, List.flatten_append, List.take_append]
  congr 1
  simp only [List.flatten_cons, List.flatten_nil, List.append_nil]
  rw [List.length_take]
  by_cases h : s - (ss.take i).flatten.length ≤ n
  · congr 1; omega
  · rw [List.take_of_length_le (by omega), List.take_of_length_le (by omega)]
theorem rows_flat {n : Nat} : ∀ ss : Rws, (∀ r ∈ ss, r.length = n) → ss.flatten.length = ss.length * n
  | [], _ => by simp
  | r :: rs, h => by
    rw [List.flatten_cons, List.length_append, rows_flat rs (fun x hx => h x (List.mem_cons_of_mem _ hx)), h r (List.mem_cons_self ..), List.length_cons, Nat.succ_mul]
    omega
set_option maxRecDepth 100000 in
set_option maxHeartbeats 8000000 in
theorem join_any {w : World} {cb b k m n s cs : Nat} {As : Option Addr} {S : Nat → Prop} {ss : Rws} (H : CodAt w cb b k m) (R : RdL RowR 1 S w As k ss) (hev : ∀ i, i < k → (ra ss i).length = n) (hn : n ≤ 65536) (hs : s ≤ k * n) :
    Calls Tryz.prog 26 #[.pointer (some ⟨cb, 0, none⟩), .slice As k cs, .int .i64 (s : Int)] w fun e w' => ∃ A c, e = .returned (.tuple #[.slice A s c, .int .i64 0]) ∧ s ≤ c ∧ RdL ByR 1 (fun j => w.heap.size ≤ j) w' A s (ss.flatten.take s) ∧ Below w.heap.size w w' := by
  have HR := Lib.hid R
  have HEV := Lib.hid hev
  have hsl := R.1
  have hk1 := H.k1
  have hkm := H.km
  have hNo := none_any H
  have hbe : evB ss = true := by
    unfold evB
    rw [List.all_eq_true]
    intro r hr
    obtain ⟨j, hj, rfl⟩ := List.mem_iff_getElem.1 hr
    have h1 := hev j (by omega)
    have h2 := hev 0 (by omega)
    rw [ra_some (List.getElem?_eq_getElem hj)] at h1
    simp [h1, h2]
  have hRi := right2_any (c := cs) (H.below (Below.refl _ _).drew) (R.below RowR.stable (Below.refl _ _).drew) (by omega)
  rw [decide_eq_true rfl, hbe, Bool.true_and] at hRi
  obtain ⟨A0, c0, hbx, _⟩ := H.box
  have hcl := hbx.lt
  obtain ⟨bs, os, rfl, _, hbs⟩ := R.addr (k := 0) (by omega)
  obtain ⟨Ar, mr, cr, v0, _, r0⟩ := row_at R (k := 0) (by omega)
  have hmr : mr = n := by rw [← hev 0 (by omega)]; exact r0.1.symm
  subst hmr
  rw [Nat.add_zero] at v0
  have u1 := fun w' (h : Below w.heap.size w w') => (h.cell (p := ⟨cb, 0, none⟩) hcl).trans (hbx.cell 0)
  have u2 := fun w' (h : Below w.heap.size w w') => (h.cell (p := ⟨bs, os, none⟩) hbs).trans v0
  obtain ⟨P, hP⟩ : ∃ P, k * mr = P := ⟨_, rfl⟩
  have hPle : P ≤ 255 * 65536 := by rw [← hP]; exact Nat.mul_le_mul (by omega) hn
  rw [hP] at hs
  have hP2 : (k : Int) * (mr : Int) = (P : Int) := by rw [← hP]; push_cast; rfl
  have q1 : (P : Int) ≤ 16711680 := by omega
  have q2 : (s : Int) ≤ (P : Int) := by omega
  have q3 : (0 : Int) ≤ (s : Int) := Int.natCast_nonneg _
  have q4 : (0 : Int) < (k : Int) := by omega
  have q5 : (k : Int) ≤ 255 := by omega
  have q6 : 0 < k := hk1
  have q7 : IntKind.i64.wrap (P : Int) = (P : Int) := by rw [IntKind.wrap_i64]; omega
  have q8 : ¬ (s : Int) < 0 := by omega
  have q9 : ¬ (P : Int) < (s : Int) := by omega
  have HP := Lib.hid hP
  clear H R hbx hev hbe v0 r0 hP
  go_enter Tryz.func26, Tryz.ntmps26
  go_wp2_with (go_at_call 43; refine hNo.mono ?_; rintro e w9 ⟨rfl, hw9⟩; rw [hw9]; clear hw9 hNo)
  refine wp_region_held_drew (S := fun w' => Below w.heap.size w w') (by kernel_rfl) (by first | assumption | exact Below.refl _ _ | exact (Below.refl _ _).drew) (fun hHeld => ?_)
  refine wpAnyH_take (i := 0) (v := ?_) rfl (by kernel_rfl) (by kernel_rfl) (by kernel_rfl) (fun _ _ _ h => h) (Or.inl ⟨by first | kernel_rfl | rfl, ?_⟩) (by assumption) ?_
  rotate_left
  · (intro wq hSw; (try dsimp only at hSw); (try simp (maxSteps := 2000000) only [List.getElem_toArray, List.getElem_cons_succ, List.getElem_cons_zero]); go_simp); try with_reducible rfl
  try simp (maxSteps := 2000000) only [List.getElem_toArray, List.getElem_cons_succ, List.getElem_cons_zero, Act.put, List.setIfInBounds_toArray, List.set_cons_zero, List.set_cons_succ]
  refine wpAnyH_take (i := 1) (v := ?_) rfl (by kernel_rfl) (by kernel_rfl) (by kernel_rfl) (fun _ _ _ h => h) (Or.inl ⟨by first | kernel_rfl | rfl, ?_⟩) (by assumption) ?_
  rotate_left
  · (intro wq hSw; (try dsimp only at hSw); (try simp (maxSteps := 2000000) only [List.getElem_toArray, List.getElem_cons_succ, List.getElem_cons_zero]); go_simp); try with_reducible rfl
  try simp (maxSteps := 2000000) only [List.getElem_toArray, List.getElem_cons_succ, List.getElem_cons_zero, Act.put, List.setIfInBounds_toArray, List.set_cons_zero, List.set_cons_succ]
  refine wpAnyH_ready (rs := [2]) (by kernel_rfl) (by simp) ?_
  refine AllReadyH.cons rfl (fun K hK => ?_) AllReadyH.nil
  try simp (maxSteps := 2000000) only [List.getElem_toArray, List.getElem_cons_succ, List.getElem_cons_zero]
  go_simp
  go_at_call 44
  refine hRi.mono ?_
  rintro e w9 ⟨rfl, hw9⟩
  rw [hw9]
  clear hw9 hRi
  try (go_wp2_with fail)
  refine hK.out _ _ (by first | assumption | exact Below.refl _ _ | exact (Below.refl _ _).drew) (fun hHeld => ?_)
  clear hK K
  try simp (maxSteps := 2000000) only [List.getElem_toArray, List.getElem_cons_succ, List.getElem_cons_zero, Act.put, List.setIfInBounds_toArray, List.set_cons_zero, List.set_cons_succ]
  refine wpAnyH_take (i := 3) (v := ?_) rfl (by kernel_rfl) (by kernel_rfl) (by kernel_rfl) (fun _ _ _ h => h) (Or.inl ⟨by first | kernel_rfl | rfl, ?_⟩) (by assumption) ?_
  rotate_left
  · (intro wq hSw; (try dsimp only at hSw); (try simp (maxSteps := 2000000) only [List.getElem_toArray, List.getElem_cons_succ, List.getElem_cons_zero]); go_simp); try with_reducible rfl
  try simp (maxSteps := 2000000) only [List.getElem_toArray, List.getElem_cons_succ, List.getElem_cons_zero, Act.put, List.setIfInBounds_toArray, List.set_cons_zero, List.set_cons_succ]
  refine wpAnyH_take (i := 4) (v := ?_) rfl (by kernel_rfl) (by kernel_rfl) (by kernel_rfl) (fun _ _ _ h => h) (Or.inl ⟨by first | kernel_rfl | rfl, ?_⟩) (by assumption) ?_
  rotate_left
  · (intro wq hSw; (try dsimp only at hSw); (try simp (maxSteps := 2000000) only [List.getElem_toArray, List.getElem_cons_succ, List.getElem_cons_zero]); go_simp); try with_reducible rfl
  try simp (maxSteps := 2000000) only [List.getElem_toArray, List.getElem_cons_succ, List.getElem_cons_zero, Act.put, List.setIfInBounds_toArray, List.set_cons_zero, List.set_cons_succ]
  refine wpAnyH_take (i := 5) (v := ?_) rfl (by kernel_rfl) (by kernel_rfl) (by kernel_rfl) (fun _ _ _ h => h) (Or.inl ⟨by first | kernel_rfl | rfl, ?_⟩) (by assumption) ?_
  rotate_left
  · (intro wq hSw; (try dsimp only at hSw); (try simp (maxSteps := 2000000) only [List.getElem_toArray, List.getElem_cons_succ, List.getElem_cons_zero]); go_simp); try with_reducible rfl
  try simp (maxSteps := 2000000) only [List.getElem_toArray, List.getElem_cons_succ, List.getElem_cons_zero, Act.put, List.setIfInBounds_toArray, List.set_cons_zero, List.set_cons_succ]
  refine wpAnyH_take (i := 6) (v := ?_) rfl (by kernel_rfl) (by kernel_rfl) (by kernel_rfl) (fun _ _ _ h => h) (Or.inl ⟨by first | kernel_rfl | rfl, ?_⟩) (by assumption) ?_
  rotate_left
  · (intro wq hSw; (try dsimp only at hSw); (try simp (maxSteps := 2000000) only [List.getElem_toArray, List.getElem_cons_succ, List.getElem_cons_zero]); go_simp); try with_reducible rfl
  try simp (maxSteps := 2000000) only [List.getElem_toArray, List.getElem_cons_succ, List.getElem_cons_zero, Act.put, List.setIfInBounds_toArray, List.set_cons_zero, List.set_cons_succ]
  refine wpAnyH_take (i := 7) (v := ?_) rfl (by kernel_rfl) (by kernel_rfl) (by kernel_rfl) (fun _ _ _ h => h) (Or.inl ⟨by first | kernel_rfl | rfl, ?_⟩) (by assumption) ?_
  rotate_left
  · (intro wq hSw; (try dsimp only at hSw); (try simp (maxSteps := 2000000) only [List.getElem_toArray, List.getElem_cons_succ, List.getElem_cons_zero]); go_simp); try with_reducible rfl
  try simp (maxSteps := 2000000) only [List.getElem_toArray, List.getElem_cons_succ, List.getElem_cons_zero, Act.put, List.setIfInBounds_toArray, List.set_cons_zero, List.set_cons_succ]
  refine wpAnyH_take (i := 8) (v := ?_) rfl (by kernel_rfl) (by kernel_rfl) (by kernel_rfl) (fun _ _ _ h => h) (Or.inl ⟨by first | kernel_rfl | rfl, ?_⟩) (by assumption) ?_
  rotate_left
  · (intro wq hSw; (try dsimp only at hSw); (try simp (maxSteps := 2000000) only [List.getElem_toArray, List.getElem_cons_succ, List.getElem_cons_zero]); go_simp); try with_reducible rfl
  try simp (maxSteps := 2000000) only [List.getElem_toArray, List.getElem_cons_succ, List.getElem_cons_zero, Act.put, List.setIfInBounds_toArray, List.set_cons_zero, List.set_cons_succ]
  refine wpAnyH_take (i := 9) (v := ?_) rfl (by kernel_rfl) (by kernel_rfl) (by kernel_rfl) (fun _ _ _ h => h) (Or.inl ⟨by first | kernel_rfl | rfl, ?_⟩) (by assumption) ?_
  rotate_left
  · (intro wq hSw; (try dsimp only at hSw); (try simp (maxSteps := 2000000) only [List.getElem_toArray, List.getElem_cons_succ, List.getElem_cons_zero]); go_simp); try with_reducible rfl
  try simp (maxSteps := 2000000) only [List.getElem_toArray, List.getElem_cons_succ, List.getElem_cons_zero, Act.put, List.setIfInBounds_toArray, List.set_cons_zero, List.set_cons_succ]
  refine wpAnyH_take (i := 10) (v := ?_) rfl (by kernel_rfl) (by kernel_rfl) (by kernel_rfl) (fun _ _ _ h => h) (Or.inl ⟨by first | kernel_rfl | rfl, ?_⟩) (by assumption) ?_
  rotate_left
  · (intro wq hSw; (try dsimp only at hSw); (try simp (maxSteps := 2000000) only [List.getElem_toArray, List.getElem_cons_succ, List.getElem_cons_zero]); go_simp); try with_reducible rfl
  try simp (maxSteps := 2000000) only [List.getElem_toArray, List.getElem_cons_succ, List.getElem_cons_zero, Act.put, List.setIfInBounds_toArray, List.set_cons_zero, List.set_cons_succ]
  refine wpAnyH_take (i := 11) (v := ?_) rfl (by kernel_rfl) (by kernel_rfl) (by kernel_rfl) (fun _ _ _ h => h) (Or.inl ⟨by first | kernel_rfl | rfl, ?_⟩) (by assumption) ?_
  rotate_left
  · (intro wq hSw; (try dsimp only at hSw); (try simp (maxSteps := 2000000) only [List.getElem_toArray, List.getElem_cons_succ, List.getElem_cons_zero]); go_simp); try with_reducible rfl
  try simp (maxSteps := 2000000) only [List.getElem_toArray, List.getElem_cons_succ, List.getElem_cons_zero, Act.put, List.setIfInBounds_toArray, List.set_cons_zero, List.set_cons_succ]
  refine wpAnyH_take (i := 12) (v := ?_) rfl (by kernel_rfl) (by kernel_rfl) (by kernel_rfl) (fun _ _ _ h => h) (Or.inl ⟨by first | kernel_rfl | rfl, ?_⟩) (by assumption) ?_
  rotate_left
  · (intro wq hSw; (try dsimp only at hSw); (try simp (maxSteps := 2000000) only [List.getElem_toArray, List.getElem_cons_succ, List.getElem_cons_zero]); go_simp); try with_reducible rfl
  try simp (maxSteps := 2000000) only [List.getElem_toArray, List.getElem_cons_succ, List.getElem_cons_zero, Act.put, List.setIfInBounds_toArray, List.set_cons_zero, List.set_cons_succ]
  refine wpAnyH_take (i := 13) (v := ?_) rfl (by kernel_rfl) (by kernel_rfl) (by kernel_rfl) (fun _ _ _ h => h) (Or.inl ⟨by first | kernel_rfl | rfl, ?_⟩) (by assumption) ?_
  rotate_left
  · (intro wq hSw; (try dsimp only at hSw); (try simp (maxSteps := 2000000) only [List.getElem_toArray, List.getElem_cons_succ, List.getElem_cons_zero]); go_simp); try with_reducible rfl
  try simp (maxSteps := 2000000) only [List.getElem_toArray, List.getElem_cons_succ, List.getElem_cons_zero, Act.put, List.setIfInBounds_toArray, List.set_cons_zero, List.set_cons_succ]
  refine wpAnyH_take (i := 14) (v := ?_) rfl (by kernel_rfl) (by kernel_rfl) (by kernel_rfl) (fun _ _ _ h => h) (Or.inl ⟨by first | kernel_rfl | rfl, ?_⟩) (by assumption) ?_
  rotate_left
  · (intro wq hSw; (try dsimp only at hSw); (try simp (maxSteps := 2000000) only [List.getElem_toArray, List.getElem_cons_succ, List.getElem_cons_zero]); go_simp); try with_reducible rfl
  try simp (maxSteps := 2000000) only [List.getElem_toArray, List.getElem_cons_succ, List.getElem_cons_zero, Act.put, List.setIfInBounds_toArray, List.set_cons_zero, List.set_cons_succ]
  refine wpAnyH_take (i := 15) (v := ?_) rfl (by kernel_rfl) (by kernel_rfl) (by kernel_rfl) (fun _ _ _ h => h) (Or.inl ⟨by first | kernel_rfl | rfl, ?_⟩) (by assumption) ?_
  rotate_left
  · (intro wq hSw; (try dsimp only at hSw); (try simp (maxSteps := 2000000) only [List.getElem_toArray, List.getElem_cons_succ, List.getElem_cons_zero]); go_simp); try with_reducible rfl
  try simp (maxSteps := 2000000) only [List.getElem_toArray, List.getElem_cons_succ, List.getElem_cons_zero, Act.put, List.setIfInBounds_toArray, List.set_cons_zero, List.set_cons_succ]
  refine wpAnyH_take (i := 16) (v := ?_) rfl (by kernel_rfl) (by kernel_rfl) (by kernel_rfl) (fun _ _ _ h => h) (Or.inl ⟨by first | kernel_rfl | rfl, ?_⟩) (by assumption) ?_
  rotate_left
  · (intro wq hSw; (try dsimp only at hSw); (try simp (maxSteps := 2000000) only [List.getElem_toArray, List.getElem_cons_succ, List.getElem_cons_zero]); go_simp); try with_reducible rfl
  try simp (maxSteps := 2000000) only [List.getElem_toArray, List.getElem_cons_succ, List.getElem_cons_zero, Act.put, List.setIfInBounds_toArray, List.set_cons_zero, List.set_cons_succ]
  refine wpAnyH_take (i := 17) (v := ?_) rfl (by kernel_rfl) (by kernel_rfl) (by kernel_rfl) (fun _ _ _ h => h) (Or.inl ⟨by first | kernel_rfl | rfl, ?_⟩) (by assumption) ?_
  rotate_left
  · (intro wq hSw; (try dsimp only at hSw); (try simp (maxSteps := 2000000) only [List.getElem_toArray, List.getElem_cons_succ, List.getElem_cons_zero]); go_simp); try with_reducible rfl
  try simp (maxSteps := 2000000) only [List.getElem_toArray, List.getElem_cons_succ, List.getElem_cons_zero, Act.put, List.setIfInBounds_toArray, List.set_cons_zero, List.set_cons_succ]
  refine wpAnyH_take (i := 18) (v := ?_) rfl (by kernel_rfl) (by kernel_rfl) (by kernel_rfl) (fun _ _ _ h => h) (Or.inl ⟨by first | kernel_rfl | rfl, ?_⟩) (by assumption) ?_
  rotate_left
  · (intro wq hSw; (try dsimp only at hSw); (try simp (maxSteps := 2000000) only [List.getElem_toArray, List.getElem_cons_succ, List.getElem_cons_zero]); go_simp); try with_reducible rfl
  try simp (maxSteps := 2000000) only [List.getElem_toArray, List.getElem_cons_succ, List.getElem_cons_zero, Act.put, List.setIfInBounds_toArray, List.set_cons_zero, List.set_cons_succ]
  refine wpAnyH_take (i := 19) (v := ?_) rfl (by kernel_rfl) (by kernel_rfl) (by kernel_rfl) (fun _ _ _ h => h) (Or.inl ⟨by first | kernel_rfl | rfl, ?_⟩) (by assumption) ?_
  rotate_left
  · (intro wq hSw; (try dsimp only at hSw); (try simp (maxSteps := 2000000) only [List.getElem_toArray, List.getElem_cons_succ, List.getElem_cons_zero]); go_simp); try with_reducible rfl
  try simp (maxSteps := 2000000) only [List.getElem_toArray, List.getElem_cons_succ, List.getElem_cons_zero, Act.put, List.setIfInBounds_toArray, List.set_cons_zero, List.set_cons_succ]
  refine wpAnyH_take (i := 20) (v := ?_) rfl (by kernel_rfl) (by kernel_rfl) (by kernel_rfl) (fun _ _ _ h => h) (Or.inl ⟨by first | kernel_rfl | rfl, ?_⟩) (by assumption) ?_
  rotate_left
  · (intro wq hSw; (try dsimp only at hSw); (try simp (maxSteps := 2000000) only [List.getElem_toArray, List.getElem_cons_succ, List.getElem_cons_zero]); go_simp); try with_reducible rfl
  try simp (maxSteps := 2000000) only [List.getElem_toArray, List.getElem_cons_succ, List.getElem_cons_zero, Act.put, List.setIfInBounds_toArray, List.set_cons_zero, List.set_cons_succ]
  refine wpAnyH_take (i := 21) (v := ?_) rfl (by kernel_rfl) (by kernel_rfl) (by kernel_rfl) (fun _ _ _ h => h) (Or.inl ⟨by first | kernel_rfl | rfl, ?_⟩) (by assumption) ?_
  rotate_left
  · (intro wq hSw; (try dsimp only at hSw); (try simp (maxSteps := 2000000) only [List.getElem_toArray, List.getElem_cons_succ, List.getElem_cons_zero]); go_simp); try with_reducible rfl
  try simp (maxSteps := 2000000) only [List.getElem_toArray, List.getElem_cons_succ, List.getElem_cons_zero, Act.put, List.setIfInBounds_toArray, List.set_cons_zero, List.set_cons_succ]
  refine wpAnyH_take (i := 22) (v := ?_) rfl (by kernel_rfl) (by kernel_rfl) (by kernel_rfl) (fun _ _ _ h => h) (Or.inl ⟨by first | kernel_rfl | rfl, ?_⟩) (by assumption) ?_
  rotate_left
  · (intro wq hSw; (try dsimp only at hSw); (try simp (maxSteps := 2000000) only [List.getElem_toArray, List.getElem_cons_succ, List.getElem_cons_zero]); go_simp); try with_reducible rfl
  try simp (maxSteps := 2000000) only [List.getElem_toArray, List.getElem_cons_succ, List.getElem_cons_zero, Act.put, List.setIfInBounds_toArray, List.set_cons_zero, List.set_cons_succ]
  refine wpAnyH_done (by kernel_rfl) ?_ _
  have HBd := Lib.hid hHeld
  clear hHeld u1 u2 hP2 q7
  go_wp2_with (at_make; refine wpList_make0 ByR (fun j => w.heap.size ≤ j) sl_by rfl rfl (base := w.heap.size) rfl rfl s (by omega) (by omega) (by unfold maxLen; omega) (by (first | (with_reducible exact Nat.le_refl _) | omega | (simp only [World.size_alloc, World.size_setCell, World.size_drew] <;> omega))) ?_; intro y hys hown; have HO := Lib.hid hown; have HY := Lib.hid (show Below w.heap.size w y.to from HBd.out.trans y.ok); clear hown hys)
  go_loopw [8, 41] (fun vs vi wr => ∃ (i L : Nat) (A : Option Addr) (c : Nat), i ≤ k ∧ vi = .int .i64 i ∧ vs = .slice A L c ∧ L ≤ c ∧ L ≤ s ∧ Hid (OwnL ByR 5 1 w.heap.size (fun j => w.heap.size ≤ j) wr (.slice A L c) L (joinF ss s i)) ∧ Hid (Below w.heap.size w wr)) (fun _ vi _ => k - (intOf vi).toNat)
  case atStart => exact ⟨0, 0, _, _, Nat.zero_le _, rfl, rfl, Nat.zero_le _, Nat.zero_le _, by rw [show joinF ss s 0 = [] by unfold joinF; simp]; exact HO, HY⟩
  case round =>
    clear HO HY
    obtain ⟨i, L, A, c, hi, rfl, rfl, hc, hLs, HO, HB⟩ := hrel
    have p0 : (0 : Int) ≤ (i : Int) := Int.natCast_nonneg _
    have p2 : (0 : Int) ≤ (L : Int) := Int.natCast_nonneg _
    have p3 : (L : Int) ≤ (s : Int) := by omega
    by_cases hlt : i < k
    · have p1 : (i : Int) < (k : Int) := by omega
      obtain ⟨A1, m1, c1, v1, hmc1, r1⟩ := row_at HR.out hlt
      have v1' := (HB.out.cell (p := ⟨bs, os + i, none⟩) hbs).trans v1
      have hm1 : m1 = mr := by rw [← HEV.out i hlt]; exact r1.1.symm
      subst hm1
      obtain ⟨q, hq⟩ : ∃ q, min m1 (s - L) = q := ⟨_, rfl⟩
      have hq2 : min (m1 : Int) ((s : Int) - (L : Int)) = (q : Int) := by omega
      have hqm : q ≤ m1 := by omega
      have hqc : q ≤ c1 := by omega
      have hLq : L + q ≤ s := by omega
      have hL := HO.out.len
      have hnx := joinF_next (s := s) (i := i) (n := m1) (by omega) (HEV.out i hlt)
      rw [hL, hq] at hnx
      have hpc := fun w => piece_pre sl_by (A := A1) (N := m1) (c := c1) (k := q) hqc w
      have HNX := Lib.hid hnx
      have HR1 := Lib.hid (RdL.take (r1.below ByR.stable HB.out) (k := q) hqm)
      have hszr := HB.out.size
      clear hnx r1 v1 hL hq
      go_wp2_with (at_builtin; refine wpList_appL ByR.stable ByR.one sl_by rfl (by exact rfl) (base := w.heap.size) (S := fun j => w.heap.size ≤ j) (by exact rfl) HO.out (by exact rfl) HR1.out (fun _ _ h => h) (by unfold maxLen; omega) (by omega) hszr ?_; intro A3 c3 w3 hc3 hown3 hg3 hat; rw [← HNX.out] at hown3; have HO3 := Lib.hid hown3; have HB3 := Lib.hid (show Below w.heap.size w w3 from HB.out.trans ⟨hg3.os, hg3.tape, hg3.output, (by have := hg3.size; omega), fun k hk => hg3.block k (Nat.lt_of_lt_of_le hk hszr) (fun e => by have := (HO.out.lt _ e.symm).1; omega)⟩); clear hown3 hg3 hat)
      exact ⟨⟨i + 1, L + q, A3, c3, by omega, by go_num, rfl, hc3, hLq, HO3, HB3⟩, by simp [intOf]; omega⟩
    · have p1 : ¬ (i : Int) < (k : Int) := by omega
      obtain rfl : i = k := by omega
      have hfl : ss.flatten.length = P := by
        rw [rows_flat (n := mr) ss (fun r hr => by
          obtain ⟨j, hj, rfl⟩ := List.mem_iff_getElem.1 hr
          have h1 := HEV.out j (by omega)
          rwa [ra_some (List.getElem?_eq_getElem hj)] at h1), hsl]
        exact HP.out
      have hL := HO.out.len
      unfold joinF at HO hL
      rw [List.take_of_length_le (show ss.length ≤ i by omega)] at HO hL
      rw [List.length_take, hfl] at hL
      have hLe : L = s := by omega
      subst hLe
      have HH := Lib.hid hL
      clear hL hfl
      go_wp2_with fail
      go_ret2
      obtain ⟨A', c', e, _, hr⟩ := HO.out.rd (S' := fun j => w.heap.size ≤ j) (fun j hj => hj) (fun cs x hx => hx)
      injection e with e1 _ e2
      subst e1; subst e2
      exact ⟨A, c, rfl, hc, hr, HB.out⟩
end Go.Proofs.YthhljmlpjnkfgaaGreat

set_option linter.unusedSimpArgs false
set_option linter.unusedVariables false
namespace Go.Proofs.YthhljmlpjnkfgaaGreat
open Go.RowKit Go.Cib
attribute [local go_sem] cell_set Later.cell Later.frozen Grw.cell Grw.frozen

def fillL (width : Nat) (xs : List Nat) : List Nat := xs ++ List.replicate (width - xs.length) 0
def valsL (xs : List Nat) : List Value := xs.map fun x : Nat => Value.int .u8 (x : Int)
theorem valsL_one (xs : List Nat) : ∀ u ∈ valsL xs, u.oneCell' = true := fun u hu => by
  obtain ⟨x, _, rfl⟩ := List.mem_map.1 hu; rfl
theorem valsL_cell {S : Nat → Prop} {w : World} {a : Addr} {m : Nat} {xs : List Nat} (R : RdL ByR 1 S w (some a) m xs) : ∀ j u, (valsL xs)[j]? = some u → w.cell? (a.add j) = some u := fun j u hu => by
  unfold valsL at hu
  rw [List.getElem?_map] at hu
  cases hx : xs[j]? with
  | none => rw [hx] at hu; cases hu
  | some x =>
    rw [hx] at hu
    injection hu with hu
    have hj : j < m := by rw [← R.1]; exact (List.getElem?_eq_some_iff.1 hx).1
    obtain ⟨b, o, ha, _, _⟩ := R.addr hj
    injection ha with ha
    subst ha
    have h1 := (by_at R hj).1
    have h2 := gt_of_lt (l := xs) (i := j) (by rw [R.1]; exact hj)
    rw [hx] at h2
    injection h2 with h2
    rw [← hu, h2, Addr.add_lit]
    exact h1
theorem fill_run {S : Nat → Prop} {w : World} {g width m c : Nat} {A : Option Addr} {xs : List Nat} {ty : TypeId}
    (hg : w.heap[g]? = some (.cells (Array.replicate width (.int .u8 0)) 5 (0, 0))) (R : RdL ByR 1 S w A m xs) (hm : m ≤ width) :
    ∃ w', (Builtin.append_ #[29, 29] ty #[.slice (some ⟨g, 0, none⟩) 0 width, .slice A m c]).run Tryz.prog w = .ok (.slice (some ⟨g, 0, none⟩) m width) w' ∧
      w' = w.setRow g (valsL (fillL width xs)).toArray := by
  obtain ⟨i, hi, hz, hsz, hby⟩ := info_parts sl_by.info
  have hxl := R.1
  have he : valsL (fillL width xs) = valsL xs ++ List.replicate (width - m) (Value.int .u8 0) := by
    unfold valsL fillL
    rw [List.map_append, hxl, List.map_replicate]; rfl
  cases A with
  | none =>
    have hm0 : m = 0 := by
      rcases Nat.eq_zero_or_pos m with h | h
      · exact h
      · obtain ⟨b, o, hA, _⟩ := R.addr h; cases hA
    subst hm0
    have hx0 : xs = [] := List.length_eq_zero_iff.1 hxl
    subst hx0
    refine ⟨w, ?_, ?_⟩
    · simp [Builtin.append_, run_underlying sl_by.und, sizeOf, typeInfo, hi, Builtin.lenOf, Builtin.firstCells, storeCells]
    · rw [he]
      show w = w.setRow g (List.replicate (width - 0) (Value.int .u8 0)).toArray
      rw [Nat.sub_zero, List.toArray_replicate]
      exact (setRow_self w g _ _ _ hg).symm
  | some a =>
    have h := run_append_room (P := Tryz.prog) w 29 ty 5 i sl_by.und hi g 0 width _ hg a m c (valsL xs) (by unfold valsL; rw [List.length_map, hxl, hsz, Nat.mul_one]) (valsL_cell R) (valsL_one xs) (by omega) (by unfold valsL; rw [List.length_map, hxl, Array.size_replicate]; omega)
    rw [Nat.zero_add] at h
    refine ⟨_, h, ?_⟩
    have hvl : (valsL xs).length = m := by unfold valsL; rw [List.length_map, hxl]
    rw [he, hvl, Nat.zero_mul, List.take_zero, List.nil_append, Nat.zero_add, Array.toList_replicate, List.drop_replicate]
end Go.Proofs.YthhljmlpjnkfgaaGreat

set_option linter.unusedSimpArgs false
set_option linter.unusedVariables false
namespace Go.Proofs.YthhljmlpjnkfgaaGreat
open Go.RowKit Go.Cib
attribute [local go_sem] cell_set Later.cell Later.frozen Grw.cell Grw.frozen
open Go.Lib
attribute [local go_sem ↓] run_min_b

def splF (width : Nat) (xs : List Nat) (k i : Nat) : Rws := ((List.range i).map fun j => fillL width ((xs.drop (j * width)).take width)) ++ List.replicate (k - i) []
theorem splF_next {width : Nat} {xs : List Nat} {k i : Nat} (h : i < k) : (splF width xs k i).set i (fillL width ((xs.drop (i * width)).take width)) = splF width xs k (i + 1) := by
  unfold splF
  rw [List.set_append_right _ _ (by simp), List.range_succ, List.map_append, List.append_assoc]
  congr 1
  obtain ⟨d, hd⟩ : ∃ d, k - i = d + 1 := ⟨k - i - 1, by omega⟩
  rw [hd, show k - (i + 1) = d by omega, List.replicate_succ]
  simp
theorem make0 (k : Nat) (hk : k ≤ 1000000) (w : World) : (Instr.makeSlice 29 (.int .i64 0) (.int .i64 (k : Int))).run Tryz.prog w = .ok (.slice (some ⟨w.heap.size, 0, none⟩) 0 k) (w.alloc (.cells (Array.replicate k (.int .u8 0)) 5)) := by
  obtain ⟨i, hi, hz, hs, hb⟩ := info_parts sl_by.info
  have h := run_make (P := Tryz.prog) w 29 5 i (.int .u8 0) (by kernel_rfl) hi hz .i64 .i64 0 k (by omega) (by omega) (by rw [hb]; omega) (by omega)
  simp only [Int.toNat_natCast, hs, Nat.mul_one] at h
  rw [h, show (Value.int .u8 0).cells = #[.int .u8 0] from rfl, madeCells_r]
  rfl
set_option maxRecDepth 100000 in
set_option maxHeartbeats 8000000 in
theorem split_any {w : World} {cb b k m n c width : Nat} {A : Option Addr} {S : Nat → Prop} {xs : List Nat} (H : CodAt w cb b k m) (R : RdL ByR 1 S w A n xs) (hc : n ≤ c) (h1 : 1 ≤ width) (h2 : width ≤ 65536) (hn : n ≤ k * width) :
    Calls Tryz.prog 24 #[.pointer (some ⟨cb, 0, none⟩), .slice A n c, .int .i64 (width : Int)] w fun e w' => ∃ g, e = .returned (.tuple #[.slice (some ⟨g, 0, none⟩) k k, .int .i64 0]) ∧ RdL RowR 1 (fun j => w.heap.size ≤ j) w' (some ⟨g, 0, none⟩) k (splF width xs k k) ∧ Below w.heap.size w w' := by
  have HR := Lib.hid R
  have hxl := R.1
  have hk1 := H.k1
  have hkm := H.km
  have hNo := none_any H
  obtain ⟨A0, c0, hbx, _⟩ := H.box
  have hcl := hbx.lt
  have u1 := hbx.cell 0
  obtain ⟨P, hP⟩ : ∃ P, k * width = P := ⟨_, rfl⟩
  have hPle : P ≤ 255 * 65536 := by rw [← hP]; exact Nat.mul_le_mul (by omega) h2
  rw [hP] at hn
  have hP2 : (k : Int) * (width : Int) = (P : Int) := by rw [← hP]; push_cast; rfl
  have q1 : (P : Int) ≤ 16711680 := by omega
  have q2 : ¬ (P : Int) < (n : Int) := by omega
  have q2b : decide (P < n) = false := decide_eq_false (by omega)
  have q3 : (0 : Int) ≤ (n : Int) := Int.natCast_nonneg _
  have q4 : ¬ (width : Int) < 1 := by omega
  have q5 : ¬ (width : Int) > 65536 := by omega
  have q6 : (k : Int) ≤ 255 := by omega
  have q7 : IntKind.i64.wrap (P : Int) = (P : Int) := by rw [IntKind.wrap_i64]; omega
  have HP := Lib.hid hP
  have hmk := makeRows k (by omega) w
  have ho := OutAt.made w k 29
  have hbz : Below w.heap.size w (w.alloc (.cells (Array.replicate k (.slice none 0 0)) 29)) := (Below.refl _ _).alloc (Nat.le_refl _) _
  obtain ⟨w3, hw3⟩ : ∃ w3, w.alloc (.cells (Array.replicate k (.slice none 0 0)) 29) = w3 := ⟨_, rfl⟩
  rw [hw3] at hmk ho hbz
  obtain ⟨go, hgo⟩ : ∃ go, w.heap.size = go := ⟨_, rfl⟩
  rw [hgo] at hmk ho
  have hs0 : splF width xs k 0 = List.replicate k [] := by unfold splF; simp
  rw [← hs0] at ho
  have HO := Lib.hid ho
  have HB := Lib.hid hbz
  have HGO := Lib.hid hgo
  clear H R hbx hP ho hbz hw3 hs0 hgo
  go_enter Tryz.func24, Tryz.ntmps24
  go_wp2_with (go_at_call 43; refine hNo.mono ?_; rintro e w9 ⟨rfl, hw9⟩; rw [hw9]; clear hw9 hNo)
  clear hmk u1 hP2 q7
  have HX0 : Hid (RdL ByR 1 (fun _ => True) w A n (xs.drop (0 * width))) := Lib.hid (by rw [Nat.zero_mul, List.drop_zero]; exact HR.out.weaken ByR.stable (fun _ _ => trivial))
  go_loopw [1, 40] (fun vb vi wr => ∃ (i nb cc : Nat) (Ab : Option Addr), i ≤ k ∧ vi = .int .i64 i ∧ vb = .slice Ab nb cc ∧ nb ≤ cc ∧ nb ≤ n ∧ Hid (RdL ByR 1 (fun _ => True) w Ab nb (xs.drop (i * width))) ∧ Hid (OutAt wr go go k (splF width xs k i)) ∧ Hid (Below w.heap.size w wr)) (fun _ vi _ => k - (intOf vi).toNat)
  case atStart => exact ⟨0, n, c, A, Nat.zero_le _, rfl, rfl, hc, Nat.le_refl _, HX0, HO, HB⟩
  case round =>
    clear HX0 HO HB
    obtain ⟨i, nb, cc, Ab, hi, rfl, rfl, hcc, hnb, HX, HO, HB⟩ := hrel
    have p0 : (0 : Int) ≤ (i : Int) := Int.natCast_nonneg _
    by_cases hlt : i < k
    · have p1 : (i : Int) < (k : Int) := by omega
      obtain ⟨q, hq⟩ : ∃ q, min nb width = q := ⟨_, rfl⟩
      have hq2 : min (nb : Int) (width : Int) = (q : Int) := by omega
      have hqn : q ≤ nb := by omega
      have hqw : q ≤ width := by omega
      have hp1 := fun w => piece_pre sl_by (A := Ab) (N := nb) (c := cc) (k := q) (by omega) w
      have hp2 := fun w => piece_suf sl_by (A := Ab) (N := nb) (c := cc) (k := q) (by omega) w
      have hm0 := make0 width (by omega) wr.drew
      obtain ⟨w4, hw4⟩ : ∃ w4, wr.drew.alloc (.cells (Array.replicate width (.int .u8 0)) 5) = w4 := ⟨_, rfl⟩
      have hg4 : w4.heap[wr.heap.size]? = some (.cells (Array.replicate width (.int .u8 0)) 5 (0, 0)) := by rw [← hw4]; show (wr.heap.push _)[wr.heap.size]? = _; exact Array.getElem?_push_size
      have hb4 : Below wr.heap.size wr w4 := by rw [← hw4]; exact (Below.refl _ _).drew.alloc (Nat.le_refl _) _
      have hrx : RdL ByR 1 (fun _ => True) w4 Ab q ((xs.drop (i * width)).take q) := RdL.take (HX.out.below ByR.stable (HB.out.trans (hb4.mono HB.out.size))) hqn
      obtain ⟨w5, hw5⟩ : ∃ w5, w5 = w4.setRow wr.heap.size (valsL (fillL width ((xs.drop (i * width)).take q))).toArray := ⟨_, rfl⟩
      have hfr : ∀ ty, (Builtin.append_ #[29, 29] ty #[.slice (some ⟨wr.heap.size, 0, none⟩) 0 width, .slice Ab q cc]).run Tryz.prog w4 = .ok (.slice (some ⟨wr.heap.size, 0, none⟩) q width) w5 := fun ty => by
        obtain ⟨w', h, e⟩ := fill_run (c := cc) (ty := ty) hg4 hrx hqw
        rw [h, e, hw5]
      have hb5 : Below wr.heap.size wr w5 := by rw [hw5]; exact hb4.trans ⟨rfl, rfl, rfl, by simp [World.setRow], fun k hk => setRow_other _ _ _ _ (by omega)⟩
      have hlw : (fillL width ((xs.drop (i * width)).take q)).length = width := by unfold fillL; rw [List.length_append, List.length_replicate, hrx.1]; omega
      have hbyt : Byt (fillL width ((xs.drop (i * width)).take q)) := fun x hx => by
        unfold fillL at hx
        rcases List.mem_append.1 hx with hx | hx
        · exact by_byt hrx x hx
        · rw [(List.mem_replicate.1 hx).2]; omega
      have hri : RowIn w5 wr.heap.size (valsL (fillL width ((xs.drop (i * width)).take q))).toArray (fillL width ((xs.drop (i * width)).take q)) := by
        refine ⟨⟨5, by rw [hw5]; exact setRow_heap w4 _ _ _ _ _ hg4⟩, by simp [valsL], fun j hj => ?_, hbyt⟩
        rw [List.getElem?_toArray]
        unfold valsL
        rw [List.getElem?_map, gt_of_lt hj]; rfl
      have hrd5 := hri.rd (S := fun j => go ≤ j ∧ j ≠ go) (by have := HO.out.lt; have := HGO.out; have := HB.out.size; omega)
      rw [hlw] at hrd5
      have ho5 := HO.out.below hb5
      obtain ⟨⟨v5, hv5⟩, f5⟩ := ho5.cellx hlt
      have hst := ho5.set (i := i) (c := width) hlt (Nat.le_refl _) hrd5
      have hqx : (xs.drop (i * width)).take q = (xs.drop (i * width)).take width := by
        have hl := HX.out.1
        by_cases h : nb ≤ width
        · rw [List.take_of_length_le (by omega), List.take_of_length_le (by omega)]
        · rw [show q = width by omega]
      rw [hqx, splF_next hlt] at hst
      have hxn : RdL ByR 1 (fun _ => True) w (if cc = q then Ab else Ab.map (fun x : Addr => x.add (q * 1))) (nb - q) (xs.drop ((i + 1) * width)) := by
        have h := piece_rd HX.out hcc hqn
        rw [List.drop_drop] at h
        have e : xs.drop (i * width + q) = xs.drop ((i + 1) * width) := by
          have hl := HX.out.1
          rw [List.length_drop] at hl
          rw [Nat.succ_mul]
          by_cases h : nb ≤ width
          · rw [List.drop_of_length_le (by omega), List.drop_of_length_le (by omega)]
          · rw [show q = width by omega]
        rw [e] at h; exact h
      obtain ⟨AN, hAN⟩ : ∃ AN, (if cc = q then Ab else Ab.map (fun x : Addr => x.add (q * 1))) = AN := ⟨_, rfl⟩
      rw [hAN] at hxn
      simp only [hAN] at hp2
      clear hAN
      have HST := Lib.hid hst
      have HXN := Lib.hid hxn
      have hgw : w.heap.size ≤ go := by have := HGO.out; omega
      have HB5 := Lib.hid (((HB.out.trans (hb5.mono HB.out.size))).setCell (p := ⟨go, i, none⟩) hgw (.slice (some ⟨wr.heap.size, 0, none⟩) width width))
      have hp3 := fun w => piece_pre sl_by (A := some ⟨wr.heap.size, 0, none⟩) (N := q) (c := width) (k := width) (Nat.le_refl _) w
      rw [hw4] at hm0
      have hmd : wr.drew.heap.size = wr.heap.size := rfl
      rw [hmd] at hm0
      clear hst hxn hqx hrd5 ho5 hri hbyt hlw hb4 hb5 hrx hw5 hg4 hw4 hq hmd
      go_wp2_with fail
      refine wp_region_L (S := fun _ => True) [11] (by kernel_rfl) (trivial) (fun hHeld => ?_)
      refine wpAnyL_take (i := 0) (v := ?_) rfl (by kernel_rfl) (by kernel_rfl) (by kernel_rfl) (by kernel_rfl) (fun _ _ _ h => h) (Or.inl ⟨by first | kernel_rfl | rfl, ?_⟩) (by assumption) ?_
      rotate_left
      · (intro wq0 hSw; (try dsimp only at hSw); (try simp (maxSteps := 2000000) only [List.getElem_toArray, List.getElem_cons_succ, List.getElem_cons_zero]); go_simp); try with_reducible rfl
      try simp (maxSteps := 2000000) only [List.getElem_toArray, List.getElem_cons_succ, List.getElem_cons_zero, Act.put, List.setIfInBounds_toArray, List.set_cons_zero, List.set_cons_succ]
      refine wpAnyL_take (i := 1) (v := ?_) rfl (by kernel_rfl) (by kernel_rfl) (by kernel_rfl) (by kernel_rfl) (fun _ _ _ h => h) (Or.inl ⟨by first | kernel_rfl | rfl, ?_⟩) (by assumption) ?_
      rotate_left
      · (intro wq0 hSw; (try dsimp only at hSw); (try simp (maxSteps := 2000000) only [List.getElem_toArray, List.getElem_cons_succ, List.getElem_cons_zero]); go_simp); try with_reducible rfl
      try simp (maxSteps := 2000000) only [List.getElem_toArray, List.getElem_cons_succ, List.getElem_cons_zero, Act.put, List.setIfInBounds_toArray, List.set_cons_zero, List.set_cons_succ]
      refine wpAnyL_take (i := 2) (v := ?_) rfl (by kernel_rfl) (by kernel_rfl) (by kernel_rfl) (by kernel_rfl) (fun _ _ _ h => h) (Or.inl ⟨by first | kernel_rfl | rfl, ?_⟩) (by assumption) ?_
      rotate_left
      · (intro wq0 hSw; (try dsimp only at hSw); (try simp (maxSteps := 2000000) only [List.getElem_toArray, List.getElem_cons_succ, List.getElem_cons_zero]); go_simp); try with_reducible rfl
      try simp (maxSteps := 2000000) only [List.getElem_toArray, List.getElem_cons_succ, List.getElem_cons_zero, Act.put, List.setIfInBounds_toArray, List.set_cons_zero, List.set_cons_succ]
      refine wpAnyL_take (i := 4) (v := ?_) rfl (by kernel_rfl) (by kernel_rfl) (by kernel_rfl) (by kernel_rfl) (fun _ _ _ h => h) (Or.inl ⟨by first | kernel_rfl | rfl, ?_⟩) (by assumption) ?_
      rotate_left
      · (intro wq0 hSw; (try dsimp only at hSw); (try simp (maxSteps := 2000000) only [List.getElem_toArray, List.getElem_cons_succ, List.getElem_cons_zero]); go_simp); try with_reducible rfl
      try simp (maxSteps := 2000000) only [List.getElem_toArray, List.getElem_cons_succ, List.getElem_cons_zero, Act.put, List.setIfInBounds_toArray, List.set_cons_zero, List.set_cons_succ]
      refine wpAnyL_take (i := 5) (v := ?_) rfl (by kernel_rfl) (by kernel_rfl) (by kernel_rfl) (by kernel_rfl) (fun _ _ _ h => h) (Or.inl ⟨by first | kernel_rfl | rfl, ?_⟩) (by assumption) ?_
      rotate_left
      · (intro wq0 hSw; (try dsimp only at hSw); (try simp (maxSteps := 2000000) only [List.getElem_toArray, List.getElem_cons_succ, List.getElem_cons_zero]); go_simp); try with_reducible rfl
      try simp (maxSteps := 2000000) only [List.getElem_toArray, List.getElem_cons_succ, List.getElem_cons_zero, Act.put, List.setIfInBounds_toArray, List.set_cons_zero, List.set_cons_succ]
      refine wpAnyL_take (i := 6) (v := ?_) rfl (by kernel_rfl) (by kernel_rfl) (by kernel_rfl) (by kernel_rfl) (fun _ _ _ h => h) (Or.inl ⟨by first | kernel_rfl | rfl, ?_⟩) (by assumption) ?_
      rotate_left
      · (intro wq0 hSw; (try dsimp only at hSw); (try simp (maxSteps := 2000000) only [List.getElem_toArray, List.getElem_cons_succ, List.getElem_cons_zero]); go_simp); try with_reducible rfl
      try simp (maxSteps := 2000000) only [List.getElem_toArray, List.getElem_cons_succ, List.getElem_cons_zero, Act.put, List.setIfInBounds_toArray, List.set_cons_zero, List.set_cons_succ]
      refine wpAnyL_take (i := 8) (v := ?_) rfl (by kernel_rfl) (by kernel_rfl) (by kernel_rfl) (by kernel_rfl) (fun _ _ _ h => h) (Or.inl ⟨by first | kernel_rfl | rfl, ?_⟩) (by assumption) ?_
      rotate_left
      · (intro wq0 hSw; (try dsimp only at hSw); (try simp (maxSteps := 2000000) only [List.getElem_toArray, List.getElem_cons_succ, List.getElem_cons_zero]); go_simp); try with_reducible rfl
      try simp (maxSteps := 2000000) only [List.getElem_toArray, List.getElem_cons_succ, List.getElem_cons_zero, Act.put, List.setIfInBounds_toArray, List.set_cons_zero, List.set_cons_succ]
      refine wpAnyL_ready (rs := [3]) (by kernel_rfl) (by simp) ?_
      refine AllReadyL.cons rfl (fun K hK => ?_) AllReadyL.nil
      try simp (maxSteps := 2000000) only [List.getElem_toArray, List.getElem_cons_succ, List.getElem_cons_zero]
      go_simp
      refine hK.out _ _ (trivial) (fun hHeld => ?_)
      clear hK K
      try simp (maxSteps := 2000000) only [List.getElem_toArray, List.getElem_cons_succ, List.getElem_cons_zero, Act.put, List.setIfInBounds_toArray, List.set_cons_zero, List.set_cons_succ]
      refine wpAnyL_ready (rs := [7]) (by kernel_rfl) (by simp) ?_
      refine AllReadyL.cons rfl (fun K hK => ?_) AllReadyL.nil
      refine step_law (by rfl) (wpList_append_run _ (by rfl) _ _ _ _ (by rfl) _ _ (by rfl) (by rfl) _ _ (hfr _) ?_)
      refine And.intro rfl ?_
      refine hK.out _ _ (trivial) (fun hHeld => ?_)
      clear hK K
      try simp (maxSteps := 2000000) only [List.getElem_toArray, List.getElem_cons_succ, List.getElem_cons_zero, Act.put, List.setIfInBounds_toArray, List.set_cons_zero, List.set_cons_succ]
      refine wpAnyL_take (i := 9) (v := ?_) rfl (by kernel_rfl) (by kernel_rfl) (by kernel_rfl) (by kernel_rfl) (fun _ _ _ h => h) (Or.inl ⟨by first | kernel_rfl | rfl, ?_⟩) (by assumption) ?_
      rotate_left
      · (intro wq0 hSw; (try dsimp only at hSw); (try simp (maxSteps := 2000000) only [List.getElem_toArray, List.getElem_cons_succ, List.getElem_cons_zero]); go_simp); try with_reducible rfl
      try simp (maxSteps := 2000000) only [List.getElem_toArray, List.getElem_cons_succ, List.getElem_cons_zero, Act.put, List.setIfInBounds_toArray, List.set_cons_zero, List.set_cons_succ]
      refine wpAnyL_take (i := 10) (v := ?_) rfl (by kernel_rfl) (by kernel_rfl) (by kernel_rfl) (by kernel_rfl) (fun _ _ _ h => h) (Or.inl ⟨by first | kernel_rfl | rfl, ?_⟩) (by assumption) ?_
      rotate_left
      · (intro wq0 hSw; (try dsimp only at hSw); (try simp (maxSteps := 2000000) only [List.getElem_toArray, List.getElem_cons_succ, List.getElem_cons_zero]); go_simp); try with_reducible rfl
      try simp (maxSteps := 2000000) only [List.getElem_toArray, List.getElem_cons_succ, List.getElem_cons_zero, Act.put, List.setIfInBounds_toArray, List.set_cons_zero, List.set_cons_succ]
      refine wpAnyL_ready (rs := [11]) (by kernel_rfl) (by simp) ?_
      refine AllReadyL.last rfl (by decide) (fun K hK => ?_) AllReadyL.nil
      try simp (maxSteps := 2000000) only [List.getElem_toArray, List.getElem_cons_succ, List.getElem_cons_zero]
      go_simp
      refine hK.out _ _ ?_
      clear hK K
      try simp (maxSteps := 2000000) only [List.getElem_toArray, List.getElem_cons_succ, List.getElem_cons_zero, Act.put, List.setIfInBounds_toArray, List.set_cons_zero, List.set_cons_succ]
      refine wpAnyL_done (by kernel_rfl) ?_ _
      clear hHeld
      go_wp2_with fail
      exact ⟨⟨i + 1, nb - q, cc - q, AN, by omega, by go_num, rfl, by omega, by omega, HXN, HST, HB5⟩, by simp [intOf]; omega⟩
    · have p1 : ¬ (i : Int) < (k : Int) := by omega
      obtain rfl : i = k := by omega
      go_wp2_with fail
      go_ret2
      exact ⟨go, rfl, HO.out.rd.weaken RowR.stable (fun j hj => by have := HGO.out; omega), HB.out⟩
end Go.Proofs.YthhljmlpjnkfgaaGreat

set_option linter.unusedSimpArgs false
set_option linter.unusedVariables false
namespace Go.Proofs.YthhljmlpjnkfgaaGreat
open Go.RowKit Go.Cib
attribute [local go_sem] cell_set Later.cell Later.frozen Grw.cell Grw.frozen

def dl (i j : Nat) : Nat := if i = j then 1 else 0
theorem dl_lt (i j : Nat) : dl i j < 256 := by unfold dl; split <;> omega
theorem gm_sum {f : Nat → Nat} (h : ∀ i, f i < 256) (c : Nat) (n : Nat) : gm (sumx f n) c = sumx (fun i => gm (f i) c) n := by
  rw [gm_comm, sumx_mul h c n]
  exact sumx_cong fun i _ => gm_comm _ _
theorem sum_dl {f : Nat → Nat} {n l : Nat} (hl : l < n) (hf : f l < 256) : sumx (fun t => gm (dl l t) (f t)) n = f l := by
  rw [sumx_one hl fun i _ hne => by unfold dl; rw [if_neg (fun e => hne e.symm), zero_gm]]
  unfold dl
  rw [if_pos rfl, gm_comm, gm_one2 hf]
theorem sum_dl2 {f : Nat → Nat} {n l : Nat} (hl : l < n) (hf : f l < 256) : sumx (fun t => gm (f t) (dl t l)) n = f l := by
  rw [sumx_one hl fun i _ hne => by unfold dl; rw [if_neg hne, gm_zero]]
  unfold dl
  rw [if_pos rfl, gm_one2 hf]
section
variable {V : Rws} {n : Nat}
theorem invE_lt (hV : Shp n n V) (h : Inj n V) {i j : Nat} (hi : i < n) : invE V n i j < 256 := gt_lt ((eliR_ok hV h).2.1.shp.row hi).2 _
theorem dt_two (r : List Nat) (y : Nat → Nat) : dt (n + n) r y = sumx (fun l => gm (gt r l) (y l)) n ^^^ sumx (fun j => gm (gt r (n + j)) (y (n + j))) n := sumx_add _ _ _
theorem dt_beg (hV : Shp n n V) {i : Nat} (hi : i < n) (y : Nat → Nat) (hy : y (n + i) < 256) : dt (n + n) (ra (begF V n n) i) y = sumx (fun l => gm (gt (ra V i) l) (y l)) n ^^^ y (n + i) := by
  rw [begF_ra hi, dt_two]
  congr 1
  · exact sumx_cong fun l hl => by rw [begRow_gt hV hi (by omega), if_pos hl]
  · rw [← sum_dl (f := fun j => y (n + j)) hi hy]
    refine sumx_cong fun j hj => ?_
    rw [begRow_gt hV hi (by omega), if_neg (by omega)]
    unfold dl
    by_cases e : i = j
    · rw [if_pos (by omega), if_pos e]
    · rw [if_neg (by omega), if_neg e]
theorem dt_eli (hV : Shp n n V) (h : Inj n V) {i : Nat} (hi : i < n) (y : Nat → Nat) (hy : y i < 256) : dt (n + n) (ra (eliR V n) i) y = y i ^^^ sumx (fun j => gm (invE V n i j) (y (n + j))) n := by
  rw [dt_two]
  congr 1
  rw [← sum_dl (f := y) hi hy]
  refine sumx_cong fun l hl => ?_
  rw [(eliR_ok hV h).2.1.unit i l hi hl]
  rfl
/-- The inverse before the matrix. -/
theorem inv_left (hV : Shp n n V) (h : Inj n V) {i t : Nat} (hi : i < n) (ht : t < n) : sumx (fun j => gm (invE V n i j) (gt (ra V j) t)) n = dl i t := by
  have hb : ∀ j, gt (ra V j) t < 256 := fun j => by
    by_cases hj : j < n
    · exact gt_lt (hV.row hj).2 _
    · rw [show ra V j = [] by unfold ra; rw [List.getD_eq_getElem?_getD, List.getElem?_eq_none (by rw [hV.1]; omega)]; rfl]
      rw [gt_ge (by exact Nat.zero_le _)]; omega
  have hy : ∀ l, (fun l => if l < n then dl l t else gt (ra V (l - n)) t) l < 256 := fun l => by
    show (if l < n then dl l t else gt (ra V (l - n)) t) < 256
    split
    · exact dl_lt _ _
    · exact hb _
  have h1 := ((eliR_ok hV h).2.2 (fun l => if l < n then dl l t else gt (ra V (l - n)) t) hy).2 fun i hi => by
    rw [dt_beg hV hi _ (hy _)]
    try dsimp only
    rw [if_neg (by omega), show n + i - n = i by omega]
    rw [sumx_cong (g := fun l => gm (gt (ra V i) l) (dl l t)) fun l hl => by rw [if_pos hl]]
    rw [sum_dl2 (f := fun l => gt (ra V i) l) ht (gt_lt (hV.row hi).2 _), Nat.xor_self]
  have h2 := h1 i hi
  rw [dt_eli hV h hi _ (hy i)] at h2
  try dsimp only at h2
  rw [if_pos hi] at h2
  have h3 := xor_zero_eq h2
  rw [h3]
  exact sumx_cong fun j _ => by rw [if_neg (by omega), show n + j - n = j by omega]
/-- The inverse behind the matrix. -/
theorem inv_right (hV : Shp n n V) (h : Inj n V) {i t : Nat} (hi : i < n) (ht : t < n) : sumx (fun l => gm (gt (ra V i) l) (invE V n l t)) n = dl i t := by
  have hy : ∀ l, (fun l => if l < n then invE V n l t else dl (l - n) t) l < 256 := fun l => by
    show (if l < n then invE V n l t else dl (l - n) t) < 256
    split
    · exact invE_lt hV h (by assumption)
    · exact dl_lt _ _
  have h1 := ((eliR_ok hV h).2.2 (fun l => if l < n then invE V n l t else dl (l - n) t) hy).1 fun i hi => by
    rw [dt_eli hV h hi _ (hy i)]
    try dsimp only
    rw [if_pos hi]
    rw [sumx_cong (g := fun j => gm (invE V n i j) (dl j t)) fun j hj => by rw [if_neg (by omega), show n + j - n = j by omega]]
    rw [sum_dl2 (f := fun j => invE V n i j) ht (invE_lt hV h hi), Nat.xor_self]
  have h2 := h1 i hi
  rw [dt_beg hV hi _ (hy _)] at h2
  try dsimp only at h2
  rw [if_neg (by omega), show n + i - n = i by omega] at h2
  rw [← xor_zero_eq h2]
  exact sumx_cong fun l hl => by rw [if_pos hl]
end
/-- A row times the inverse, times what the matrix makes of data, is the row times the data. -/
theorem sum_back {k : Nat} {r d : Nat → Nat} {X V : Nat → Nat → Nat} (hd : ∀ t, d t < 256) (hXV : ∀ l t, l < k → t < k → sumx (fun j => gm (X l j) (V j t)) k = dl l t) :
    sumx (fun j => gm (sumx (fun l => gm (r l) (X l j)) k) (sumx (fun t => gm (V j t) (d t)) k)) k = sumx (fun l => gm (r l) (d l)) k := by
  have e1 : ∀ j, gm (sumx (fun l => gm (r l) (X l j)) k) (sumx (fun t => gm (V j t) (d t)) k) = sumx (fun l => gm (r l) (gm (X l j) (sumx (fun t => gm (V j t) (d t)) k))) k := fun j => by
    rw [gm_sum (fun i => gm_lt)]
    exact sumx_cong fun l _ => gm_assoc _ _ _
  rw [sumx_cong fun j _ => e1 j, sumx_swap]
  refine sumx_cong fun l hl => ?_
  rw [← sumx_mul (fun i => gm_lt)]
  congr 1
  have e2 : ∀ j, gm (X l j) (sumx (fun t => gm (V j t) (d t)) k) = sumx (fun t => gm (gm (X l j) (V j t)) (d t)) k := fun j => by
    rw [sumx_mul (fun i => gm_lt)]
    exact sumx_cong fun t _ => (gm_assoc _ _ _).symm
  rw [sumx_cong fun j _ => e2 j, sumx_swap]
  rw [sumx_cong (g := fun t => gm (dl l t) (d t)) fun t ht => by rw [← gm_sum (fun i => gm_lt), hXV l t hl ht]]
  exact sum_dl hl (hd l)
end Go.Proofs.YthhljmlpjnkfgaaGreat

set_option linter.unusedSimpArgs false
set_option linter.unusedVariables false
namespace Go.Proofs.YthhljmlpjnkfgaaGreat
open Go.RowKit Go.Cib
attribute [local go_sem] cell_set Later.cell Later.frozen Grw.cell Grw.frozen

theorem combF_gt {n p : Nat} : ∀ (cs : List Nat) (rs : Rws) (z : List Nat), cs.length = rs.length → z.length = n → (∀ r ∈ rs, r.length = n) →
    gt (combF cs rs z) p = gt z p ^^^ sumx (fun j => gm (gt cs j) (gt (ra rs j) p)) cs.length := by
  intro cs
  induction cs with
  | nil => intro rs z _ _ _; cases rs <;> simp [combF, sumx]
  | cons c cs ih =>
    intro rs z hl hz hr
    cases rs with
    | nil => simp at hl
    | cons r rs =>
      have hrl := hr r (List.mem_cons_self ..)
      rw [show combF (c :: cs) (r :: rs) z = combF cs rs (fd c r z) from rfl, ih rs (fd c r z) (by simpa using hl) (by rw [fd_len, hz]) (fun x hx => hr x (List.mem_cons_of_mem _ hx)), fd_gt c r z p (by omega)]
      rw [List.length_cons, Nat.add_comm cs.length 1, sumx_add]
      rw [← Nat.xor_assoc]
      congr 1
      · congr 1
        show _ = 0 ^^^ gm (gt (c :: cs) 0) (gt (ra (r :: rs) 0) p)
        rw [Nat.zero_xor]; rfl
      · exact sumx_cong fun j _ => by rw [Nat.add_comm 1 j]; rfl
theorem gt_zeros (n p : Nat) : gt (List.replicate n 0) p = 0 := by
  unfold gt
  rw [List.getD_eq_getElem?_getD, List.getElem?_replicate]
  split <;> rfl
theorem ra_map {us : List Nat} {f : Nat → List Nat} {j : Nat} (hj : j < us.length) : ra (us.map f) j = f (gt us j) := ra_some (by rw [List.getElem?_map, gt_of_lt hj]; rfl)
/-- The row number i that a coder makes of data. -/
def codeRow (k n : Nat) (D : Rws) (i : Nat) : List Nat := combF (rowF k i) D (List.replicate n 0)
theorem rowF_at {k i l : Nat} (h : l < k) : gt (rowF k i) l = fac k i l := range_gt h
section
variable {k n : Nat} {D : Rws}
theorem codeRow_ok (hD : Shp k n D) (i : Nat) : (codeRow k n D i).length = n ∧ Byt (codeRow k n D i) := combF_ok _ _ _ (by simp) (byt_zeros n)
theorem codeRow_gt (hD : Shp k n D) (i p : Nat) : gt (codeRow k n D i) p = sumx (fun l => gm (fac k i l) (gt (ra D l) p)) k := by
  unfold codeRow
  rw [combF_gt (n := n) (rowF k i) D _ (by rw [rowF_len, hD.1]) (by simp) (fun r hr => (hD.2 r hr).1), gt_zeros, Nat.zero_xor, rowF_len]
  exact sumx_cong fun l hl => by rw [rowF_at hl]
theorem ra_byt (hD : Shp k n D) (t p : Nat) : gt (ra D t) p < 256 := by
  by_cases h : t < k
  · exact gt_lt (hD.row h).2 _
  · rw [show ra D t = [] by unfold ra; rw [List.getD_eq_getElem?_getD, List.getElem?_eq_none (by rw [hD.1]; omega)]; rfl, gt_ge (by exact Nat.zero_le _)]; omega
/-- The code is systematic. -/
theorem codeRow_data (hD : Shp k n D) {i : Nat} (hi : i < k) : codeRow k n D i = ra D i := by
  refine gt_ext (by rw [(codeRow_ok hD i).1, (hD.row hi).1]) fun p _ => ?_
  rw [codeRow_gt hD]
  rw [sumx_cong (g := fun l => gm (dl i l) (gt (ra D l) p)) fun l hl => by unfold fac; rw [if_pos hi]; rfl]
  exact sum_dl hi (ra_byt hD i p)
theorem planF_gt {us : List Nat} (hul : us.length = k) (hI : Inj k (useF k us)) (i j : Nat) (hj : j < k) : gt (planF k us i) j = sumx (fun l => gm (fac k i l) (invE (useF k us) k l j)) k := by
  have hs := inv_shp hul hI
  unfold planF
  rw [combF_gt (n := k) (rowF k i) _ _ (by rw [rowF_len, hs.1]) (by simp) (fun r hr => (hs.2 r hr).1), gt_zeros, Nat.zero_xor, rowF_len]
  exact sumx_cong fun l hl => by rw [rowF_at hl, mkF_ra hl, range_gt hj]
theorem planF_len {us : List Nat} (hul : us.length = k) (hI : Inj k (useF k us)) (i : Nat) : (planF k us i).length = k := (combF_ok _ _ _ (by simp) (byt_zeros k)).1
/-- Any k rows of a code, with the plan's factors, make any row of it. -/
theorem made_back {us : List Nat} {ss : Rws} (hD : Shp k n D) (hul : us.length = k) (hI : Inj k (useF k us)) (hss : ∀ u ∈ us, ra ss u = codeRow k n D u) (i : Nat) : madeF (planF k us i) us ss n = codeRow k n D i := by
  have hpl := planF_len hul hI i
  have hrl : ∀ r ∈ us.map (ra ss), r.length = n := fun r hr => by
    obtain ⟨u, hu, rfl⟩ := List.mem_map.1 hr
    rw [hss u hu]; exact (codeRow_ok hD u).1
  unfold madeF
  refine gt_ext (by rw [(combF_ok (m := n) _ _ _ (by simp) (byt_zeros n)).1, (codeRow_ok hD i).1]) fun p _ => ?_
  rw [combF_gt (n := n) _ _ _ (by rw [hpl, List.length_map, hul]) (by simp) hrl, gt_zeros, Nat.zero_xor, hpl, codeRow_gt hD]
  rw [← sum_back (r := fac k i) (d := fun t => gt (ra D t) p) (X := fun l j => invE (useF k us) k l j) (V := fun j t => gt (ra (useF k us) j) t) (fun t => ra_byt hD t p) (fun l t hl ht => inv_left (useF_shp hul) hI hl ht)]
  refine sumx_cong fun j hj => ?_
  rw [planF_gt hul hI i j hj, ra_map (by omega), hss _ (gt_mem (by omega)), codeRow_gt hD]
  congr 1
  refine sumx_cong fun t ht => ?_
  congr 1
  unfold useF
  rw [ra_map (by omega), rowF_at ht]
end
end Go.Proofs.YthhljmlpjnkfgaaGreat
