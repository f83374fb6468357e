/-
  All rows: data, and parity behind.
  Bytes as text; the page's own numbers.
  What must come at any rate.
  Too few rows: plain.
  Whether rows are few and short: what is told of any rows.
  The numbers of the rows that have bytes, as the document's page tells them.
  What no coder answers.
  The inverse is one from both sides; what k rows of a code give back: plain.
  What k rows of a code give back: plain.
  Rows that are the same, told so.
  Rows of which some are taken away.
  What is left of a code's rows gives all of them back: plain.
  What comes of just k rows is a code's rows, these among them: plain.
-/
import Derived.Test.YthhljmlpjnkfgaaGreatDo6
import Derived.Lib.SlBytesConst
import Derived.Laws.BytesArg
import Derived.Test.YthhljmlpjnkfgaaGreatDo5
set_option linter.unusedSimpArgs false
set_option linter.unusedVariables false
namespace Go.Proofs.YthhljmlpjnkfgaaGreat
open Go.RowKit Go.Cib
attribute [local go_sem] cell_set Later.cell Later.frozen Grw.cell Grw.frozen

def CalE (w : World) (k m N : Nat) (ss : Rws) (e : Ending) (w' : World) : Prop := Below w.heap.size w w' ∧
  ((goodB k N ss = false ∧ e = .returned (.tuple #[.slice none 0 0, .int .i64 2])) ∨
   (goodB k N ss = true ∧ ∃ A c, e = .returned (.tuple #[.slice A (k + m) c, .int .i64 0]) ∧ k + m ≤ c ∧ RdL RowR 1 (fun j => w.heap.size ≤ j) w' A (k + m) (ss ++ encU k ss (lenF0 ss) m)))
set_option maxRecDepth 100000 in
set_option maxHeartbeats 8000000 in
theorem call2_any {w : World} {cb b k m N cs : Nat} {As : Option Addr} {S : Nat → Prop} {ss : Rws} (H : CodAt w cb b k m) (R : RdL RowR 1 S w As N ss) (hN : N ≤ 1000) (hlen : ∀ i, (ra ss i).length ≤ 1000000) :
    Calls Tryz.prog 23 #[.pointer (some ⟨cb, 0, none⟩), .slice As N cs] w fun e w' => CalE w k m N ss e w' := by
  have HC := Lib.hid H
  have HR := Lib.hid R
  have hsl := R.1
  have hk1 := H.k1
  have hkm := H.km
  have hen := encode_any (cs := cs) H R hN (hlen 0)
  have q0 : (N : Int) ≤ 1000 := by omega
  clear H R
  go_enter Tryz.func23, Tryz.ntmps23
  go_wp2_with fail
  refine hen.mono ?_
  rintro e w1 ⟨hb1, ⟨hB, rfl⟩ | ⟨hB, Ap, cp, rfl, hrp⟩⟩
  · have HB := Lib.hid hB
    clear hB hen
    go_wp2_with fail
    go_ret2
    exact ⟨hb1, .inl ⟨HB.out, rfl⟩⟩
  · have HB := Lib.hid hB
    have hNk : N = k := by
      unfold goodB at hB
      rw [Bool.and_eq_true] at hB
      simpa using hB.1
    subst hNk
    have hal := all_any (HC.out.below hb1)
    have HP := Lib.hid hrp
    have HB1 := Lib.hid hb1
    have q1 : ((N + m : Nat) : Int) ≤ 255 := by omega
    have q2 : (0 : Int) ≤ ((N + m : Nat) : Int) := Int.natCast_nonneg _
    clear hB hen hrp
    go_wp2_with fail
    refine hal.mono ?_
    rintro e w2 ⟨rfl, hb2⟩
    have hb02 := HB1.out.trans (hb2.mono HB1.out.size)
    have hs1 := HB1.out.size
    have hs2 := hb2.size
    have hrp2 : RdL RowR 1 (fun j => w.heap.size ≤ j ∧ j < w2.heap.size) w2 Ap m (encU N ss (lenF0 ss) m) := RdL.stable RowR.stable HP.out fun b hS hlt => ⟨⟨hS, by omega⟩, hb2.block b hlt⟩
    have HP2 := Lib.hid hrp2
    have HB02 := Lib.hid hb02
    clear hal hb2 hrp2 hb02
    go_wp2_with (at_make; refine wpList_make0 RowR (fun j => w.heap.size ≤ j) sl_rows rfl rfl (base := w2.heap.size) rfl rfl (N + m) (by omega) (by omega) (by unfold maxLen; omega) (by (first | (with_reducible exact Nat.le_refl _) | omega | (simp only [World.size_alloc, World.size_setCell, World.size_drew] <;> omega))) ?_; intro y hys hown; have HO := Lib.hid hown; have HY := Lib.hid (show Below w2.heap.size w2 y.to from y.ok); clear hown hys)
    go_loopw [8, 27] (fun vs vi wr => ∃ (i : Nat) (A : Option Addr) (c : Nat), i ≤ N ∧ vi = .int .i64 i ∧ vs = .slice A i c ∧ i ≤ c ∧ Hid (OwnL RowR 29 1 w2.heap.size (fun j => w.heap.size ≤ j) wr (.slice A i c) i (ss.take i)) ∧ Hid (Below w2.heap.size w2 wr)) (fun _ vi _ => N - (intOf vi).toNat)
    case atStart => exact ⟨0, _, _, Nat.zero_le _, rfl, rfl, Nat.zero_le _, by rw [List.take_zero]; exact HO, HY⟩
    case round =>
      clear HO HY
      obtain ⟨i, A, c, hi, rfl, rfl, hc, HO, HY⟩ := hrel
      have p0 : (0 : Int) ≤ (i : Int) := Int.natCast_nonneg _
      by_cases hlt : i < N
      · have p1 : (i : Int) < (N : Int) := by omega
        have hb0r : Below w.heap.size w wr := HB02.out.trans (HY.out.mono HB02.out.size)
        obtain ⟨bb, o, rfl, _, hbb⟩ := HR.out.addr hlt
        obtain ⟨A1, m1, c1, v1, hmc1, r1⟩ := row_at HR.out hlt
        have v1' := (hb0r.cell (p := ⟨bb, o + i, none⟩) hbb).trans v1
        have r1' := r1.below ByR.stable hb0r
        have hm1l : m1 ≤ 1000000 := by have := hlen i; rw [r1.1] at this; exact this
        have hnx : ss.take (i + 1) = ss.take i ++ [ra ss i] := by rw [List.take_add_one, ra_of_lt (by omega)]; rfl
        have HNX := Lib.hid hnx
        have HR1 := Lib.hid r1'
        have hszr := hb0r.size
        have hs2r := HY.out.size
        clear hnx r1 r1' v1
        go_wp2_with (first
          | (at_builtin; refine wpList_appL ByR.stable ByR.one sl_by rfl (by exact rfl) (base := wr.heap.size) (S := fun _ => True) (n := 0) (v := .slice none 0 0) (xs := []) (by exact rfl) OwnL.nil_ (by exact rfl) HR1.out (fun _ _ h => h) (by unfold maxLen; omega) (by omega) (Nat.le_refl _) ?_; intro A3 c3 w3 hc3 hown3 hg3 hat; simp only [Nat.zero_add, List.nil_append] at hc3 hown3 ⊢; have hb3 : Below wr.heap.size wr w3 := ⟨hg3.os, hg3.tape, hg3.output, hg3.size, fun k hk => hg3.block k hk (by intro h; cases h)⟩; have hv3 := (RowV.of_own hown3).rd (S := Go.Cib.Rest (fun j => w.heap.size ≤ j) (.slice A i c)) (fun j hj => ⟨(by show _ ≤ j; omega), fun e => (by have := (HO.out.lt _ e.symm).2; omega)⟩); have HV3 := Lib.hid hv3; have HO3 := Lib.hid (HO.out.keep RowR.stable hb3); have HB3 := Lib.hid (HY.out.trans (hb3.mono HY.out.size)); have hs3 := HB3.out.size; clear hv3 hb3 hown3 hg3 hat)
          | (at_builtin; go_must (refine wpList_push1 RowR.stable RowR.one sl_rows (by rfl) (by rfl) (base := w2.heap.size) (S := fun j => w.heap.size ≤ j) (cs := #[.slice A3 m1 c3]) (y := ra ss i) (by rfl) (by rfl) HO3.out (by rfl) ⟨A3, m1, c3, rfl, hc3, HV3.out⟩ (by unfold maxLen; omega) (by omega) hs3 ?_); intro A8 c8 ug hc8 own9 hlt8 hb8 hat8; rw [← HNX.out] at own9; have HO9 := Lib.hid own9; have HB9 := Lib.hid (HB3.out.trans hb8); clear own9 hb8 hlt8 hat8))
        exact ⟨⟨i + 1, A8, c8, by omega, by go_num, rfl, hc8, HO9, HB9⟩, by simp [intOf]; omega⟩
      · have p1 : ¬ (i : Int) < (N : Int) := by omega
        obtain rfl : i = N := by omega
        rw [List.take_of_length_le (by omega)] at HO
        have hs2r := HY.out.size
        have hrest : ∀ cs y, RowR (fun j => w.heap.size ≤ j ∧ j < w2.heap.size) wr cs y → RowR (Go.Cib.Rest (fun j => w.heap.size ≤ j) (.slice A i c)) wr cs y := fun cs y h => RowR.stable _ _ _ _ _ _ h fun b hb _ => ⟨⟨hb.1, fun e => by have := (HO.out.lt _ e.symm).1; omega⟩, rfl⟩
        have hp3 := HP2.out.below RowR.stable HY.out
        have HRE := Lib.hid hrest
        have HP3 := Lib.hid hp3
        clear hrest hp3
        go_wp2_with (at_builtin; go_must (refine wpList_appL RowR.stable RowR.one sl_rows rfl (by exact rfl) (base := w2.heap.size) (S := fun j => w.heap.size ≤ j) (by exact rfl) HO.out (by exact rfl) HP3.out HRE.out (by unfold maxLen; omega) (by omega) hs2r ?_); intro A3 c3 w3 hc3 hown3 hg3 hat; have HO3 := Lib.hid hown3; have HB3 := Lib.hid (show Below w2.heap.size w2 w3 from HY.out.trans ⟨hg3.os, hg3.tape, hg3.output, (by have := hg3.size; omega), fun k hk => hg3.block k (Nat.lt_of_lt_of_le hk hs2r) (fun e => by have := (HO.out.lt _ e.symm).1; omega)⟩); clear hown3 hg3 hat)
        go_ret2
        obtain ⟨A', c', e, _, hr⟩ := HO3.out.rd (S' := fun j => w.heap.size ≤ j) (fun j hj => by omega) (fun cs x hx => RowR.stable _ _ _ _ _ _ hx fun b hb _ => ⟨hb.1, rfl⟩)
        injection e with e1 _ e2
        subst e1; subst e2
        exact ⟨HB02.out.trans (HB3.out.mono HB02.out.size), .inr ⟨HB.out, A3, c3, rfl, hc3, hr⟩⟩
end Go.Proofs.YthhljmlpjnkfgaaGreat

set_option linter.unusedSimpArgs false
set_option linter.unusedVariables false
namespace Go.Proofs.YthhljmlpjnkfgaaGreat
open Go.RowKit Go.Cib
attribute [local go_sem] cell_set Later.cell Later.frozen Grw.cell Grw.frozen

def textB (xs : List Nat) : ByteArray := strOfNums (xs.map fun x : Nat => (x : Int))
theorem by_u8 {S : Nat → Prop} {w : World} {A : Option Addr} {n : Nat} {xs : List Nat} (h : RdL ByR 1 S w A n xs) : RdL U8R 1 S w A n (xs.map fun x : Nat => (x : Int)) := by
  refine ⟨by rw [List.length_map]; exact h.1, fun hn => ?_⟩
  obtain ⟨b, o, hA, hS, hlt, hc⟩ := h.2 hn
  refine ⟨b, o, hA, hS, hlt, fun i x hx => ?_⟩
  rw [List.getElem?_map] at hx
  cases hl : xs[i]? with
  | none => rw [hl] at hx; cases hx
  | some y =>
    rw [hl] at hx
    injection hx with hx
    obtain ⟨cs, h1, ⟨_, h2⟩, h3⟩ := hc i y hl
    exact ⟨cs, h1, by rw [h2, ← hx]; rfl, h3⟩
theorem text_run {S : Nat → Prop} {w : World} {A : Option Addr} {n c : Nat} {xs : List Nat} (h0 : RdL ByR 1 S w A n xs) : (convert 29 9 (.slice A n c)).run Tryz.prog w = .ok (.string (textB xs)) w := by
  have h := by_u8 h0
  unfold textB
  generalize (xs.map fun x : Nat => (x : Int)) = bs at h ⊢
  by_cases hn : 0 < n
  · obtain ⟨b, o, rfl, _, _⟩ := h.addr hn
    refine run_convert_bytes_arg w _ 5 (by kernel_rfl) (by kernel_rfl) b o n c _ h.1 (fun i hi => ?_) _ (by kernel_rfl)
    obtain ⟨hl, cs, h1, h2, h3⟩ := h.at hi
    have := h3 0 _ (by rw [h2]; rfl)
    simp only [Nat.mul_one, Nat.add_zero] at this
    rw [this]
    simp [List.getD, hl]
  · obtain rfl : n = 0 := by omega
    have hb := List.length_eq_zero_iff.1 h.1
    rw [hb, run_convert_bytes_string w _ _ 5 _ _ _ (by kernel_rfl) (by kernel_rfl) (by kernel_rfl)]
    cases A with
    | none => simp [Conv.bytesToString]; rfl
    | some a => simp [Conv.bytesToString, loadCells, loadCellsFrom]; rfl
def par1 : List Nat := combF (rowF 2 2) [[5], [9]] [0]
theorem enc1 : encU 2 [[5], [9]] (lenF0 [[5], [9]]) 1 = [par1] := rfl
theorem out1 : outF 2 3 2 [[], [9], par1] = [[5], [9]] := by decide +kernel
theorem th1 : thU [[], [9], par1] 3 = [1, 2] := by decide +kernel
theorem bad1 : thBad 2 1 3 [[], [9], par1] = false := by decide +kernel
theorem th2 : thU [[], [9], []] 3 = [1] := by decide +kernel
theorem bad2 : thBad 2 1 3 [[], [9], []] = false := by decide +kernel
theorem srt1 : srtF [2, 1] = [1, 2] := by
  unfold srtF
  simp [List.mergeSort, List.MergeSort.Internal.splitInTwo, List.merge]
theorem us1 : usN 2 [2, 1] = [1, 2] := by unfold usN; rw [srt1]; rfl
theorem pl1 : planF 2 [1, 2] 1 = [1, 0] := by decide +kernel
theorem tx5 : textB [5] = ⟨#[5]⟩ := by decide +kernel
theorem tx9 : textB [9] = ⟨#[9]⟩ := by decide +kernel
theorem tx10 : textB [1, 0] = ⟨#[1, 0]⟩ := by decide +kernel
end Go.Proofs.YthhljmlpjnkfgaaGreat

set_option linter.unusedSimpArgs false
set_option linter.unusedVariables false
namespace Go.Proofs.YthhljmlpjnkfgaaGreat
open Go.RowKit Go.Cib
attribute [local go_sem] cell_set Later.cell Later.frozen Grw.cell Grw.frozen

/-- Two rows side by side as a slice of slices. -/
theorem rows_mk {w : World} {g : Nat} {n : Nat} {cs : Array Value} {ls : Rws} {S : Nat → Prop} (hb : BoxAt w g cs) (hl : ls.length = n) (hS : S g) (h : ∀ i, i < n → ∃ A m c, cs[i]? = some (.slice A m c) ∧ m ≤ c ∧ RdL ByR 1 S w A m (ra ls i)) : RdL RowR 1 S w (some ⟨g, 0, none⟩) n ls := by
  refine ⟨hl, fun _ => ⟨g, 0, rfl, hS, hb.lt, fun i x hx => ?_⟩⟩
  have hi : i < n := by rw [← hl]; exact (List.getElem?_eq_some_iff.1 hx).1
  obtain ⟨A, m, c, e1, e2, e3⟩ := h i hi
  rw [ra_some hx] at e3
  refine ⟨[.slice A m c], rfl, ⟨A, m, c, rfl, e2, e3⟩, fun j v hj => ?_⟩
  rcases j with _ | j
  · simp at hj; subst hj
    rw [show 0 + i * 1 + 0 = i by omega]
    exact (hb.cell i).trans e1
  · simp at hj
theorem one_by (w : World) (x : Nat) (hx : x < 256) (t : TypeId) : RdL ByR 1 (fun _ => True) (w.alloc (.cells #[.int .u8 (x : Int)] t)) (some ⟨w.heap.size, 0, none⟩) 1 [x] :=
  by_mk rfl (fun y hy => by rw [List.mem_singleton.1 hy]; exact hx) trivial (by rw [World.size_alloc]; omega) (fun k hk => by
    obtain rfl : k = 0 := by omega
    exact (BoxAt.new w _ t).cell 0)
theorem par_len : par1.length = 1 := by decide +kernel
theorem len3 : ∀ i, lenF [[], [9], par1] i ≤ 1000000 := fun i => by
  rcases i with _ | _ | _ | i
  · show 0 ≤ _; omega
  · show 1 ≤ _; omega
  · show par1.length ≤ _; rw [par_len]; omega
  · show 0 ≤ _; omega
set_option maxRecDepth 100000 in
set_option maxHeartbeats 16000000 in
theorem decodes_any {w : World} : Calls Tryz.prog 11 #[] w fun e w' => e = .returned (.bool true) ∧ Below w.heap.size w w' := by
  go_enter Tryz.func11, Tryz.ntmps11
  go_wp2_with fail
  refine fldnew_any.mono ?_
  rintro e w1 ⟨rfl, hF, hb1⟩
  have hs1 := hb1.size
  have hnew := new_any (k := 2) (m := 1) hF (by omega) (by omega) (by omega)
  have hc2 : ((2 : Nat) : Int) = 2 := rfl
  have hc1 : ((1 : Nat) : Int) = 1 := rfl
  rw [hc2, hc1] at hnew
  go_wp2_with fail
  refine hnew.mono ?_
  rintro e w2 ⟨cb, rfl, hC, hk⟩
  have hb2 : Below w.heap.size w w2 := hb1.trans (Keep.below hk hb1.size (fun k hk => by rw [hk]; exact Nat.le_refl _))
  have HC := Lib.hid hC
  have HB2 := Lib.hid hb2
  clear hF hb1 hnew hC hk hb2
  -- the two rows
  have hr5 := (one_by w2 5 (by decide) 5)
  have hr9 := (one_by (w2.alloc (.cells #[.int .u8 5] 5)) 9 (by decide) 5)
  have hba : Below w2.heap.size w2 (((w2.alloc (.cells #[.int .u8 5] 5)).alloc (.cells #[.int .u8 9] 5)).alloc (.cells #[.slice (some ⟨w2.heap.size, 0, none⟩) 1 1, .slice (some ⟨w2.heap.size + 1, 0, none⟩) 1 1] 29)) := (by repeat (first | (with_reducible exact Below.refl _ _) | (with_reducible assumption) | (with_reducible refine Below.drew ?_) | (with_reducible refine Below.setCell ?_ ?_ _) | (with_reducible refine Below.alloc ?_ ?_ _) | (with_reducible refine Below.later ?_ ?_ _) | (first | (with_reducible exact Nat.le_refl _) | omega | (simp only [World.size_alloc, World.size_setCell, World.size_drew] <;> omega))))
  have hbx := BoxAt.new ((w2.alloc (.cells #[.int .u8 5] 5)).alloc (.cells #[.int .u8 9] 5)) #[.slice (some ⟨w2.heap.size, 0, none⟩) 1 1, .slice (some ⟨w2.heap.size + 1, 0, none⟩) 1 1] 29
  replace hr5 := (hr5.alloc ByR.stable (.cells #[.int .u8 9] 5)).alloc ByR.stable (.cells #[.slice (some ⟨w2.heap.size, 0, none⟩) 1 1, .slice (some ⟨w2.heap.size + 1, 0, none⟩) 1 1] 29)
  replace hr9 := hr9.alloc ByR.stable (.cells #[.slice (some ⟨w2.heap.size, 0, none⟩) 1 1, .slice (some ⟨w2.heap.size + 1, 0, none⟩) 1 1] 29)
  simp only [World.size_alloc] at hbx hr9
  go_wp2_with fail
  generalize (((w2.alloc (.cells #[.int .u8 5] 5)).alloc (.cells #[.int .u8 9] 5)).alloc (.cells #[.slice (some ⟨w2.heap.size, 0, none⟩) 1 1, .slice (some ⟨w2.heap.size + 1, 0, none⟩) 1 1] 29)) = w3 at *
  have hls : RdL RowR 1 (fun _ => True) w3 (some ⟨w2.heap.size + 1 + 1, 0, none⟩) 2 [[5], [9]] := rows_mk hbx rfl trivial fun i hi => by
    rcases i with _ | _ | i
    · exact ⟨_, 1, 1, rfl, Nat.le_refl _, hr5⟩
    · exact ⟨_, 1, 1, rfl, Nat.le_refl _, hr9⟩
    · omega
  have hB3 := HB2.out.trans (hba.mono HB2.out.size)
  have hcall := call2_any (cs := 2) (HC.out.below hba) hls (by omega) (fun i => by
    rcases i with _ | _ | i
    · show 1 ≤ _; omega
    · show 1 ≤ _; omega
    · show 0 ≤ _; omega)
  have HB3 := Lib.hid hB3
  have HC3 := Lib.hid (HC.out.below hba)
  clear hbx hr5 hr9 hls hba hB3
  refine hcall.mono ?_
  rintro e w4 ⟨hb4, ⟨hG, _⟩ | ⟨_, A4, c4, rfl, hc4, hr4⟩⟩
  · exact absurd hG (by decide)
  have hB4 := HB3.out.trans (hb4.mono HB3.out.size)
  have hC4 := HC3.out.below hb4
  have hr4' : RdL RowR 1 (fun j => w3.heap.size ≤ j) w4 A4 3 [[5], [9], par1] := hr4
  have HB4 := Lib.hid hB4
  have HC4 := Lib.hid hC4
  have HR4 := Lib.hid hr4'
  obtain ⟨b4, o4, rfl, _, l4⟩ := hr4'.addr (k := 1) (by omega)
  obtain ⟨A1, m1, cc1, v1, hm1, r1⟩ := row_at hr4' (k := 1) (by omega)
  obtain ⟨A2, m2, cc2, v2, hm2, r2⟩ := row_at hr4' (k := 2) (by omega)
  obtain rfl : m1 = 1 := r1.1.symm
  obtain rfl : m2 = 1 := r2.1.symm.trans par_len
  have R1 : Hid (RdL ByR 1 (fun _ => True) w4 A1 1 [9]) := Lib.hid (r1.weaken ByR.stable fun _ _ => trivial)
  have R2 : Hid (RdL ByR 1 (fun _ => True) w4 A2 1 par1) := Lib.hid (r2.weaken ByR.stable fun _ _ => trivial)
  have h3 : ((2 : Nat) + 1) = 3 := rfl
  clear hcall hb4 hr4 hr4' r1 r2 hB4 hC4
  go_wp2_with fail
  have hal : Below w4.heap.size w4 (w4.alloc (.cells #[.slice none 0 0, .slice A1 1 cc1, .slice A2 1 cc2] 29)).drew := ((Below.refl _ _).alloc (Nat.le_refl _) _).drew
  have hbx := BoxAt.new w4 #[.slice none 0 0, .slice A1 1 cc1, .slice A2 1 cc2] 29
  have hls : RdL RowR 1 (fun _ => True) (w4.alloc (.cells #[.slice none 0 0, .slice A1 1 cc1, .slice A2 1 cc2] 29)).drew (some ⟨w4.heap.size, 0, none⟩) 3 [[], [9], par1] := rows_mk (cs := #[.slice none 0 0, .slice A1 1 cc1, .slice A2 1 cc2]) (hbx.keep rfl) rfl trivial fun i hi => by
    rcases i with _ | _ | _ | i
    · exact ⟨none, 0, 0, rfl, Nat.le_refl _, RdL.nil⟩
    · exact ⟨A1, 1, cc1, rfl, hm1, R1.out.below ByR.stable hal⟩
    · exact ⟨A2, 1, cc2, rfl, hm2, R2.out.below ByR.stable hal⟩
    · omega
  have hda := ddata_any (cs := 3) (HC4.out.below hal) hls (by omega) len3 (Lib.hid fun h1 h2 => inj_useT h1 h2 (by omega) (by omega))
  have HAL := Lib.hid hal
  have s1 : w4.drew.cell? ⟨b4, o4 + 1, none⟩ = some (.slice A1 1 cc1) ∧ w4.drew.cell? ⟨b4, o4 + 2, none⟩ = some (.slice A2 1 cc2) := ⟨v1, v2⟩
  have keepS : ∀ w', Below w4.drew.heap.size w4.drew w' → w'.cell? ⟨b4, o4 + 1, none⟩ = some (.slice A1 1 cc1) ∧ w'.cell? ⟨b4, o4 + 2, none⟩ = some (.slice A2 1 cc2) := fun w' h => ⟨(h.cell (p := ⟨b4, o4 + 1, none⟩) l4).trans v1, (h.cell (p := ⟨b4, o4 + 2, none⟩) l4).trans v2⟩
  have KS := Lib.hid keepS
  clear hal hbx hls keepS
  refine wp_region_held_drew (S := fun w' => w'.cell? ⟨b4, o4 + 1, none⟩ = some (.slice A1 1 cc1) ∧ w'.cell? ⟨b4, o4 + 2, none⟩ = some (.slice A2 1 cc2)) (by kernel_rfl) (by first | exact s1 | exact s2 | exact KS.out _ ((Below.refl _ _).alloc (Nat.le_refl _) _)) (fun hHeld => ?_)
  refine wpAnyH_take (i := 0) (v := ?_) rfl (by kernel_rfl) (by kernel_rfl) (by kernel_rfl) (fun _ _ _ h => h) (Or.inl ⟨by first | kernel_rfl | rfl, ?_⟩) (by assumption) ?_
  rotate_left
  · (intro wq hSw; (try dsimp only at hSw); (try simp (maxSteps := 2000000) only [List.getElem_toArray, List.getElem_cons_succ, List.getElem_cons_zero]); go_simp); try with_reducible rfl
  try simp (maxSteps := 2000000) only [List.getElem_toArray, List.getElem_cons_succ, List.getElem_cons_zero, Act.put, List.setIfInBounds_toArray, List.set_cons_zero, List.set_cons_succ]
  refine wpAnyH_take (i := 1) (v := ?_) rfl (by kernel_rfl) (by kernel_rfl) (by kernel_rfl) (fun _ _ _ h => h) (Or.inl ⟨by first | kernel_rfl | rfl, ?_⟩) (by assumption) ?_
  rotate_left
  · (intro wq hSw; (try dsimp only at hSw); (try simp (maxSteps := 2000000) only [List.getElem_toArray, List.getElem_cons_succ, List.getElem_cons_zero]); go_simp); try with_reducible rfl
  try simp (maxSteps := 2000000) only [List.getElem_toArray, List.getElem_cons_succ, List.getElem_cons_zero, Act.put, List.setIfInBounds_toArray, List.set_cons_zero, List.set_cons_succ]
  refine wpAnyH_take (i := 2) (v := ?_) rfl (by kernel_rfl) (by kernel_rfl) (by kernel_rfl) (fun _ _ _ h => h) (Or.inl ⟨by first | kernel_rfl | rfl, ?_⟩) (by assumption) ?_
  rotate_left
  · (intro wq hSw; (try dsimp only at hSw); (try simp (maxSteps := 2000000) only [List.getElem_toArray, List.getElem_cons_succ, List.getElem_cons_zero]); go_simp); try with_reducible rfl
  try simp (maxSteps := 2000000) only [List.getElem_toArray, List.getElem_cons_succ, List.getElem_cons_zero, Act.put, List.setIfInBounds_toArray, List.set_cons_zero, List.set_cons_succ]
  refine wpAnyH_take (i := 3) (v := ?_) rfl (by kernel_rfl) (by kernel_rfl) (by kernel_rfl) (fun _ _ _ h => h) (Or.inl ⟨by first | kernel_rfl | rfl, ?_⟩) (by assumption) ?_
  rotate_left
  · (intro wq hSw; (try dsimp only at hSw); (try simp (maxSteps := 2000000) only [List.getElem_toArray, List.getElem_cons_succ, List.getElem_cons_zero]); go_simp); try with_reducible rfl
  try simp (maxSteps := 2000000) only [List.getElem_toArray, List.getElem_cons_succ, List.getElem_cons_zero, Act.put, List.setIfInBounds_toArray, List.set_cons_zero, List.set_cons_succ]
  refine wpAnyH_take (i := 4) (v := ?_) rfl (by kernel_rfl) (by kernel_rfl) (by kernel_rfl) (fun _ _ _ h => h) (Or.inl ⟨by first | kernel_rfl | rfl, ?_⟩) (by assumption) ?_
  rotate_left
  · (intro wq hSw; (try dsimp only at hSw); (try simp (maxSteps := 2000000) only [List.getElem_toArray, List.getElem_cons_succ, List.getElem_cons_zero]); go_simp); try with_reducible rfl
  try simp (maxSteps := 2000000) only [List.getElem_toArray, List.getElem_cons_succ, List.getElem_cons_zero, Act.put, List.setIfInBounds_toArray, List.set_cons_zero, List.set_cons_succ]
  refine wpAnyH_take (i := 5) (v := ?_) rfl (by kernel_rfl) (by kernel_rfl) (by kernel_rfl) (fun _ _ _ h => h) (Or.inl ⟨by first | kernel_rfl | rfl, ?_⟩) (by assumption) ?_
  rotate_left
  · (intro wq hSw; (try dsimp only at hSw); (try simp (maxSteps := 2000000) only [List.getElem_toArray, List.getElem_cons_succ, List.getElem_cons_zero]); go_simp); try with_reducible rfl
  try simp (maxSteps := 2000000) only [List.getElem_toArray, List.getElem_cons_succ, List.getElem_cons_zero, Act.put, List.setIfInBounds_toArray, List.set_cons_zero, List.set_cons_succ]
  refine wpAnyH_take (i := 6) (v := ?_) rfl (by kernel_rfl) (by kernel_rfl) (by kernel_rfl) (fun _ _ _ h => h) (Or.inl ⟨by first | kernel_rfl | rfl, ?_⟩) (by assumption) ?_
  rotate_left
  · (intro wq hSw; (try dsimp only at hSw); (try simp (maxSteps := 2000000) only [List.getElem_toArray, List.getElem_cons_succ, List.getElem_cons_zero]); go_simp); try with_reducible rfl
  try simp (maxSteps := 2000000) only [List.getElem_toArray, List.getElem_cons_succ, List.getElem_cons_zero, Act.put, List.setIfInBounds_toArray, List.set_cons_zero, List.set_cons_succ]
  refine wpAnyH_ready (rs := [7]) (by kernel_rfl) (by simp) ?_
  refine AllReadyH.cons rfl (fun K hK => ?_) AllReadyH.nil
  try simp (maxSteps := 2000000) only [List.getElem_toArray, List.getElem_cons_succ, List.getElem_cons_zero]
  go_simp
  refine hK.out _ _ (by first | exact s1 | exact s2 | exact KS.out _ ((Below.refl _ _).alloc (Nat.le_refl _) _)) (fun hHeld => ?_)
  clear hK K
  try simp (maxSteps := 2000000) only [List.getElem_toArray, List.getElem_cons_succ, List.getElem_cons_zero, Act.put, List.setIfInBounds_toArray, List.set_cons_zero, List.set_cons_succ]
  refine wpAnyH_ready (rs := [8]) (by kernel_rfl) (by simp) ?_
  refine AllReadyH.cons rfl (fun K hK => ?_) AllReadyH.nil
  try simp (maxSteps := 2000000) only [List.getElem_toArray, List.getElem_cons_succ, List.getElem_cons_zero]
  go_simp
  go_at_call 17
  refine hda.mono ?_
  rintro e w5 ⟨hb5, ⟨hG, _⟩ | ⟨_, hF, _⟩ | ⟨_, _, g5, rfl, hr5⟩⟩
  · exact absurd (hG.symm.trans bad1) (by decide)
  · exact absurd hF (by rw [th1]; decide)
  rw [out1] at hr5
  have hb45 := HAL.out.trans (hb5.mono HAL.out.size)
  have s2 := KS.out w5 ((Below.refl w4.drew.heap.size w4).drew |> fun _ => ⟨hb45.os, hb45.tape, hb45.output, hb45.size, hb45.block⟩)
  have HB5 := Lib.hid (HB4.out.trans (hb45.mono HB4.out.size))
  have HC5 := Lib.hid (HC4.out.below hb45)
  have HR5 := Lib.hid (hr5.weaken RowR.stable (S' := fun _ => True) fun _ _ => trivial)
  have H45 := Lib.hid hb45
  clear hda hb5 hr5 hb45
  try (go_wp2_with fail)
  refine hK.out _ _ (by first | exact s1 | exact s2 | exact KS.out _ ((Below.refl _ _).alloc (Nat.le_refl _) _)) (fun hHeld => ?_)
  clear hK K
  try simp (maxSteps := 2000000) only [List.getElem_toArray, List.getElem_cons_succ, List.getElem_cons_zero, Act.put, List.setIfInBounds_toArray, List.set_cons_zero, List.set_cons_succ]
  refine wpAnyH_take (i := 9) (v := ?_) rfl (by kernel_rfl) (by kernel_rfl) (by kernel_rfl) (fun _ _ _ h => h) (Or.inl ⟨by first | kernel_rfl | rfl, ?_⟩) (by assumption) ?_
  rotate_left
  · (intro wq hSw; (try dsimp only at hSw); (try simp (maxSteps := 2000000) only [List.getElem_toArray, List.getElem_cons_succ, List.getElem_cons_zero]); go_simp); try with_reducible rfl
  try simp (maxSteps := 2000000) only [List.getElem_toArray, List.getElem_cons_succ, List.getElem_cons_zero, Act.put, List.setIfInBounds_toArray, List.set_cons_zero, List.set_cons_succ]
  refine wpAnyH_take (i := 10) (v := ?_) rfl (by kernel_rfl) (by kernel_rfl) (by kernel_rfl) (fun _ _ _ h => h) (Or.inl ⟨by first | kernel_rfl | rfl, ?_⟩) (by assumption) ?_
  rotate_left
  · (intro wq hSw; (try dsimp only at hSw); (try simp (maxSteps := 2000000) only [List.getElem_toArray, List.getElem_cons_succ, List.getElem_cons_zero]); go_simp); try with_reducible rfl
  try simp (maxSteps := 2000000) only [List.getElem_toArray, List.getElem_cons_succ, List.getElem_cons_zero, Act.put, List.setIfInBounds_toArray, List.set_cons_zero, List.set_cons_succ]
  refine wpAnyH_take (i := 11) (v := ?_) rfl (by kernel_rfl) (by kernel_rfl) (by kernel_rfl) (fun _ _ _ h => h) (Or.inl ⟨by first | kernel_rfl | rfl, ?_⟩) (by assumption) ?_
  rotate_left
  · (intro wq hSw; (try dsimp only at hSw); (try simp (maxSteps := 2000000) only [List.getElem_toArray, List.getElem_cons_succ, List.getElem_cons_zero]); go_simp); try with_reducible rfl
  try simp (maxSteps := 2000000) only [List.getElem_toArray, List.getElem_cons_succ, List.getElem_cons_zero, Act.put, List.setIfInBounds_toArray, List.set_cons_zero, List.set_cons_succ]
  refine wpAnyH_take (i := 12) (v := ?_) rfl (by kernel_rfl) (by kernel_rfl) (by kernel_rfl) (fun _ _ _ h => h) (Or.inl ⟨by first | kernel_rfl | rfl, ?_⟩) (by assumption) ?_
  rotate_left
  · (intro wq hSw; (try dsimp only at hSw); (try simp (maxSteps := 2000000) only [List.getElem_toArray, List.getElem_cons_succ, List.getElem_cons_zero]); go_simp); try with_reducible rfl
  try simp (maxSteps := 2000000) only [List.getElem_toArray, List.getElem_cons_succ, List.getElem_cons_zero, Act.put, List.setIfInBounds_toArray, List.set_cons_zero, List.set_cons_succ]
  refine wpAnyH_take (i := 13) (v := ?_) rfl (by kernel_rfl) (by kernel_rfl) (by kernel_rfl) (fun _ _ _ h => h) (Or.inl ⟨by first | kernel_rfl | rfl, ?_⟩) (by assumption) ?_
  rotate_left
  · (intro wq hSw; (try dsimp only at hSw); (try simp (maxSteps := 2000000) only [List.getElem_toArray, List.getElem_cons_succ, List.getElem_cons_zero]); go_simp); try with_reducible rfl
  try simp (maxSteps := 2000000) only [List.getElem_toArray, List.getElem_cons_succ, List.getElem_cons_zero, Act.put, List.setIfInBounds_toArray, List.set_cons_zero, List.set_cons_succ]
  refine wpAnyH_done (by kernel_rfl) ?_ _
  have v5 := hHeld.1
  have hbx := BoxAt.new w5 #[.slice none 0 0, .slice A1 1 cc1, .slice none 0 0] 29
  have hal : Below w5.heap.size w5 (w5.alloc (.cells #[.slice none 0 0, .slice A1 1 cc1, .slice none 0 0] 29)) := (Below.refl _ _).alloc (Nat.le_refl _) _
  clear hHeld s1 s2
  go_wp2_with fail
  generalize (w5.alloc (.cells #[.slice none 0 0, .slice A1 1 cc1, .slice none 0 0] 29)) = w6 at *
  have hls : RdL RowR 1 (fun _ => True) w6 (some ⟨w5.heap.size, 0, none⟩) 3 [[], [9], []] := rows_mk hbx rfl trivial fun i hi => by
    rcases i with _ | _ | _ | i
    · exact ⟨none, 0, 0, rfl, Nat.le_refl _, RdL.nil⟩
    · exact ⟨A1, 1, cc1, rfl, hm1, (R1.out.below ByR.stable H45.out).below ByR.stable hal⟩
    · exact ⟨none, 0, 0, rfl, Nat.le_refl _, RdL.nil⟩
    · omega
  have hda := ddata_any (cs := 3) (HC5.out.below hal) hls (by omega) (fun i => by
    rcases i with _ | _ | _ | i
    · show 0 ≤ _; omega
    · show 1 ≤ _; omega
    · show 0 ≤ _; omega
    · show 0 ≤ _; omega) (Lib.hid fun h1 h2 => inj_useT h1 h2 (by omega) (by omega))
  have HAL2 := Lib.hid hal
  clear hbx hal hls v5
  refine hda.mono ?_
  rintro e w7 ⟨hb7, ⟨hG, _⟩ | ⟨_, _, rfl⟩ | ⟨_, hF, _⟩⟩
  · exact absurd (hG.symm.trans bad2) (by decide)
  rotate_left
  · exact absurd (show (thU [[], [9], []] 3).length < 2 by rw [th2]; decide) hF
  have hb57 := HAL2.out.trans (hb7.mono HAL2.out.size)
  have HB7 := Lib.hid (HB5.out.trans (hb57.mono HB5.out.size))
  have HC7 := Lib.hid (HC5.out.below hb57)
  have HR7 := Lib.hid (HR5.out.below RowR.stable hb57)
  clear hda hb7 hb57
  have hbi := BoxAt.new w7 #[.int .i64 2, .int .i64 1] 3
  have hal : Below w7.heap.size w7 (w7.alloc (.cells #[.int .i64 2, .int .i64 1] 3)) := (Below.refl _ _).alloc (Nat.le_refl _) _
  go_wp2_with fail
  generalize (w7.alloc (.cells #[.int .i64 2, .int .i64 1] 3)) = w8 at *
  have hli : RdL IntR 1 (fun _ => True) w8 (some ⟨w7.heap.size, 0, none⟩) 2 [2, 1] := ⟨rfl, fun _ => ⟨w7.heap.size, 0, rfl, trivial, hbi.lt, fun i x hx => by
    rcases i with _ | _ | i
    · simp at hx; subst hx
      refine ⟨[.int .i64 2], rfl, rfl, fun j v hj => ?_⟩
      rcases j with _ | j
      · simp at hj; subst hj; exact hbi.cell 0
      · simp at hj
    · simp at hx; subst hx
      refine ⟨[.int .i64 1], rfl, rfl, fun j v hj => ?_⟩
      rcases j with _ | j
      · simp at hj; subst hj; exact hbi.cell 1
      · simp at hj
    · simp at hx⟩⟩
  have hnb : ¬ badP 2 1 [2, 1] 1 := by decide
  have hdp := dplan_any (c := 2) (want := 1) (HC7.out.below hal) hli (by omega) (Lib.hid fun h1 h2 => inj_usN (m := 1) (Classical.byContradiction fun h3 => h1 (.inr (.inr h3))) (by show 2 ≤ 2; omega) (by omega))
  have HAL3 := Lib.hid hal
  clear hbi hal hli
  refine hdp.mono ?_
  rintro e w9 ⟨hb9, ⟨hG, _⟩ | ⟨_, hF, _⟩ | ⟨_, _, A9, c9, A10, c10, rfl, hr9, hr10⟩⟩
  · exact absurd hG hnb
  · exact absurd hF (by omega)
  rw [us1] at hr9
  have hpl : planF 2 (usN 2 [2, 1]) (1 : Int).toNat = [1, 0] := by rw [us1]; exact pl1
  rw [hpl] at hr10
  have hb79 := HAL3.out.trans (hb9.mono HAL3.out.size)
  have HB9 := Lib.hid (HB7.out.trans (hb79.mono HB7.out.size))
  have hr7 := HR7.out.below RowR.stable hb79
  obtain ⟨D0, m0, cd0, d0, _, t0⟩ := row_at hr7 (k := 0) (by omega)
  obtain ⟨D1, n1, cd1, d1, _, t1⟩ := row_at hr7 (k := 1) (by omega)
  rw [Nat.zero_add] at d0 d1
  have x0 := text_run (c := cd0) (show RdL ByR 1 (fun _ => True) w9 D0 m0 [5] from t0)
  have x1 := text_run (c := cd1) (show RdL ByR 1 (fun _ => True) w9 D1 n1 [9] from t1)
  have x10 := text_run (c := c10) hr10
  rw [tx5] at x0
  rw [tx9] at x1
  rw [tx10] at x10
  obtain ⟨b9, o9, rfl, _, _⟩ := hr9.addr (k := 0) (by omega)
  have e0 := nat_at hr9 (k := 0) (by omega)
  have e1 := nat_at hr9 (k := 1) (by omega)
  rw [Nat.add_zero] at e0
  replace e0 : w9.cell? ⟨b9, o9, none⟩ = some (.int .i64 1) := e0
  replace e1 : w9.cell? ⟨b9, o9 + 1, none⟩ = some (.int .i64 2) := e1
  clear hdp hb9 hr9 hr10 hb79 hr7 t0 t1 hpl hnb
  go_wp2_with fail
  go_ret
  exact ⟨by simp, HB9.out⟩
end Go.Proofs.YthhljmlpjnkfgaaGreat

set_option linter.unusedSimpArgs false
set_option linter.unusedVariables false
namespace Go.Proofs.YthhljmlpjnkfgaaGreat
open Go.RowKit Go.Cib
attribute [local go_sem] cell_set Later.cell Later.frozen Grw.cell Grw.frozen

theorem cnt_put (p q : Nat → Bool) (a : Nat) : ∀ N, a < N → (∀ j, j ≠ a → q j = p j) → p a = false → q a = true → ((List.range N).filter q).length = ((List.range N).filter p).length + 1 := by
  intro N
  induction N with
  | zero => intro h; omega
  | succ N ih =>
    intro h he h0 h1
    rw [List.range_succ, List.filter_append, List.filter_append, List.length_append, List.length_append]
    by_cases haN : a = N
    · subst haN
      have : (List.range a).filter q = (List.range a).filter p := List.filter_congr fun j hj => he j (by have := List.mem_range.1 hj; omega)
      rw [this]
      simp [h0, h1]
    · rw [ih (by omega) he h0 h1]
      have : [N].filter q = [N].filter p := List.filter_congr fun j hj => he j (by have := List.mem_singleton.1 hj; omega)
      rw [this]; omega
structure FewI (row : List Nat) (N i c : Nat) (rows : Rws) : Prop where
  len : rows.length = N
  one : ∀ j, ra rows j = [] ∨ ra rows j = row
  cnt : c = (thU rows N).length
  le : c ≤ i
theorem ra_put {rows : Rws} {a : Nat} {row : List Nat} (h : a < rows.length) (j : Nat) : ra (rows.set a row) j = if j = a then row else ra rows j := by
  by_cases hj : j < rows.length
  · exact ra_set _ _ _ hj
  · rw [if_neg (by omega)]
    unfold ra
    rw [List.getD_eq_getElem?_getD, List.getD_eq_getElem?_getD, List.getElem?_eq_none (by simp; omega), List.getElem?_eq_none (by omega)]
theorem FewI.zero (row : List Nat) (N : Nat) : FewI row N 0 0 (List.replicate N []) where
  len := by simp
  one j := by
    left
    unfold ra
    rw [List.getD_eq_getElem?_getD, List.getElem?_replicate]
    split <;> rfl
  cnt := by
    unfold thU
    rw [List.filter_eq_nil_iff.2]
    · rfl
    · intro j hj
      have : lenF (List.replicate N []) j = 0 := by
        unfold lenF ra
        rw [List.getD_eq_getElem?_getD, List.getElem?_replicate]
        split <;> rfl
      simp [this]
  le := Nat.le_refl _
section
variable {row : List Nat} {N i cnt a : Nat} {rows : Rws}
theorem FewI.put (h : FewI row N i cnt rows) (ha : a < N) (hr : 0 < row.length) (he : (ra rows a).length = 0) : FewI row N (i + 1) (cnt + 1) (rows.set a row) := by
  have hal : a < rows.length := by rw [h.len]; exact ha
  refine ⟨by rw [List.length_set, h.len], fun j => ?_, ?_, by have := h.le; omega⟩
  · rw [ra_put hal]; split
    · exact .inr rfl
    · exact h.one j
  · rw [h.cnt]
    unfold thU
    rw [cnt_put (fun j => decide (0 < lenF rows j)) (fun j => decide (0 < lenF (rows.set a row) j)) a N ha]
    · intro j hj
      unfold lenF
      rw [ra_put hal, if_neg hj]
    · unfold lenF; simp [he]
    · unfold lenF
      rw [ra_put hal, if_pos rfl]; simp [hr]
theorem FewI.again (h : FewI row N i cnt rows) (ha : a < N) (hr : 0 < row.length) (he : ¬ (ra rows a).length = 0) : FewI row N (i + 1) cnt (rows.set a row) := by
  have hal : a < rows.length := by rw [h.len]; exact ha
  refine ⟨by rw [List.length_set, h.len], fun j => ?_, ?_, by have := h.le; omega⟩
  · rw [ra_put hal]; split
    · exact .inr rfl
    · exact h.one j
  · rw [h.cnt]
    unfold thU
    congr 1
    refine List.filter_congr fun j _ => ?_
    unfold lenF
    rw [ra_put hal]
    by_cases hj : j = a
    · subst hj
      rw [if_pos rfl]; simp; omega
    · rw [if_neg hj]
theorem FewI.lenF (h : FewI row N i cnt rows) (j : Nat) : lenF rows j = 0 ∨ lenF rows j = row.length := by
  unfold Go.Proofs.YthhljmlpjnkfgaaGreat.lenF
  rcases h.one j with h | h
  · rw [h]; exact .inl rfl
  · rw [h]; exact .inr rfl
theorem FewI.bad {k m : Nat} (h : FewI row (k + m) i cnt rows) : thBad k m (k + m) rows = false := by
  unfold thBad
  rw [Bool.or_eq_false_iff]
  refine ⟨by simp, List.any_eq_false.2 fun u hu => ?_⟩
  have hu2 := (thU_mem hu).2
  have hg : gt (thU rows (k + m)) 0 ∈ thU rows (k + m) := gt_mem (List.length_pos_of_mem hu)
  have hg2 := (thU_mem hg).2
  unfold oddB
  rcases h.lenF u with e | e
  · omega
  · rcases h.lenF (gt (thU rows (k + m)) 0) with e2 | e2
    · omega
    · simp [e, e2]
end
theorem bad_short {k m N : Nat} {rows : Rws} (h : N ≠ k + m) : thBad k m N rows = true := by unfold thBad; rw [decide_eq_true h, Bool.true_or]
theorem lenF_take (rows : Rws) (n j : Nat) : lenF (rows.take n) j ≤ lenF rows j := by
  unfold lenF ra
  rw [List.getD_eq_getElem?_getD, List.getD_eq_getElem?_getD, List.getElem?_take]
  split
  · exact Nat.le_refl _
  · exact Nat.zero_le _
/-- A clamped number. -/
theorem clamp {x N : Int} (h : 1 ≤ N) : ∃ a : Nat, max 0 (min x (N - 1)) = (a : Int) ∧ (a : Int) < N := ⟨(max 0 (min x (N - 1))).toNat, by omega, by omega⟩
end Go.Proofs.YthhljmlpjnkfgaaGreat

set_option linter.unusedSimpArgs false
set_option linter.unusedVariables false
namespace Go.Proofs.YthhljmlpjnkfgaaGreat
open Go.RowKit Go.Cib
attribute [local go_sem] cell_set Later.cell Later.frozen Grw.cell Grw.frozen
theorem run_min_l (ts : Array TypeId) (t : TypeId) (x y : Int) (w : World) : (Builtin.min_ ts t #[.int .i64 x, .int .i64 y]).run Tryz.prog w = .ok (.int .i64 (min x y)) w := by
  rw [run_min_int2, show (if y < x then y else x) = min x y by omega]
attribute [local go_sem ↓] run_min_l

/-- What is left of 3000 bytes behind the first rows. -/
def leftF (ss : Rws) : Nat → Int
  | 0 => 3000
  | i + 1 => leftF ss i - min (lenF ss i : Int) 4000
def fewB (ss : Rws) (n : Nat) : Bool := decide (n ≤ 260) && decide (0 ≤ leftF ss (min n 300))
theorem leftF_le (ss : Rws) : ∀ i : Nat, -(4000 * (i : Int)) ≤ leftF ss i ∧ leftF ss i ≤ 3000
  | 0 => by simp [leftF]
  | i + 1 => by
    have := leftF_le ss i
    unfold leftF
    push_cast
    omega
theorem leftF_len (ss : Rws) : ∀ i j, j < i → 0 ≤ leftF ss i → lenF ss j ≤ 3000
  | 0, _, h, _ => absurd h (by omega)
  | i + 1, j, h, h0 => by
    unfold leftF at h0
    have h1 := leftF_le ss i
    by_cases e : j = i
    · subst e; omega
    · exact leftF_len ss i j (by omega) (by omega)
theorem lenF_out {ss : Rws} {j : Nat} (h : ss.length ≤ j) : lenF ss j = 0 := by
  unfold lenF ra
  rw [List.getD_eq_getElem?_getD, List.getElem?_eq_none h]; rfl
theorem fewB_ok {ss : Rws} {n : Nat} (hl : ss.length = n) (h : fewB ss n = true) : n ≤ 260 ∧ ∀ j, lenF ss j ≤ 3000 := by
  unfold fewB at h
  rw [Bool.and_eq_true, decide_eq_true_eq, decide_eq_true_eq] at h
  refine ⟨h.1, fun j => ?_⟩
  by_cases hj : j < n
  · exact leftF_len ss _ j (by omega) h.2
  · rw [lenF_out (by omega)]; omega
set_option maxRecDepth 100000 in
set_option maxHeartbeats 8000000 in
theorem looksFew_any {w : World} {n c : Nat} {A : Option Addr} {S : Nat → Prop} {ss : Rws} (R : RdL RowR 1 S w A n ss) (z : Int) :
    Calls Tryz.prog 16 #[.int .i64 z, .slice A n c] w fun e w' => e = .returned (.bool (fewB ss n)) ∧ w' = w := by
  have HR := Lib.hid R
  clear R
  go_enter Tryz.func16, Tryz.ntmps16
  go_wp2_with fail
  go_loopw [5, 6] (fun vl vi wr => ∃ i : Nat, i ≤ n ∧ i ≤ 300 ∧ vi = .int .i64 i ∧ vl = .int .i64 (leftF ss i) ∧ wr = w) (fun _ vi _ => 300 - (intOf vi).toNat)
  case atStart => exact ⟨0, Nat.zero_le _, by omega, rfl, rfl, rfl⟩
  case round =>
    obtain ⟨i, hi, hi3, rfl, rfl, hwr⟩ := hrel
    rw [hwr]
    clear hwr
    have p0 : (0 : Int) ≤ (i : Int) := Int.natCast_nonneg _
    have hlf := leftF_le ss i
    by_cases hlt : i < n
    · have p1 : (i : Int) < (n : Int) := by omega
      by_cases h3 : i < 300
      · have p2 : (i : Int) < 300 := by omega
        obtain ⟨ba, oa, rfl, _, hba⟩ := HR.out.addr hlt
        obtain ⟨A1, m1, c1, v1, _, r1⟩ := row_at HR.out hlt
        have hm1 : leftF ss (i + 1) = leftF ss i - min (m1 : Int) 4000 := by rw [← (show lenF ss i = m1 from r1.1)]; rfl
        clear r1
        go_wp2_with fail
        exact ⟨⟨i + 1, by omega, by omega, by go_num, by rw [hm1], trivial⟩, by simp [intOf]; omega⟩
      · have p2 : ¬ (i : Int) < 300 := by omega
        obtain rfl : i = 300 := by omega
        have hfw : fewB ss n = false := by unfold fewB; rw [decide_eq_false (by omega), Bool.false_and]
        have q1 : ¬ (n : Int) ≤ 260 := by omega
        go_wp2_with fail
        go_ret
        exact ⟨rfl, rfl⟩
    · have p1 : ¬ (i : Int) < (n : Int) := by omega
      obtain rfl : i = n := by omega
      have hfw : fewB ss i = (decide ((i : Int) ≤ 260) && decide (leftF ss i ≥ 0)) := by unfold fewB; rw [show min i 300 = i by omega]; congr 1; exact decide_eq_decide.2 (by omega)
      by_cases q1 : (i : Int) ≤ 260
      · by_cases q2 : 0 ≤ leftF ss i
        · have q3 : leftF ss i ≥ 0 := q2
          go_wp2_with fail
          go_ret
          exact ⟨by simp [q1, q3], rfl⟩
        · have q3 : ¬ leftF ss i ≥ 0 := q2
          go_wp2_with fail
          go_ret
          exact ⟨by simp [q1, q3], rfl⟩
      · go_wp2_with fail
        go_ret
        exact ⟨by simp; omega, rfl⟩
end Go.Proofs.YthhljmlpjnkfgaaGreat

set_option linter.unusedSimpArgs false
set_option linter.unusedVariables false
namespace Go.Proofs.YthhljmlpjnkfgaaGreat
open Go.RowKit Go.Cib
attribute [local go_sem] cell_set Later.cell Later.frozen Grw.cell Grw.frozen
set_option maxRecDepth 100000 in
set_option maxHeartbeats 8000000 in
theorem rthere_any {w : World} {n c : Nat} {A : Option Addr} {S : Nat → Prop} {ss : Rws} (R : RdL RowR 1 S w A n ss) (hn : n ≤ 1000) :
    Calls Tryz.prog 22 #[.slice A n c] w fun e w' => ∃ A' c', e = .returned (.slice A' (thU ss n).length c') ∧ (thU ss n).length ≤ c' ∧ RdL NatR 1 (fun j => w.heap.size ≤ j) w' A' (thU ss n).length (thU ss n) ∧ Below w.heap.size w w' := by
  have HR := Lib.hid R
  clear R
  have q1 : (n : Int) ≤ 1000 := by omega
  go_enter Tryz.func22, Tryz.ntmps22
  go_wp2_with fail
  go_loopw [3, 4] (fun vl vi wr => ∃ (i t : Nat) (A : Option Addr) (c : Nat), i ≤ n ∧ vi = .int .i64 i ∧ vl = .slice A t c ∧ Hid (t ≤ c) ∧ Hid (t = (thU ss i).length) ∧ Hid (OwnL NatR 3 1 w.heap.size (fun _ => True) wr (.slice A t c) t (thU ss i)) ∧ Hid (Below w.heap.size w wr)) (fun _ vi _ => n - (intOf vi).toNat)
  case atStart => exact ⟨0, 0, none, 0, Nat.zero_le _, rfl, rfl, Lib.hid (Nat.le_refl _), Lib.hid rfl, Lib.hid (by exact OwnL.nil_), Lib.hid (Below.refl _ _)⟩
  case round =>
    obtain ⟨i, t, AO, cO, hi, rfl, rfl, HC, HT, HO, HB⟩ := hrel
    have p0 : (0 : Int) ≤ (i : Int) := Int.natCast_nonneg _
    have hul := thU_len ss i
    have ht : t ≤ 1000 := by have := HT.out; omega
    by_cases hlt : i < n
    · have p1 : (i : Int) < (n : Int) := by omega
      obtain ⟨ba, oa, rfl, _, hba⟩ := HR.out.addr hlt
      obtain ⟨A1, m1, c1, v1, _, r1⟩ := row_at HR.out hlt
      have v1' := (HB.out.cell (p := ⟨ba, oa + i, none⟩) hba).trans v1
      have hm1 : lenF ss i = m1 := r1.1
      have hszr := HB.out.size
      clear v1 r1 hlt
      by_cases hp : 0 < m1
      · have p2 : (m1 : Int) > 0 := by omega
        have HY := Lib.hid (thU_yes (ss := ss) (i := i) (by omega))
        clear hm1
        go_wp2_with (at_builtin; go_must (refine wpList_push1 NatR.stable NatR.one sl_in (by rfl) (by rfl) (base := w.heap.size) (S := fun _ => True) (cs := #[.int .i64 (i : Int)]) (y := i) (by rfl) (by rfl) HO.out (by rfl) (show NatR _ _ [.int .i64 (i : Int)] i from rfl) (by unfold maxLen; omega) (by omega) hszr ?_); intro A8 c8 ug hc8 own9 hlt8 hb8 hat8; rw [← HY.out] at own9; have HO9 := Lib.hid own9; have HB9 := Lib.hid (HB.out.trans hb8); clear own9 hb8 hlt8 hat8)
        exact ⟨⟨i + 1, t + 1, A8, c8, by omega, by go_num, rfl, Lib.hid hc8, Lib.hid (by rw [HY.out, List.length_append, ← HT.out]; rfl), HO9, HB9⟩, by simp [intOf]; omega⟩
      · have p2 : ¬ (m1 : Int) > 0 := by omega
        have HY := Lib.hid (thU_no (ss := ss) (i := i) (by omega))
        clear hm1
        rw [← HY.out] at HT HO
        go_wp2_with fail
        exact ⟨⟨i + 1, t, AO, cO, by omega, by go_num, rfl, HC, HT, HO, HB⟩, by simp [intOf]; omega⟩
    · have p1 : ¬ (i : Int) < (n : Int) := by omega
      obtain rfl : i = n := by omega
      go_wp2_with fail
      go_ret
      obtain ⟨A', c', e, _, hr⟩ := HO.out.rd (S' := fun j => w.heap.size ≤ j) (fun j hj => hj) (fun cs x hx => hx)
      injection e with e1 _ e2
      subst e1; subst e2
      have h0 := HT.out
      subst h0
      exact ⟨AO, cO, rfl, HC.out, hr, HB.out⟩
end Go.Proofs.YthhljmlpjnkfgaaGreat

set_option linter.unusedSimpArgs false
set_option linter.unusedVariables false
namespace Go.Proofs.YthhljmlpjnkfgaaGreat
open Go.RowKit Go.Cib
attribute [local go_sem] cell_set Later.cell Later.frozen Grw.cell Grw.frozen
set_option maxRecDepth 100000 in
set_option maxHeartbeats 8000000 in
theorem there_nil {w : World} {A : Option Addr} {n c : Nat} : Calls Tryz.prog 60 #[.pointer none, .slice A n c] w fun e w' => e = .returned (.tuple #[.slice none 0 0, .int .i64 1]) ∧ Below w.heap.size w w' := by
  go_enter Tryz.func60, Tryz.ntmps60
  go_wp2_with (go_at_call 29; refine cn_nil.mono ?_; rintro e w9 ⟨rfl, hw9⟩; rw [hw9]; clear hw9)
  go_ret2
  exact ⟨rfl, (Below.refl _ _).alloc (Nat.le_refl _) _⟩
set_option maxRecDepth 100000 in
set_option maxHeartbeats 8000000 in
theorem filled_nil {w : World} {A : Option Addr} {n c : Nat} {f : Value} : Calls Tryz.prog 37 #[.pointer none, .slice A n c, f] w fun e w' => e = .returned (.tuple #[.slice none 0 0, .int .i64 1]) ∧ Below w.heap.size w w' := by
  go_enter Tryz.func37, Tryz.ntmps37
  go_wp2_with fail
  refine there_nil.mono ?_
  rintro e w9 ⟨rfl, hb9⟩
  go_wp2_with fail
  go_ret2
  exact ⟨rfl, hb9⟩
set_option maxRecDepth 100000 in
set_option maxHeartbeats 8000000 in
theorem ddata_nil {w : World} {A : Option Addr} {n c : Nat} : Calls Tryz.prog 17 #[.pointer none, .slice A n c] w fun e w' => e = .returned (.tuple #[.slice none 0 0, .int .i64 1]) ∧ Below w.heap.size w w' := by
  go_enter Tryz.func17, Tryz.ntmps17
  go_wp2_with fail
  refine filled_nil.mono ?_
  rintro e w9 ⟨rfl, hb9⟩
  go_wp2_with fail
  go_ret2
  exact ⟨rfl, hb9⟩
set_option maxRecDepth 100000 in
set_option maxHeartbeats 8000000 in
theorem dall_nil {w : World} {A : Option Addr} {n c : Nat} : Calls Tryz.prog 19 #[.pointer none, .slice A n c] w fun e w' => e = .returned (.tuple #[.slice none 0 0, .int .i64 1]) ∧ Below w.heap.size w w' := by
  go_enter Tryz.func19, Tryz.ntmps19
  go_wp2_with fail
  refine filled_nil.mono ?_
  rintro e w9 ⟨rfl, hb9⟩
  go_wp2_with fail
  go_ret2
  exact ⟨rfl, hb9⟩
set_option maxRecDepth 100000 in
set_option maxHeartbeats 8000000 in
theorem dplan_nil {w : World} {A : Option Addr} {n c : Nat} {v2 : Value} : Calls Tryz.prog 12 #[.pointer none, .slice A n c, v2] w fun e w' => e = .returned (.tuple #[.slice none 0 0, .slice none 0 0, .int .i64 1]) ∧ Below w.heap.size w w' := by
  go_enter Tryz.func12, Tryz.ntmps12
  go_wp2_with fail
  refine cn_nil.mono ?_
  rintro e w9 ⟨rfl, hw9⟩
  rw [hw9]
  clear hw9
  go_wp2_with fail
  go_ret3
  exact ⟨rfl, Below.refl _ _⟩
end Go.Proofs.YthhljmlpjnkfgaaGreat

set_option linter.unusedSimpArgs false
set_option linter.unusedVariables false
namespace Go.Proofs.YthhljmlpjnkfgaaGreat
open Go.RowKit Go.Cib
attribute [local go_sem] cell_set Later.cell Later.frozen Grw.cell Grw.frozen

def dl (i j : Nat) : Nat := if i = j then 1 else 0
theorem dl_lt (i j : Nat) : dl i j < 256 := by unfold dl; split <;> omega
theorem gm_sum {f : Nat → Nat} (h : ∀ i, f i < 256) (c : Nat) (n : Nat) : gm (sumx f n) c = sumx (fun i => gm (f i) c) n := by
  rw [gm_comm, sumx_mul h c n]
  exact sumx_cong fun i _ => gm_comm _ _
theorem sum_dl {f : Nat → Nat} {n l : Nat} (hl : l < n) (hf : f l < 256) : sumx (fun t => gm (dl l t) (f t)) n = f l := by
  rw [sumx_one hl fun i _ hne => by unfold dl; rw [if_neg (fun e => hne e.symm), zero_gm]]
  unfold dl
  rw [if_pos rfl, gm_comm, gm_one2 hf]
theorem sum_dl2 {f : Nat → Nat} {n l : Nat} (hl : l < n) (hf : f l < 256) : sumx (fun t => gm (f t) (dl t l)) n = f l := by
  rw [sumx_one hl fun i _ hne => by unfold dl; rw [if_neg hne, gm_zero]]
  unfold dl
  rw [if_pos rfl, gm_one2 hf]
section
variable {V : Rws} {n : Nat}
theorem invE_lt (hV : Shp n n V) (h : Inj n V) {i j : Nat} (hi : i < n) : invE V n i j < 256 := gt_lt ((eliR_ok hV h).2.1.shp.row hi).2 _
theorem dt_two (r : List Nat) (y : Nat → Nat) : dt (n + n) r y = sumx (fun l => gm (gt r l) (y l)) n ^^^ sumx (fun j => gm (gt r (n + j)) (y (n + j))) n := sumx_add _ _ _
theorem dt_beg (hV : Shp n n V) {i : Nat} (hi : i < n) (y : Nat → Nat) (hy : y (n + i) < 256) : dt (n + n) (ra (begF V n n) i) y = sumx (fun l => gm (gt (ra V i) l) (y l)) n ^^^ y (n + i) := by
  rw [begF_ra hi, dt_two]
  congr 1
  · exact sumx_cong fun l hl => by rw [begRow_gt hV hi (by omega), if_pos hl]
  · rw [← sum_dl (f := fun j => y (n + j)) hi hy]
    refine sumx_cong fun j hj => ?_
    rw [begRow_gt hV hi (by omega), if_neg (by omega)]
    unfold dl
    by_cases e : i = j
    · rw [if_pos (by omega), if_pos e]
    · rw [if_neg (by omega), if_neg e]
theorem dt_eli (hV : Shp n n V) (h : Inj n V) {i : Nat} (hi : i < n) (y : Nat → Nat) (hy : y i < 256) : dt (n + n) (ra (eliR V n) i) y = y i ^^^ sumx (fun j => gm (invE V n i j) (y (n + j))) n := by
  rw [dt_two]
  congr 1
  rw [← sum_dl (f := y) hi hy]
  refine sumx_cong fun l hl => ?_
  rw [(eliR_ok hV h).2.1.unit i l hi hl]
  rfl
/-- The inverse before the matrix. -/
theorem inv_left (hV : Shp n n V) (h : Inj n V) {i t : Nat} (hi : i < n) (ht : t < n) : sumx (fun j => gm (invE V n i j) (gt (ra V j) t)) n = dl i t := by
  have hb : ∀ j, gt (ra V j) t < 256 := fun j => by
    by_cases hj : j < n
    · exact gt_lt (hV.row hj).2 _
    · rw [show ra V j = [] by unfold ra; rw [List.getD_eq_getElem?_getD, List.getElem?_eq_none (by rw [hV.1]; omega)]; rfl]
      rw [gt_ge (by exact Nat.zero_le _)]; omega
  have hy : ∀ l, (fun l => if l < n then dl l t else gt (ra V (l - n)) t) l < 256 := fun l => by
    show (if l < n then dl l t else gt (ra V (l - n)) t) < 256
    split
    · exact dl_lt _ _
    · exact hb _
  have h1 := ((eliR_ok hV h).2.2 (fun l => if l < n then dl l t else gt (ra V (l - n)) t) hy).2 fun i hi => by
    rw [dt_beg hV hi _ (hy _)]
    try dsimp only
    rw [if_neg (by omega), show n + i - n = i by omega]
    rw [sumx_cong (g := fun l => gm (gt (ra V i) l) (dl l t)) fun l hl => by rw [if_pos hl]]
    rw [sum_dl2 (f := fun l => gt (ra V i) l) ht (gt_lt (hV.row hi).2 _), Nat.xor_self]
  have h2 := h1 i hi
  rw [dt_eli hV h hi _ (hy i)] at h2
  try dsimp only at h2
  rw [if_pos hi] at h2
  have h3 := xor_zero_eq h2
  rw [h3]
  exact sumx_cong fun j _ => by rw [if_neg (by omega), show n + j - n = j by omega]
/-- The inverse behind the matrix. -/
theorem inv_right (hV : Shp n n V) (h : Inj n V) {i t : Nat} (hi : i < n) (ht : t < n) : sumx (fun l => gm (gt (ra V i) l) (invE V n l t)) n = dl i t := by
  have hy : ∀ l, (fun l => if l < n then invE V n l t else dl (l - n) t) l < 256 := fun l => by
    show (if l < n then invE V n l t else dl (l - n) t) < 256
    split
    · exact invE_lt hV h (by assumption)
    · exact dl_lt _ _
  have h1 := ((eliR_ok hV h).2.2 (fun l => if l < n then invE V n l t else dl (l - n) t) hy).1 fun i hi => by
    rw [dt_eli hV h hi _ (hy i)]
    try dsimp only
    rw [if_pos hi]
    rw [sumx_cong (g := fun j => gm (invE V n i j) (dl j t)) fun j hj => by rw [if_neg (by omega), show n + j - n = j by omega]]
    rw [sum_dl2 (f := fun j => invE V n i j) ht (invE_lt hV h hi), Nat.xor_self]
  have h2 := h1 i hi
  rw [dt_beg hV hi _ (hy _)] at h2
  try dsimp only at h2
  rw [if_neg (by omega), show n + i - n = i by omega] at h2
  rw [← xor_zero_eq h2]
  exact sumx_cong fun l hl => by rw [if_pos hl]
end
/-- A row times the inverse, times what the matrix makes of data, is the row times the data. -/
theorem sum_back {k : Nat} {r d : Nat → Nat} {X V : Nat → Nat → Nat} (hd : ∀ t, d t < 256) (hXV : ∀ l t, l < k → t < k → sumx (fun j => gm (X l j) (V j t)) k = dl l t) :
    sumx (fun j => gm (sumx (fun l => gm (r l) (X l j)) k) (sumx (fun t => gm (V j t) (d t)) k)) k = sumx (fun l => gm (r l) (d l)) k := by
  have e1 : ∀ j, gm (sumx (fun l => gm (r l) (X l j)) k) (sumx (fun t => gm (V j t) (d t)) k) = sumx (fun l => gm (r l) (gm (X l j) (sumx (fun t => gm (V j t) (d t)) k))) k := fun j => by
    rw [gm_sum (fun i => gm_lt)]
    exact sumx_cong fun l _ => gm_assoc _ _ _
  rw [sumx_cong fun j _ => e1 j, sumx_swap]
  refine sumx_cong fun l hl => ?_
  rw [← sumx_mul (fun i => gm_lt)]
  congr 1
  have e2 : ∀ j, gm (X l j) (sumx (fun t => gm (V j t) (d t)) k) = sumx (fun t => gm (gm (X l j) (V j t)) (d t)) k := fun j => by
    rw [sumx_mul (fun i => gm_lt)]
    exact sumx_cong fun t _ => (gm_assoc _ _ _).symm
  rw [sumx_cong fun j _ => e2 j, sumx_swap]
  rw [sumx_cong (g := fun t => gm (dl l t) (d t)) fun t ht => by rw [← gm_sum (fun i => gm_lt), hXV l t hl ht]]
  exact sum_dl hl (hd l)
end Go.Proofs.YthhljmlpjnkfgaaGreat

set_option linter.unusedSimpArgs false
set_option linter.unusedVariables false
namespace Go.Proofs.YthhljmlpjnkfgaaGreat
open Go.RowKit Go.Cib
attribute [local go_sem] cell_set Later.cell Later.frozen Grw.cell Grw.frozen

theorem combF_gt {n p : Nat} : ∀ (cs : List Nat) (rs : Rws) (z : List Nat), cs.length = rs.length → z.length = n → (∀ r ∈ rs, r.length = n) →
    gt (combF cs rs z) p = gt z p ^^^ sumx (fun j => gm (gt cs j) (gt (ra rs j) p)) cs.length := by
  intro cs
  induction cs with
  | nil => intro rs z _ _ _; cases rs <;> simp [combF, sumx]
  | cons c cs ih =>
    intro rs z hl hz hr
    cases rs with
    | nil => simp at hl
    | cons r rs =>
      have hrl := hr r (List.mem_cons_self ..)
      rw [show combF (c :: cs) (r :: rs) z = combF cs rs (fd c r z) from rfl, ih rs (fd c r z) (by simpa using hl) (by rw [fd_len, hz]) (fun x hx => hr x (List.mem_cons_of_mem _ hx)), fd_gt c r z p (by omega)]
      rw [List.length_cons, Nat.add_comm cs.length 1, sumx_add]
      rw [← Nat.xor_assoc]
      congr 1
      · congr 1
        show _ = 0 ^^^ gm (gt (c :: cs) 0) (gt (ra (r :: rs) 0) p)
        rw [Nat.zero_xor]; rfl
      · exact sumx_cong fun j _ => by rw [Nat.add_comm 1 j]; rfl
theorem gt_zeros (n p : Nat) : gt (List.replicate n 0) p = 0 := by
  unfold gt
  rw [List.getD_eq_getElem?_getD, List.getElem?_replicate]
  split <;> rfl
theorem ra_map {us : List Nat} {f : Nat → List Nat} {j : Nat} (hj : j < us.length) : ra (us.map f) j = f (gt us j) := ra_some (by rw [List.getElem?_map, gt_of_lt hj]; rfl)
/-- The row number i that a coder makes of data. -/
def codeRow (k n : Nat) (D : Rws) (i : Nat) : List Nat := combF (rowF k i) D (List.replicate n 0)
theorem rowF_at {k i l : Nat} (h : l < k) : gt (rowF k i) l = fac k i l := range_gt h
section
variable {k n : Nat} {D : Rws}
theorem codeRow_ok (hD : Shp k n D) (i : Nat) : (codeRow k n D i).length = n ∧ Byt (codeRow k n D i) := combF_ok _ _ _ (by simp) (byt_zeros n)
theorem codeRow_gt (hD : Shp k n D) (i p : Nat) : gt (codeRow k n D i) p = sumx (fun l => gm (fac k i l) (gt (ra D l) p)) k := by
  unfold codeRow
  rw [combF_gt (n := n) (rowF k i) D _ (by rw [rowF_len, hD.1]) (by simp) (fun r hr => (hD.2 r hr).1), gt_zeros, Nat.zero_xor, rowF_len]
  exact sumx_cong fun l hl => by rw [rowF_at hl]
theorem ra_byt (hD : Shp k n D) (t p : Nat) : gt (ra D t) p < 256 := by
  by_cases h : t < k
  · exact gt_lt (hD.row h).2 _
  · rw [show ra D t = [] by unfold ra; rw [List.getD_eq_getElem?_getD, List.getElem?_eq_none (by rw [hD.1]; omega)]; rfl, gt_ge (by exact Nat.zero_le _)]; omega
/-- The code is systematic. -/
theorem codeRow_data (hD : Shp k n D) {i : Nat} (hi : i < k) : codeRow k n D i = ra D i := by
  refine gt_ext (by rw [(codeRow_ok hD i).1, (hD.row hi).1]) fun p _ => ?_
  rw [codeRow_gt hD]
  rw [sumx_cong (g := fun l => gm (dl i l) (gt (ra D l) p)) fun l hl => by unfold fac; rw [if_pos hi]; rfl]
  exact sum_dl hi (ra_byt hD i p)
theorem planF_gt {us : List Nat} (hul : us.length = k) (hI : Inj k (useF k us)) (i j : Nat) (hj : j < k) : gt (planF k us i) j = sumx (fun l => gm (fac k i l) (invE (useF k us) k l j)) k := by
  have hs := inv_shp hul hI
  unfold planF
  rw [combF_gt (n := k) (rowF k i) _ _ (by rw [rowF_len, hs.1]) (by simp) (fun r hr => (hs.2 r hr).1), gt_zeros, Nat.zero_xor, rowF_len]
  exact sumx_cong fun l hl => by rw [rowF_at hl, mkF_ra hl, range_gt hj]
theorem planF_len {us : List Nat} (hul : us.length = k) (hI : Inj k (useF k us)) (i : Nat) : (planF k us i).length = k := (combF_ok _ _ _ (by simp) (byt_zeros k)).1
/-- Any k rows of a code, with the plan's factors, make any row of it. -/
theorem made_back {us : List Nat} {ss : Rws} (hD : Shp k n D) (hul : us.length = k) (hI : Inj k (useF k us)) (hss : ∀ u ∈ us, ra ss u = codeRow k n D u) (i : Nat) : madeF (planF k us i) us ss n = codeRow k n D i := by
  have hpl := planF_len hul hI i
  have hrl : ∀ r ∈ us.map (ra ss), r.length = n := fun r hr => by
    obtain ⟨u, hu, rfl⟩ := List.mem_map.1 hr
    rw [hss u hu]; exact (codeRow_ok hD u).1
  unfold madeF
  refine gt_ext (by rw [(combF_ok (m := n) _ _ _ (by simp) (byt_zeros n)).1, (codeRow_ok hD i).1]) fun p _ => ?_
  rw [combF_gt (n := n) _ _ _ (by rw [hpl, List.length_map, hul]) (by simp) hrl, gt_zeros, Nat.zero_xor, hpl, codeRow_gt hD]
  rw [← sum_back (r := fac k i) (d := fun t => gt (ra D t) p) (X := fun l j => invE (useF k us) k l j) (V := fun j t => gt (ra (useF k us) j) t) (fun t => ra_byt hD t p) (fun l t hl ht => inv_left (useF_shp hul) hI hl ht)]
  refine sumx_cong fun j hj => ?_
  rw [planF_gt hul hI i j hj, ra_map (by omega), hss _ (gt_mem (by omega)), codeRow_gt hD]
  congr 1
  refine sumx_cong fun t ht => ?_
  congr 1
  unfold useF
  rw [ra_map (by omega), rowF_at ht]
end
end Go.Proofs.YthhljmlpjnkfgaaGreat

set_option linter.unusedSimpArgs false
set_option linter.unusedVariables false
namespace Go.Proofs.YthhljmlpjnkfgaaGreat
open Go.RowKit Go.Cib
attribute [local go_sem] cell_set Later.cell Later.frozen Grw.cell Grw.frozen

set_option maxRecDepth 100000 in
set_option maxHeartbeats 8000000 in
theorem same5_any {w : World} {n ca cb : Nat} {A B : Option Addr} {S1 S2 : Nat → Prop} {ss : Rws} (R1 : RdL RowR 1 S1 w A n ss) (R2 : RdL RowR 1 S2 w B n ss) (hn : n ≤ 1000) :
    Calls Tryz.prog 21 #[.slice A n ca, .slice B n cb] w fun e w' => e = .returned (.bool true) ∧ Below w.heap.size w w' := by
  have H1 := Lib.hid R1
  have H2 := Lib.hid R2
  have q1 : (n : Int) ≤ 1000 := by omega
  have q9 : ((n : Int) != (n : Int)) = false := by simp
  clear R1 R2
  go_enter Tryz.func21, Tryz.ntmps21
  go_wp2_with fail
  go_loopw [5] (fun vi wr => ∃ i : Nat, i ≤ n ∧ vi = .int .i64 i ∧ Hid (Below w.heap.size w wr)) (fun vi _ => n - (intOf vi).toNat)
  case atStart => exact ⟨0, Nat.zero_le _, rfl, Lib.hid (Below.refl _ _)⟩
  case round =>
    obtain ⟨wq, rfl⟩ : ∃ wq, wq = wr := ⟨_, rfl⟩
    obtain ⟨i, hi, rfl, HB⟩ := hrel
    have p0 : (0 : Int) ≤ (i : Int) := Int.natCast_nonneg _
    by_cases hlt : i < n
    · have p1 : (i : Int) < (n : Int) := by omega
      obtain ⟨ba, oa, rfl, _, hba⟩ := H1.out.addr hlt
      obtain ⟨bb, ob, rfl, _, hbb⟩ := H2.out.addr hlt
      obtain ⟨A1, m1, c1, v1, _, r1⟩ := row_at H1.out hlt
      obtain ⟨A2, m2, c2, v2, _, r2⟩ := row_at H2.out hlt
      have u1 := fun w' (h : Below wq.heap.size wq w') => ((HB.out.trans (h.mono HB.out.size)).cell (p := ⟨ba, oa + i, none⟩) hba).trans v1
      have u2 := fun w' (h : Below wq.heap.size wq w') => ((HB.out.trans (h.mono HB.out.size)).cell (p := ⟨bb, ob + i, none⟩) hbb).trans v2
      have t1 := fun w' (h : Below wq.heap.size wq w') => text_run (c := c1) (r1.below ByR.stable (HB.out.trans (h.mono HB.out.size)))
      have t2 := fun w' (h : Below wq.heap.size wq w') => text_run (c := c2) (r2.below ByR.stable (HB.out.trans (h.mono HB.out.size)))
      obtain ⟨tx, htx⟩ : ∃ tx, textB (ra ss i) = tx := ⟨_, rfl⟩
      rw [htx] at t1 t2
      have q8 : (tx != tx) = false := by rw [bne, bytes_beq]; simp
      clear v1 v2 r1 r2 htx hlt
      go_wp2_with fail
      refine wp_region_held_drew (S := fun w' => Below wq.heap.size wq w') (by kernel_rfl) (by first | assumption | exact Below.refl _ _ | exact (Below.refl _ _).drew) (fun hHeld => ?_)
      refine wpAnyH_take (i := 0) (v := ?_) rfl (by kernel_rfl) (by kernel_rfl) (by kernel_rfl) (fun _ _ _ h => h) (Or.inl ⟨by first | kernel_rfl | rfl, ?_⟩) (by assumption) ?_
      rotate_left
      · (intro wq hSw; (try dsimp only at hSw); (try simp (maxSteps := 2000000) only [List.getElem_toArray, List.getElem_cons_succ, List.getElem_cons_zero]); go_simp); try with_reducible rfl
      try simp (maxSteps := 2000000) only [List.getElem_toArray, List.getElem_cons_succ, List.getElem_cons_zero, Act.put, List.setIfInBounds_toArray, List.set_cons_zero, List.set_cons_succ]
      refine wpAnyH_take (i := 1) (v := ?_) rfl (by kernel_rfl) (by kernel_rfl) (by kernel_rfl) (fun _ _ _ h => h) (Or.inl ⟨by first | kernel_rfl | rfl, ?_⟩) (by assumption) ?_
      rotate_left
      · (intro wq hSw; (try dsimp only at hSw); (try simp (maxSteps := 2000000) only [List.getElem_toArray, List.getElem_cons_succ, List.getElem_cons_zero]); go_simp); try with_reducible rfl
      try simp (maxSteps := 2000000) only [List.getElem_toArray, List.getElem_cons_succ, List.getElem_cons_zero, Act.put, List.setIfInBounds_toArray, List.set_cons_zero, List.set_cons_succ]
      refine wpAnyH_take (i := 2) (v := ?_) rfl (by kernel_rfl) (by kernel_rfl) (by kernel_rfl) (fun _ _ _ h => h) (Or.inl ⟨by first | kernel_rfl | rfl, ?_⟩) (by assumption) ?_
      rotate_left
      · (intro wq hSw; (try dsimp only at hSw); (try simp (maxSteps := 2000000) only [List.getElem_toArray, List.getElem_cons_succ, List.getElem_cons_zero]); go_simp); try with_reducible rfl
      try simp (maxSteps := 2000000) only [List.getElem_toArray, List.getElem_cons_succ, List.getElem_cons_zero, Act.put, List.setIfInBounds_toArray, List.set_cons_zero, List.set_cons_succ]
      refine wpAnyH_take (i := 3) (v := ?_) rfl (by kernel_rfl) (by kernel_rfl) (by kernel_rfl) (fun _ _ _ h => h) (Or.inl ⟨by first | kernel_rfl | rfl, ?_⟩) (by assumption) ?_
      rotate_left
      · (intro wq hSw; (try dsimp only at hSw); (try simp (maxSteps := 2000000) only [List.getElem_toArray, List.getElem_cons_succ, List.getElem_cons_zero]); go_simp); try with_reducible rfl
      try simp (maxSteps := 2000000) only [List.getElem_toArray, List.getElem_cons_succ, List.getElem_cons_zero, Act.put, List.setIfInBounds_toArray, List.set_cons_zero, List.set_cons_succ]
      refine wpAnyH_take (i := 4) (v := ?_) rfl (by kernel_rfl) (by kernel_rfl) (by kernel_rfl) (fun _ _ _ h => h) (Or.inl ⟨by first | kernel_rfl | rfl, ?_⟩) (by assumption) ?_
      rotate_left
      · (intro wq hSw; (try dsimp only at hSw); (try simp (maxSteps := 2000000) only [List.getElem_toArray, List.getElem_cons_succ, List.getElem_cons_zero]); go_simp); try with_reducible rfl
      try simp (maxSteps := 2000000) only [List.getElem_toArray, List.getElem_cons_succ, List.getElem_cons_zero, Act.put, List.setIfInBounds_toArray, List.set_cons_zero, List.set_cons_succ]
      refine wpAnyH_take (i := 5) (v := ?_) rfl (by kernel_rfl) (by kernel_rfl) (by kernel_rfl) (fun _ _ _ h => h) (Or.inl ⟨by first | kernel_rfl | rfl, ?_⟩) (by assumption) ?_
      rotate_left
      · (intro wq hSw; (try dsimp only at hSw); (try simp (maxSteps := 2000000) only [List.getElem_toArray, List.getElem_cons_succ, List.getElem_cons_zero]); go_simp); try with_reducible rfl
      try simp (maxSteps := 2000000) only [List.getElem_toArray, List.getElem_cons_succ, List.getElem_cons_zero, Act.put, List.setIfInBounds_toArray, List.set_cons_zero, List.set_cons_succ]
      refine wpAnyH_take (i := 6) (v := ?_) rfl (by kernel_rfl) (by kernel_rfl) (by kernel_rfl) (fun _ _ _ h => h) (Or.inl ⟨by first | kernel_rfl | rfl, ?_⟩) (by assumption) ?_
      rotate_left
      · (intro wq hSw; (try dsimp only at hSw); (try simp (maxSteps := 2000000) only [List.getElem_toArray, List.getElem_cons_succ, List.getElem_cons_zero]); go_simp); try with_reducible rfl
      try simp (maxSteps := 2000000) only [List.getElem_toArray, List.getElem_cons_succ, List.getElem_cons_zero, Act.put, List.setIfInBounds_toArray, List.set_cons_zero, List.set_cons_succ]
      refine wpAnyH_take (i := 7) (v := ?_) rfl (by kernel_rfl) (by kernel_rfl) (by kernel_rfl) (fun _ _ _ h => h) (Or.inl ⟨by first | kernel_rfl | rfl, ?_⟩) (by assumption) ?_
      rotate_left
      · (intro wq hSw; (try dsimp only at hSw); (try simp (maxSteps := 2000000) only [List.getElem_toArray, List.getElem_cons_succ, List.getElem_cons_zero]); go_simp); try with_reducible rfl
      try simp (maxSteps := 2000000) only [List.getElem_toArray, List.getElem_cons_succ, List.getElem_cons_zero, Act.put, List.setIfInBounds_toArray, List.set_cons_zero, List.set_cons_succ]
      refine wpAnyH_take (i := 8) (v := ?_) rfl (by kernel_rfl) (by kernel_rfl) (by kernel_rfl) (fun _ _ _ h => h) (Or.inl ⟨by first | kernel_rfl | rfl, ?_⟩) (by assumption) ?_
      rotate_left
      · (intro wq hSw; (try dsimp only at hSw); (try simp (maxSteps := 2000000) only [List.getElem_toArray, List.getElem_cons_succ, List.getElem_cons_zero]); go_simp); try with_reducible rfl
      try simp (maxSteps := 2000000) only [List.getElem_toArray, List.getElem_cons_succ, List.getElem_cons_zero, Act.put, List.setIfInBounds_toArray, List.set_cons_zero, List.set_cons_succ]
      refine wpAnyH_take (i := 9) (v := ?_) rfl (by kernel_rfl) (by kernel_rfl) (by kernel_rfl) (fun _ _ _ h => h) (Or.inl ⟨by first | kernel_rfl | rfl, ?_⟩) (by assumption) ?_
      rotate_left
      · (intro wq hSw; (try dsimp only at hSw); (try simp (maxSteps := 2000000) only [List.getElem_toArray, List.getElem_cons_succ, List.getElem_cons_zero]); go_simp); try with_reducible rfl
      try simp (maxSteps := 2000000) only [List.getElem_toArray, List.getElem_cons_succ, List.getElem_cons_zero, Act.put, List.setIfInBounds_toArray, List.set_cons_zero, List.set_cons_succ]
      refine wpAnyH_take (i := 10) (v := ?_) rfl (by kernel_rfl) (by kernel_rfl) (by kernel_rfl) (fun _ _ _ h => h) (Or.inl ⟨by first | kernel_rfl | rfl, ?_⟩) (by assumption) ?_
      rotate_left
      · (intro wq hSw; (try dsimp only at hSw); (try simp (maxSteps := 2000000) only [List.getElem_toArray, List.getElem_cons_succ, List.getElem_cons_zero]); go_simp); try with_reducible rfl
      try simp (maxSteps := 2000000) only [List.getElem_toArray, List.getElem_cons_succ, List.getElem_cons_zero, Act.put, List.setIfInBounds_toArray, List.set_cons_zero, List.set_cons_succ]
      refine wpAnyH_done (by kernel_rfl) ?_ _
      go_wp2_with fail
      exact ⟨⟨i + 1, by omega, by go_num, Lib.hid (HB.out.trans ((Below.refl _ _).drew.mono HB.out.size))⟩, by simp [intOf]; omega⟩
    · have p1 : ¬ (i : Int) < (n : Int) := by omega
      go_wp2_with fail
      go_ret
      exact ⟨rfl, HB.out⟩
end Go.Proofs.YthhljmlpjnkfgaaGreat

set_option linter.unusedSimpArgs false
set_option linter.unusedVariables false
namespace Go.Proofs.YthhljmlpjnkfgaaGreat
open Go.RowKit Go.Cib
attribute [local go_sem] cell_set Later.cell Later.frozen Grw.cell Grw.frozen

def holeF (gone : List Int) (i j : Nat) (r : List Nat) : List Nat := if (i : Int) ∈ gone.take j then [] else r
def missF (gone : List Int) (ss : Rws) (i : Nat) : Rws := (List.range i).map fun j : Nat => if (j : Int) ∈ gone then [] else ra ss j
theorem missF_next (gone : List Int) (ss : Rws) (i : Nat) {g : Nat} (hg : gone.length = g) : missF gone ss (i + 1) = missF gone ss i ++ [holeF gone i g (ra ss i)] := by
  unfold missF holeF
  rw [List.range_succ, List.map_append, List.take_of_length_le (by omega)]; rfl
set_option maxRecDepth 100000 in
set_option maxHeartbeats 8000000 in
theorem missing_any {w : World} {n g ca cb : Nat} {A B : Option Addr} {S1 S2 : Nat → Prop} {ss : Rws} {gone : List Int} (R1 : RdL RowR 1 S1 w A n ss) (R2 : RdL IntR 1 S2 w B g gone) (hn : n ≤ 1000) (hg : g ≤ 1000) (hlen : ∀ i, lenF ss i ≤ 1000000) :
    Calls Tryz.prog 25 #[.slice A n ca, .slice B g cb] w fun e w' => ∃ A' c', e = .returned (.slice A' n c') ∧ n ≤ c' ∧ RdL RowR 1 (fun j => w.heap.size ≤ j) w' A' n (missF gone ss n) ∧ Below w.heap.size w w' := by
  have H1 := Lib.hid R1
  have H2 := Lib.hid R2
  have hgl := R2.1
  have q1 : (n : Int) ≤ 1000 := by omega
  have q2 : (g : Int) ≤ 1000 := by omega
  have HGL := Lib.hid hgl
  clear R1 R2 hgl
  go_enter Tryz.func25, Tryz.ntmps25
  go_wp2_with fail
  go_loopw [5, 6] (fun vs vi wr => ∃ (i : Nat) (A : Option Addr) (c : Nat), i ≤ n ∧ vi = .int .i64 i ∧ vs = .slice A i c ∧ i ≤ c ∧ Hid (OwnL RowR 29 1 w.heap.size (fun j => w.heap.size ≤ j) wr (.slice A i c) i (missF gone ss i)) ∧ Hid (Below w.heap.size w wr)) (fun _ vi _ => n - (intOf vi).toNat)
  case atStart => exact ⟨0, none, 0, Nat.zero_le _, rfl, rfl, Nat.le_refl _, Lib.hid (by exact OwnL.nil_), Lib.hid (Below.refl _ _)⟩
  case round =>
    obtain ⟨i, AO, cO, hi, rfl, rfl, hcO, HO, HB⟩ := hrel
    have p0 : (0 : Int) ≤ (i : Int) := Int.natCast_nonneg _
    by_cases hlt : i < n
    · have p1 : (i : Int) < (n : Int) := by omega
      obtain ⟨ba, oa, rfl, _, hba⟩ := H1.out.addr hlt
      obtain ⟨A1, m1, c1, v1, _, r1⟩ := row_at H1.out hlt
      have v1' := (HB.out.cell (p := ⟨ba, oa + i, none⟩) hba).trans v1
      have v1a := (((HB.out.alloc (HB.out.size) (.cells #[] 5))).cell (p := ⟨ba, oa + i, none⟩) hba).trans v1
      have r1' := r1.below ByR.stable HB.out
      have hm1 : m1 ≤ 1000000 := by have := hlen i; unfold lenF at this; rw [r1.1] at this; exact this
      have hszr := HB.out.size
      have hA := Lib.hid (r1'.alloc ByR.stable (.cells #[] 5))
      clear v1 r1 r1'
      go_wp2_with (at_builtin; refine wpList_appL ByR.stable ByR.one sl_by rfl (by exact rfl) (base := wr.heap.size) (S := fun _ => True) (n := 0) (xs := []) (by exact rfl) (OwnL.made #[] 0 (Nat.le_refl _) (by unfold maxLen; omega) rfl) (by exact rfl) hA.out (fun _ _ h => h) (by unfold maxLen; omega) (by omega) (by simp only [World.size_alloc]; omega) ?_; intro A3 c3 w3 hc3 hown hg3 hat; have hb : Below wr.heap.size wr w3 := ((Below.refl _ _).alloc (Nat.le_refl _) _).grown hg3 (by simp only [World.size_alloc]; omega) (fun k hk => by simp only [Value.ownBlock, Option.some.injEq] at hk; omega); rw [Nat.zero_add, List.nil_append] at hown; obtain ⟨A5, c5, hv5, hc5, hr5⟩ := hown.rd (S' := Go.Cib.Rest (fun j => w.heap.size ≤ j) (.slice AO i cO)) (fun j hj => ⟨(by show _ ≤ j; omega), fun e => (by have := (HO.out.lt _ e.symm).2; omega)⟩) (fun cs x hx => hx); simp only [Value.slice.injEq] at hv5; obtain ⟨rfl, _, rfl⟩ := hv5; have HR3 := Lib.hid hr5; have HO3 := Lib.hid (HO.out.keep RowR.stable hb); have HB3 := Lib.hid (HB.out.trans (hb.mono HB.out.size)); have hs3 := HB3.out.size; clear hA hown hg3 hat hb hr5)
      have HRi : Hid (RdL ByR 1 (Go.Cib.Rest (fun j => w.heap.size ≤ j) (.slice AO i cO)) w3 A3 m1 (holeF gone i 0 (ra ss i))) := by unfold holeF; rw [List.take_zero, if_neg (by simp)]; exact HR3
      clear HR3
      go_loopw [7, 8] (fun vr vj wr => ∃ (j : Nat) (A' : Option Addr) (m c : Nat), j ≤ g ∧ vj = .int .i64 j ∧ vr = .slice A' m c ∧ wr = w3 ∧ Hid (m ≤ c) ∧ Hid (RdL ByR 1 (Go.Cib.Rest (fun j => w.heap.size ≤ j) (.slice AO i cO)) w3 A' m (holeF gone i j (ra ss i)))) (fun _ vj _ => g - (intOf vj).toNat)
      case atStart => exact ⟨0, _, _, _, Nat.zero_le _, rfl, rfl, rfl, Lib.hid (by omega), HRi⟩
      case round =>
        clear HRi
        obtain ⟨j, A4, m4, c4, hj, rfl, rfl, hwr, HC4, HR4⟩ := hrel
        rw [hwr]
        clear hwr
        have p5 : (0 : Int) ≤ (j : Int) := Int.natCast_nonneg _
        by_cases hlj : j < g
        · have p6 : (j : Int) < (g : Int) := by omega
          obtain ⟨bg, og, rfl, _, hbg⟩ := H2.out.addr hlj
          obtain ⟨x, hx, v2⟩ := int_at H2.out hlj
          have v2' := (HB3.out.cell (p := ⟨bg, og + j, none⟩) hbg).trans v2
          have htk : gone.take (j + 1) = gone.take j ++ [x] := by rw [List.take_add_one, hx]; rfl
          clear v2 hx
          by_cases he : x = (i : Int)
          · have he2 : (x == (i : Int)) = true := by rw [he]; simp
            have HR5 : Hid (RdL ByR 1 (Go.Cib.Rest (fun j => w.heap.size ≤ j) (.slice AO i cO)) w3 none 0 (holeF gone i (j + 1) (ra ss i))) := by
              unfold holeF
              rw [htk, if_pos (by rw [he]; simp)]
              exact Lib.hid RdL.nil
            clear htk he
            go_wp2_with fail
            exact ⟨⟨j + 1, none, 0, 0, by omega, by go_num, rfl, trivial, Lib.hid (Nat.le_refl _), HR5⟩, by simp [intOf]; omega⟩
          · have he2 : (x == (i : Int)) = false := by simp [he]
            have HR5 : Hid (RdL ByR 1 (Go.Cib.Rest (fun j => w.heap.size ≤ j) (.slice AO i cO)) w3 A4 m4 (holeF gone i (j + 1) (ra ss i))) := by
              have e : holeF gone i (j + 1) (ra ss i) = holeF gone i j (ra ss i) := by
                unfold holeF
                rw [htk]
                by_cases h : (i : Int) ∈ gone.take j
                · rw [if_pos h, if_pos (by simp [h])]
                · rw [if_neg h, if_neg (by simp [h]; exact fun e => he e.symm)]
              rw [e]; exact HR4
            clear htk he
            go_wp2_with fail
            exact ⟨⟨j + 1, A4, m4, c4, by omega, by go_num, rfl, trivial, HC4, HR5⟩, by simp [intOf]; omega⟩
        · have p6 : ¬ (j : Int) < (g : Int) := by omega
          obtain rfl : j = g := by omega
          have hnx := missF_next gone ss i HGL.out
          have HNX := Lib.hid hnx
          clear hnx hlj
          go_wp2_with (at_builtin; go_must (refine wpList_push1 RowR.stable RowR.one sl_rows (by rfl) (by rfl) (base := w.heap.size) (S := fun j => w.heap.size ≤ j) (cs := #[.slice A4 m4 c4]) (y := holeF gone i j (ra ss i)) (by rfl) (by rfl) HO3.out (by rfl) ⟨A4, m4, c4, rfl, HC4.out, HR4.out⟩ (by unfold maxLen; omega) (by omega) hs3 ?_); intro A8 c8 ug hc8 own9 hlt8 hb8 hat8; rw [← HNX.out] at own9; have HO9 := Lib.hid own9; have HB9 := Lib.hid (HB3.out.trans hb8); clear own9 hb8 hlt8 hat8)
          exact ⟨⟨i + 1, A8, c8, by omega, by go_num, rfl, hc8, HO9, HB9⟩, by simp [intOf]; omega⟩
    · have p1 : ¬ (i : Int) < (n : Int) := by omega
      obtain rfl : i = n := by omega
      go_wp2_with fail
      go_ret
      obtain ⟨A', c', e, _, hr⟩ := HO.out.rd (S' := fun j => w.heap.size ≤ j) (fun j hj => hj) (fun cs x hx => RowR.stable _ _ _ _ _ _ hx fun b hb _ => ⟨hb.1, rfl⟩)
      injection e with e1 _ e2
      subst e1; subst e2
      exact ⟨AO, cO, rfl, hcO, hr, HB.out⟩
end Go.Proofs.YthhljmlpjnkfgaaGreat

set_option linter.unusedSimpArgs false
set_option linter.unusedVariables false
namespace Go.Proofs.YthhljmlpjnkfgaaGreat
open Go.RowKit Go.Cib
attribute [local go_sem] cell_set Later.cell Later.frozen Grw.cell Grw.frozen

theorem left_many (N : Nat) : ∀ gone : List Int, N ≤ ((List.range N).filter fun j : Nat => decide ((j : Int) ∉ gone)).length + gone.length := by
  intro gone
  induction gone with
  | nil => simp [List.filter_eq_self.2]
  | cons x gs ih =>
    rw [List.length_cons]
    by_cases h : 0 ≤ x ∧ x < (N : Int) ∧ x ∉ gs
    · obtain ⟨a, rfl⟩ : ∃ a : Nat, x = (a : Int) := ⟨x.toNat, by omega⟩
      rw [cnt_put (fun j : Nat => decide ((j : Int) ∉ (a : Int) :: gs)) (fun j : Nat => decide ((j : Int) ∉ gs)) a N (by omega) (fun j hj => by
        have : ¬ (j : Int) = (a : Int) := by omega
        simp [this]) (by simp) (by simp [h.2.2])] at ih
      omega
    · have e : (List.range N).filter (fun j : Nat => decide ((j : Int) ∉ x :: gs)) = (List.range N).filter (fun j : Nat => decide ((j : Int) ∉ gs)) := List.filter_congr fun j hj => by
        have hjN := List.mem_range.1 hj
        by_cases hx : (j : Int) = x
        · by_cases hg : x ∈ gs
          · simp [hx, hg]
          · exact absurd ⟨by omega, by omega, hg⟩ h
        · simp [hx]
      rw [e]; omega
/-- All rows of a code. -/
def allR (k n : Nat) (D : Rws) (N : Nat) : Rws := (List.range N).map (codeRow k n D)
theorem allR_len (k n : Nat) (D : Rws) (N : Nat) : (allR k n D N).length = N := by unfold allR; simp
theorem allR_ra {k n : Nat} {D : Rws} {N j : Nat} (hj : j < N) : ra (allR k n D N) j = codeRow k n D j := ra_some (by unfold allR; rw [List.getElem?_map, List.getElem?_range hj]; rfl)
theorem missF_len (gone : List Int) (ss : Rws) (N : Nat) : (missF gone ss N).length = N := by unfold missF; simp
theorem missF_ra {gone : List Int} {ss : Rws} {N j : Nat} (hj : j < N) : ra (missF gone ss N) j = if (j : Int) ∈ gone then [] else ra ss j := ra_some (by unfold missF; rw [List.getElem?_map, List.getElem?_range hj]; rfl)
section
variable {k m n : Nat} {D : Rws} {gone : List Int}
theorem allR_data (hD : Shp k n D) : allR k n D k = D := ra_ext (by rw [allR_len, hD.1]) fun i hi => by
  rw [allR_len] at hi
  rw [allR_ra hi, codeRow_data hD hi]
theorem allR_enc (hD : Shp k n D) : D ++ encU k D n m = allR k n D (k + m) := by
  unfold allR
  rw [List.range_add, List.map_append, List.map_map]
  congr 1
  exact (allR_data hD).symm
theorem left_lenF (hD : Shp k n D) (hn : 0 < n) {N j : Nat} (hj : j < N) : lenF (missF gone (allR k n D N) N) j = if (j : Int) ∈ gone then 0 else n := by
  unfold lenF
  rw [missF_ra hj, allR_ra hj]
  split
  · rfl
  · exact (codeRow_ok hD j).1
theorem left_thU (hD : Shp k n D) (hn : 0 < n) (N : Nat) : thU (missF gone (allR k n D N) N) N = (List.range N).filter fun j : Nat => decide ((j : Int) ∉ gone) := by
  unfold thU
  refine List.filter_congr fun j hj => ?_
  rw [left_lenF hD hn (List.mem_range.1 hj)]
  by_cases h : (j : Int) ∈ gone
  · simp [h]
  · simp [h, hn]
theorem left_bad (hD : Shp k n D) (hn : 0 < n) : thBad k m (k + m) (missF gone (allR k n D (k + m)) (k + m)) = false := by
  unfold thBad
  rw [Bool.or_eq_false_iff]
  refine ⟨by simp, List.any_eq_false.2 fun u hu => ?_⟩
  have hg := gt_mem (l := thU (missF gone (allR k n D (k + m)) (k + m)) (k + m)) (i := 0) (List.length_pos_of_mem hu)
  have e : ∀ j, j ∈ thU (missF gone (allR k n D (k + m)) (k + m)) (k + m) → lenF (missF gone (allR k n D (k + m)) (k + m)) j = n := fun j hj => by
    have h1 := thU_mem hj
    have h2 := left_lenF (gone := gone) hD hn h1.1
    rw [h2]
    split
    · rename_i hin; rw [if_pos hin] at h2; omega
    · rfl
  unfold oddB
  rw [e u hu, e _ hg]
  simp
theorem left_enough (hD : Shp k n D) (hn : 0 < n) (hg : gone.length ≤ m) : ¬ (thU (missF gone (allR k n D (k + m)) (k + m)) (k + m)).length < k := by
  rw [left_thU hD hn]
  have := left_many (k + m) gone
  omega
/-- All of it comes back. -/
theorem left_out (hD : Shp k n D) (hn : 0 < n) (hk : 1 ≤ k) (hkm : k + m ≤ 255) (hg : gone.length ≤ m) {nr : Nat} (hnr : nr ≤ k + m) :
    outF k (k + m) nr (missF gone (allR k n D (k + m)) (k + m)) = allR k n D nr := by
  have hb := left_bad (m := m) (gone := gone) hD hn
  have hf := left_enough hD hn hg
  obtain ⟨_, hul, huse⟩ := use_ok hb hf hk
  have hI := inj_useT hb hf hk hkm
  have hin : ∀ u ∈ useT k (k + m) (missF gone (allR k n D (k + m)) (k + m)), u < k + m ∧ lenF (missF gone (allR k n D (k + m)) (k + m)) u = n ∧ ra (missF gone (allR k n D (k + m)) (k + m)) u = codeRow k n D u := fun u hu => by
    have h1 := thU_mem (List.mem_of_mem_take hu)
    have h2 := left_lenF (gone := gone) hD hn h1.1
    have h3 := missF_ra (gone := gone) (ss := allR k n D (k + m)) h1.1
    by_cases hc : (u : Int) ∈ gone
    · rw [if_pos hc] at h2; omega
    · rw [if_neg hc] at h2 h3
      exact ⟨h1.1, h2, by rw [h3, allR_ra h1.1]⟩
  have hn0 : lenF (missF gone (allR k n D (k + m)) (k + m)) (gt (useT k (k + m) (missF gone (allR k n D (k + m)) (k + m))) 0) = n := (hin _ (gt_mem (by omega))).2.1
  rw [show allR k n D nr = (List.range nr).map (codeRow k n D) from rfl]
  unfold outF
  rw [hn0]
  refine List.map_congr_left fun i hi => ?_
  have hiN := List.mem_range.1 hi
  unfold fillOne
  split
  · rename_i hpos
    rw [missF_ra (show i < k + m by omega), allR_ra (show i < k + m by omega)]
    rw [left_lenF hD hn (show i < k + m by omega)] at hpos
    by_cases hc : (i : Int) ∈ gone
    · rw [if_pos hc] at hpos; omega
    · rw [if_neg hc]
  · exact made_back hD hul hI (fun u hu => (hin u hu).2.2) i
end
end Go.Proofs.YthhljmlpjnkfgaaGreat

set_option linter.unusedSimpArgs false
set_option linter.unusedVariables false
namespace Go.Proofs.YthhljmlpjnkfgaaGreat
open Go.RowKit Go.Cib
attribute [local go_sem] cell_set Later.cell Later.frozen Grw.cell Grw.frozen
section
variable {k m n N : Nat} {us : List Nat} {ss : Rws}
theorem planF_data (hul : us.length = k) (hI : Inj k (useF k us)) {t j : Nat} (ht : t < k) (hj : j < k) : gt (planF k us t) j = invE (useF k us) k t j := by
  rw [planF_gt hul hI t j hj]
  rw [sumx_cong (g := fun l => gm (dl t l) (invE (useF k us) k l j)) fun l hl => by unfold fac; rw [if_pos ht]; rfl]
  exact sum_dl ht (invE_lt (useF_shp hul) hI ht)
theorem madeF_len (us2 ws : List Nat) : (madeF ws us2 ss n).length = n ∧ Byt (madeF ws us2 ss n) := combF_ok _ _ _ (by simp) (byt_zeros n)
theorem madeF_gt (hul : us.length = k) (hI : Inj k (useF k us)) (hlen : ∀ u ∈ us, (ra ss u).length = n) (i p : Nat) : gt (madeF (planF k us i) us ss n) p = sumx (fun j => gm (gt (planF k us i) j) (gt (ra ss (gt us j)) p)) k := by
  have hpl := planF_len hul hI i
  have hrl : ∀ r ∈ us.map (ra ss), r.length = n := fun r hr => by
    obtain ⟨u, hu, rfl⟩ := List.mem_map.1 hr
    exact hlen u hu
  unfold madeF
  rw [combF_gt (n := n) _ _ _ (by rw [hpl, List.length_map, hul]) (by simp) hrl, gt_zeros, Nat.zero_xor, hpl]
  exact sumx_cong fun j hj => by rw [ra_map (by omega)]
/-- A row that is there is made as it is. -/
theorem made_self (hul : us.length = k) (hI : Inj k (useF k us)) (hlen : ∀ u ∈ us, (ra ss u).length = n) (hby : ∀ u ∈ us, Byt (ra ss u)) {v : Nat} (hv : v < k) : madeF (planF k us (gt us v)) us ss n = ra ss (gt us v) := by
  have hm : gt us v ∈ us := gt_mem (by omega)
  refine gt_ext (by rw [(madeF_len us _).1, hlen _ hm]) fun p _ => ?_
  rw [madeF_gt hul hI hlen]
  rw [sumx_cong (g := fun j => gm (dl v j) (gt (ra ss (gt us j)) p)) fun j hj => by
    rw [planF_gt hul hI _ j hj, ← inv_right (useF_shp hul) hI hv hj]
    congr 1
    refine sumx_cong fun l hl => ?_
    unfold useF
    rw [ra_map (by omega), rowF_at hl]]
  exact sum_dl hv (gt_lt (hby _ hm) _)
/-- What is made of the rows is what the code makes of the data that is made of the rows. -/
theorem made_code (hul : us.length = k) (hI : Inj k (useF k us)) (hlen : ∀ u ∈ us, (ra ss u).length = n) (hby : ∀ u ∈ us, Byt (ra ss u)) {D : Rws} (hD : Shp k n D) (hDm : ∀ t, t < k → ra D t = madeF (planF k us t) us ss n) (i : Nat) :
    codeRow k n D i = madeF (planF k us i) us ss n := by
  refine gt_ext (by rw [(madeF_len us _).1, (codeRow_ok hD i).1]) fun p _ => ?_
  rw [codeRow_gt hD, madeF_gt hul hI hlen]
  rw [sumx_cong (g := fun l => sumx (fun j => gm (gm (fac k i l) (invE (useF k us) k l j)) (gt (ra ss (gt us j)) p)) k) fun l hl => by
    rw [hDm l hl, madeF_gt hul hI hlen, sumx_mul (fun i => gm_lt)]
    exact sumx_cong fun j hj => by rw [planF_data hul hI hl hj, gm_assoc]]
  rw [sumx_swap]
  refine sumx_cong fun j hj => ?_
  rw [planF_gt hul hI i j hj, gm_sum (fun i => gm_lt)]
end
section
variable {k m : Nat} {ss : Rws}
theorem one_fill (hb : thBad k m (k + m) ss = false) (hl : (thU ss (k + m)).length = k) (hk : 1 ≤ k) (hkm : k + m ≤ 255) (hby : ∀ u, Byt (ra ss u)) {i : Nat} (hi : i < k + m) :
    fillOne k (useT k (k + m) ss) ss (lenF ss (gt (useT k (k + m) ss) 0)) i = madeF (planF k (useT k (k + m) ss) i) (useT k (k + m) ss) ss (lenF ss (gt (useT k (k + m) ss) 0)) := by
  have hf : ¬ (thU ss (k + m)).length < k := by omega
  obtain ⟨_, hul, huse⟩ := use_ok hb hf hk
  have hI := inj_useT hb hf hk hkm
  unfold fillOne
  split
  · rename_i hp
    have he : useT k (k + m) ss = thU ss (k + m) := by unfold useT; rw [List.take_of_length_le (by omega)]
    have hin : i ∈ useT k (k + m) ss := by rw [he]; unfold thU; rw [List.mem_filter, List.mem_range]; exact ⟨hi, by simpa using hp⟩
    obtain ⟨v, hv, hvi⟩ := List.mem_iff_getElem.1 hin
    have hg : gt (useT k (k + m) ss) v = i := by rw [← hvi]; unfold gt; rw [List.getD_eq_getElem?_getD, List.getElem?_eq_getElem hv]; rfl
    have := made_self hul hI (n := lenF ss (gt (useT k (k + m) ss) 0)) (fun u hu => (huse u hu).2) (fun u _ => hby u) (v := v) (by omega)
    rw [hg] at this
    exact this.symm
  · rfl
/-- All of just k rows is what the code makes of the data of them. -/
theorem one_out (hb : thBad k m (k + m) ss = false) (hl : (thU ss (k + m)).length = k) (hk : 1 ≤ k) (hkm : k + m ≤ 255) (hby : ∀ u, Byt (ra ss u)) :
    Shp k (lenF ss (gt (useT k (k + m) ss) 0)) (outF k (k + m) k ss) ∧ outF k (k + m) (k + m) ss = allR k (lenF ss (gt (useT k (k + m) ss) 0)) (outF k (k + m) k ss) (k + m) := by
  have hf : ¬ (thU ss (k + m)).length < k := by omega
  obtain ⟨_, hul, huse⟩ := use_ok hb hf hk
  have hI := inj_useT hb hf hk hkm
  have hfi := fun (i : Nat) (hi : i < k + m) => one_fill hb hl hk hkm hby hi
  have hra : ∀ t, t < k → ra (outF k (k + m) k ss) t = madeF (planF k (useT k (k + m) ss) t) (useT k (k + m) ss) ss (lenF ss (gt (useT k (k + m) ss) 0)) := fun t ht => by
    rw [← hfi t (by omega)]
    exact ra_some (by unfold outF; rw [List.getElem?_map, List.getElem?_range ht]; rfl)
  have hD : Shp k (lenF ss (gt (useT k (k + m) ss) 0)) (outF k (k + m) k ss) := by
    refine ⟨by unfold outF; simp, fun r hr => ?_⟩
    unfold outF at hr
    obtain ⟨t, ht, rfl⟩ := List.mem_map.1 hr
    rw [hfi t (by have := List.mem_range.1 ht; omega)]
    exact madeF_len _ _
  refine ⟨hD, ?_⟩
  show (List.range (k + m)).map _ = (List.range (k + m)).map _
  refine List.map_congr_left fun i hi => ?_
  have hi := List.mem_range.1 hi
  rw [hfi i hi, made_code hul hI (fun u hu => (huse u hu).2) (fun u _ => hby u) hD hra i]
theorem out_there {N nr j : Nat} (hj : j < nr) (hp : 0 < lenF ss j) : ra (outF k N nr ss) j = ra ss j := by
  refine ra_some ?_
  unfold outF
  rw [List.getElem?_map, List.getElem?_range hj]
  show some (fillOne _ _ _ _ _) = _
  unfold fillOne
  rw [if_pos hp]
theorem out_take {N nr : Nat} (h : k ≤ nr) : (outF k N nr ss).take k = outF k N k ss := by
  unfold outF
  rw [← List.map_take, List.take_range, Nat.min_eq_left h]
end
end Go.Proofs.YthhljmlpjnkfgaaGreat
