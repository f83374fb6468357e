/-
  All rows: data, and parity behind.
  Bytes as text; the page's own numbers.
  What must come at any rate.
  Too few rows: plain.
  The numbers of the rows that have bytes, as the document's page tells them.
  The document's error of any rows.
  The document's product, bit by bit, and its quotient: plain, and as they are computed.
  The document's quotient, a factor of its code, a row of it, and rows added.
  The document's rows of a code, rows added, rows times a number.
  The inverse is one from both sides; what k rows of a code give back: plain.
  What k rows of a code give back: plain.
-/
import Derived.Test.YthhljmlpjnkfgaaGreatDt6
import Derived.Lib.SlBytesConst
import Derived.Laws.BytesArg
import Derived.Test.YthhljmlpjnkfgaaGreatDt5
import Derived.Test.YthhljmlpjnkfgaaGreatDt2
set_option linter.unusedSimpArgs false
set_option linter.unusedVariables false
namespace Go.Proofs.YthhljmlpjnkfgaaGreat
open Go.RowKit Go.Cib
attribute [local go_sem] cell_set Later.cell Later.frozen Grw.cell Grw.frozen

def CalE (w : World) (k m N : Nat) (ss : Rws) (e : Ending) (w' : World) : Prop := Below w.heap.size w w' ∧
  ((goodB k N ss = false ∧ e = .returned (.tuple #[.slice none 0 0, .int .i64 2])) ∨
   (goodB k N ss = true ∧ ∃ A c, e = .returned (.tuple #[.slice A (k + m) c, .int .i64 0]) ∧ k + m ≤ c ∧ RdL RowR 1 (fun j => w.heap.size ≤ j) w' A (k + m) (ss ++ encU k ss (lenF0 ss) m)))
set_option maxRecDepth 100000 in
set_option maxHeartbeats 8000000 in
theorem call2_any {w : World} {cb b k m N cs : Nat} {As : Option Addr} {S : Nat → Prop} {ss : Rws} (H : CodAt w cb b k m) (R : RdL RowR 1 S w As N ss) (hN : N ≤ 1000) (hlen : ∀ i, (ra ss i).length ≤ 1000000) :
    Calls Tryz.prog 23 #[.pointer (some ⟨cb, 0, none⟩), .slice As N cs] w fun e w' => CalE w k m N ss e w' := by
  have HC := Lib.hid H
  have HR := Lib.hid R
  have hsl := R.1
  have hk1 := H.k1
  have hkm := H.km
  have hen := encode_any (cs := cs) H R hN (hlen 0)
  have q0 : (N : Int) ≤ 1000 := by omega
  clear H R
  go_enter Tryz.func23, Tryz.ntmps23
  go_wp2_with fail
  refine hen.mono ?_
  rintro e w1 ⟨hb1, ⟨hB, rfl⟩ | ⟨hB, Ap, cp, rfl, hrp⟩⟩
  · have HB := Lib.hid hB
    clear hB hen
    go_wp2_with fail
    go_ret2
    exact ⟨hb1, .inl ⟨HB.out, rfl⟩⟩
  · have HB := Lib.hid hB
    have hNk : N = k := by
      unfold goodB at hB
      rw [Bool.and_eq_true] at hB
      simpa using hB.1
    subst hNk
    have hal := all_any (HC.out.below hb1)
    have HP := Lib.hid hrp
    have HB1 := Lib.hid hb1
    have q1 : ((N + m : Nat) : Int) ≤ 255 := by omega
    have q2 : (0 : Int) ≤ ((N + m : Nat) : Int) := Int.natCast_nonneg _
    clear hB hen hrp
    go_wp2_with fail
    refine hal.mono ?_
    rintro e w2 ⟨rfl, hb2⟩
    have hb02 := HB1.out.trans (hb2.mono HB1.out.size)
    have hs1 := HB1.out.size
    have hs2 := hb2.size
    have hrp2 : RdL RowR 1 (fun j => w.heap.size ≤ j ∧ j < w2.heap.size) w2 Ap m (encU N ss (lenF0 ss) m) := RdL.stable RowR.stable HP.out fun b hS hlt => ⟨⟨hS, by omega⟩, hb2.block b hlt⟩
    have HP2 := Lib.hid hrp2
    have HB02 := Lib.hid hb02
    clear hal hb2 hrp2 hb02
    go_wp2_with (at_make; refine wpList_make0 RowR (fun j => w.heap.size ≤ j) sl_rows rfl rfl (base := w2.heap.size) rfl rfl (N + m) (by omega) (by omega) (by unfold maxLen; omega) (by (first | (with_reducible exact Nat.le_refl _) | omega | (simp only [World.size_alloc, World.size_setCell, World.size_drew] <;> omega))) ?_; intro y hys hown; have HO := Lib.hid hown; have HY := Lib.hid (show Below w2.heap.size w2 y.to from y.ok); clear hown hys)
    go_loopw [8, 27] (fun vs vi wr => ∃ (i : Nat) (A : Option Addr) (c : Nat), i ≤ N ∧ vi = .int .i64 i ∧ vs = .slice A i c ∧ i ≤ c ∧ Hid (OwnL RowR 29 1 w2.heap.size (fun j => w.heap.size ≤ j) wr (.slice A i c) i (ss.take i)) ∧ Hid (Below w2.heap.size w2 wr)) (fun _ vi _ => N - (intOf vi).toNat)
    case atStart => exact ⟨0, _, _, Nat.zero_le _, rfl, rfl, Nat.zero_le _, by rw [List.take_zero]; exact HO, HY⟩
    case round =>
      clear HO HY
      obtain ⟨i, A, c, hi, rfl, rfl, hc, HO, HY⟩ := hrel
      have p0 : (0 : Int) ≤ (i : Int) := Int.natCast_nonneg _
      by_cases hlt : i < N
      · have p1 : (i : Int) < (N : Int) := by omega
        have hb0r : Below w.heap.size w wr := HB02.out.trans (HY.out.mono HB02.out.size)
        obtain ⟨bb, o, rfl, _, hbb⟩ := HR.out.addr hlt
        obtain ⟨A1, m1, c1, v1, hmc1, r1⟩ := row_at HR.out hlt
        have v1' := (hb0r.cell (p := ⟨bb, o + i, none⟩) hbb).trans v1
        have r1' := r1.below ByR.stable hb0r
        have hm1l : m1 ≤ 1000000 := by have := hlen i; rw [r1.1] at this; exact this
        have hnx : ss.take (i + 1) = ss.take i ++ [ra ss i] := by rw [List.take_add_one, ra_of_lt (by omega)]; rfl
        have HNX := Lib.hid hnx
        have HR1 := Lib.hid r1'
        have hszr := hb0r.size
        have hs2r := HY.out.size
        clear hnx r1 r1' v1
        go_wp2_with (first
          | (at_builtin; refine wpList_appL ByR.stable ByR.one sl_by rfl (by exact rfl) (base := wr.heap.size) (S := fun _ => True) (n := 0) (v := .slice none 0 0) (xs := []) (by exact rfl) OwnL.nil_ (by exact rfl) HR1.out (fun _ _ h => h) (by unfold maxLen; omega) (by omega) (Nat.le_refl _) ?_; intro A3 c3 w3 hc3 hown3 hg3 hat; simp only [Nat.zero_add, List.nil_append] at hc3 hown3 ⊢; have hb3 : Below wr.heap.size wr w3 := ⟨hg3.os, hg3.tape, hg3.output, hg3.size, fun k hk => hg3.block k hk (by intro h; cases h)⟩; have hv3 := (RowV.of_own hown3).rd (S := Go.Cib.Rest (fun j => w.heap.size ≤ j) (.slice A i c)) (fun j hj => ⟨(by show _ ≤ j; omega), fun e => (by have := (HO.out.lt _ e.symm).2; omega)⟩); have HV3 := Lib.hid hv3; have HO3 := Lib.hid (HO.out.keep RowR.stable hb3); have HB3 := Lib.hid (HY.out.trans (hb3.mono HY.out.size)); have hs3 := HB3.out.size; clear hv3 hb3 hown3 hg3 hat)
          | (at_builtin; go_must (refine wpList_push1 RowR.stable RowR.one sl_rows (by rfl) (by rfl) (base := w2.heap.size) (S := fun j => w.heap.size ≤ j) (cs := #[.slice A3 m1 c3]) (y := ra ss i) (by rfl) (by rfl) HO3.out (by rfl) ⟨A3, m1, c3, rfl, hc3, HV3.out⟩ (by unfold maxLen; omega) (by omega) hs3 ?_); intro A8 c8 ug hc8 own9 hlt8 hb8 hat8; rw [← HNX.out] at own9; have HO9 := Lib.hid own9; have HB9 := Lib.hid (HB3.out.trans hb8); clear own9 hb8 hlt8 hat8))
        exact ⟨⟨i + 1, A8, c8, by omega, by go_num, rfl, hc8, HO9, HB9⟩, by simp [intOf]; omega⟩
      · have p1 : ¬ (i : Int) < (N : Int) := by omega
        obtain rfl : i = N := by omega
        rw [List.take_of_length_le (by omega)] at HO
        have hs2r := HY.out.size
        have hrest : ∀ cs y, RowR (fun j => w.heap.size ≤ j ∧ j < w2.heap.size) wr cs y → RowR (Go.Cib.Rest (fun j => w.heap.size ≤ j) (.slice A i c)) wr cs y := fun cs y h => RowR.stable _ _ _ _ _ _ h fun b hb _ => ⟨⟨hb.1, fun e => by have := (HO.out.lt _ e.symm).1; omega⟩, rfl⟩
        have hp3 := HP2.out.below RowR.stable HY.out
        have HRE := Lib.hid hrest
        have HP3 := Lib.hid hp3
        clear hrest hp3
        go_wp2_with (at_builtin; go_must (refine wpList_appL RowR.stable RowR.one sl_rows rfl (by exact rfl) (base := w2.heap.size) (S := fun j => w.heap.size ≤ j) (by exact rfl) HO.out (by exact rfl) HP3.out HRE.out (by unfold maxLen; omega) (by omega) hs2r ?_); intro A3 c3 w3 hc3 hown3 hg3 hat; have HO3 := Lib.hid hown3; have HB3 := Lib.hid (show Below w2.heap.size w2 w3 from HY.out.trans ⟨hg3.os, hg3.tape, hg3.output, (by have := hg3.size; omega), fun k hk => hg3.block k (Nat.lt_of_lt_of_le hk hs2r) (fun e => by have := (HO.out.lt _ e.symm).1; omega)⟩); clear hown3 hg3 hat)
        go_ret2
        obtain ⟨A', c', e, _, hr⟩ := HO3.out.rd (S' := fun j => w.heap.size ≤ j) (fun j hj => by omega) (fun cs x hx => RowR.stable _ _ _ _ _ _ hx fun b hb _ => ⟨hb.1, rfl⟩)
        injection e with e1 _ e2
        subst e1; subst e2
        exact ⟨HB02.out.trans (HB3.out.mono HB02.out.size), .inr ⟨HB.out, A3, c3, rfl, hc3, hr⟩⟩
end Go.Proofs.YthhljmlpjnkfgaaGreat

set_option linter.unusedSimpArgs false
set_option linter.unusedVariables false
namespace Go.Proofs.YthhljmlpjnkfgaaGreat
open Go.RowKit Go.Cib
attribute [local go_sem] cell_set Later.cell Later.frozen Grw.cell Grw.frozen

def textB (xs : List Nat) : ByteArray := strOfNums (xs.map fun x : Nat => (x : Int))
theorem by_u8 {S : Nat → Prop} {w : World} {A : Option Addr} {n : Nat} {xs : List Nat} (h : RdL ByR 1 S w A n xs) : RdL U8R 1 S w A n (xs.map fun x : Nat => (x : Int)) := by
  refine ⟨by rw [List.length_map]; exact h.1, fun hn => ?_⟩
  obtain ⟨b, o, hA, hS, hlt, hc⟩ := h.2 hn
  refine ⟨b, o, hA, hS, hlt, fun i x hx => ?_⟩
  rw [List.getElem?_map] at hx
  cases hl : xs[i]? with
  | none => rw [hl] at hx; cases hx
  | some y =>
    rw [hl] at hx
    injection hx with hx
    obtain ⟨cs, h1, ⟨_, h2⟩, h3⟩ := hc i y hl
    exact ⟨cs, h1, by rw [h2, ← hx]; rfl, h3⟩
theorem text_run {S : Nat → Prop} {w : World} {A : Option Addr} {n c : Nat} {xs : List Nat} (h0 : RdL ByR 1 S w A n xs) : (convert 29 9 (.slice A n c)).run Tryz.prog w = .ok (.string (textB xs)) w := by
  have h := by_u8 h0
  unfold textB
  generalize (xs.map fun x : Nat => (x : Int)) = bs at h ⊢
  by_cases hn : 0 < n
  · obtain ⟨b, o, rfl, _, _⟩ := h.addr hn
    refine run_convert_bytes_arg w _ 5 (by kernel_rfl) (by kernel_rfl) b o n c _ h.1 (fun i hi => ?_) _ (by kernel_rfl)
    obtain ⟨hl, cs, h1, h2, h3⟩ := h.at hi
    have := h3 0 _ (by rw [h2]; rfl)
    simp only [Nat.mul_one, Nat.add_zero] at this
    rw [this]
    simp [List.getD, hl]
  · obtain rfl : n = 0 := by omega
    have hb := List.length_eq_zero_iff.1 h.1
    rw [hb, run_convert_bytes_string w _ _ 5 _ _ _ (by kernel_rfl) (by kernel_rfl) (by kernel_rfl)]
    cases A with
    | none => simp [Conv.bytesToString]; rfl
    | some a => simp [Conv.bytesToString, loadCells, loadCellsFrom]; rfl
def par1 : List Nat := combF (rowF 2 2) [[5], [9]] [0]
theorem enc1 : encU 2 [[5], [9]] (lenF0 [[5], [9]]) 1 = [par1] := rfl
theorem out1 : outF 2 3 2 [[], [9], par1] = [[5], [9]] := by decide +kernel
theorem th1 : thU [[], [9], par1] 3 = [1, 2] := by decide +kernel
theorem bad1 : thBad 2 1 3 [[], [9], par1] = false := by decide +kernel
theorem th2 : thU [[], [9], []] 3 = [1] := by decide +kernel
theorem bad2 : thBad 2 1 3 [[], [9], []] = false := by decide +kernel
theorem srt1 : srtF [2, 1] = [1, 2] := by
  unfold srtF
  simp [List.mergeSort, List.MergeSort.Internal.splitInTwo, List.merge]
theorem us1 : usN 2 [2, 1] = [1, 2] := by unfold usN; rw [srt1]; rfl
theorem pl1 : planF 2 [1, 2] 1 = [1, 0] := by decide +kernel
theorem tx5 : textB [5] = ⟨#[5]⟩ := by decide +kernel
theorem tx9 : textB [9] = ⟨#[9]⟩ := by decide +kernel
theorem tx10 : textB [1, 0] = ⟨#[1, 0]⟩ := by decide +kernel
end Go.Proofs.YthhljmlpjnkfgaaGreat

set_option linter.unusedSimpArgs false
set_option linter.unusedVariables false
namespace Go.Proofs.YthhljmlpjnkfgaaGreat
open Go.RowKit Go.Cib
attribute [local go_sem] cell_set Later.cell Later.frozen Grw.cell Grw.frozen

/-- Two rows side by side as a slice of slices. -/
theorem rows_mk {w : World} {g : Nat} {n : Nat} {cs : Array Value} {ls : Rws} {S : Nat → Prop} (hb : BoxAt w g cs) (hl : ls.length = n) (hS : S g) (h : ∀ i, i < n → ∃ A m c, cs[i]? = some (.slice A m c) ∧ m ≤ c ∧ RdL ByR 1 S w A m (ra ls i)) : RdL RowR 1 S w (some ⟨g, 0, none⟩) n ls := by
  refine ⟨hl, fun _ => ⟨g, 0, rfl, hS, hb.lt, fun i x hx => ?_⟩⟩
  have hi : i < n := by rw [← hl]; exact (List.getElem?_eq_some_iff.1 hx).1
  obtain ⟨A, m, c, e1, e2, e3⟩ := h i hi
  rw [ra_some hx] at e3
  refine ⟨[.slice A m c], rfl, ⟨A, m, c, rfl, e2, e3⟩, fun j v hj => ?_⟩
  rcases j with _ | j
  · simp at hj; subst hj
    rw [show 0 + i * 1 + 0 = i by omega]
    exact (hb.cell i).trans e1
  · simp at hj
theorem one_by (w : World) (x : Nat) (hx : x < 256) (t : TypeId) : RdL ByR 1 (fun _ => True) (w.alloc (.cells #[.int .u8 (x : Int)] t)) (some ⟨w.heap.size, 0, none⟩) 1 [x] :=
  by_mk rfl (fun y hy => by rw [List.mem_singleton.1 hy]; exact hx) trivial (by rw [World.size_alloc]; omega) (fun k hk => by
    obtain rfl : k = 0 := by omega
    exact (BoxAt.new w _ t).cell 0)
theorem par_len : par1.length = 1 := by decide +kernel
theorem len3 : ∀ i, lenF [[], [9], par1] i ≤ 1000000 := fun i => by
  rcases i with _ | _ | _ | i
  · show 0 ≤ _; omega
  · show 1 ≤ _; omega
  · show par1.length ≤ _; rw [par_len]; omega
  · show 0 ≤ _; omega
set_option maxRecDepth 100000 in
set_option maxHeartbeats 16000000 in
theorem decodes_any {w : World} : Calls Tryz.prog 11 #[] w fun e w' => e = .returned (.bool true) ∧ Below w.heap.size w w' := by
  go_enter Tryz.func11, Tryz.ntmps11
  go_wp2_with fail
  refine fldnew_any.mono ?_
  rintro e w1 ⟨rfl, hF, hb1⟩
  have hs1 := hb1.size
  have hnew := new_any (k := 2) (m := 1) hF (by omega) (by omega) (by omega)
  have hc2 : ((2 : Nat) : Int) = 2 := rfl
  have hc1 : ((1 : Nat) : Int) = 1 := rfl
  rw [hc2, hc1] at hnew
  go_wp2_with fail
  refine hnew.mono ?_
  rintro e w2 ⟨cb, rfl, hC, hk⟩
  have hb2 : Below w.heap.size w w2 := hb1.trans (Keep.below hk hb1.size (fun k hk => by rw [hk]; exact Nat.le_refl _))
  have HC := Lib.hid hC
  have HB2 := Lib.hid hb2
  clear hF hb1 hnew hC hk hb2
  -- the two rows
  have hr5 := (one_by w2 5 (by decide) 5)
  have hr9 := (one_by (w2.alloc (.cells #[.int .u8 5] 5)) 9 (by decide) 5)
  have hba : Below w2.heap.size w2 (((w2.alloc (.cells #[.int .u8 5] 5)).alloc (.cells #[.int .u8 9] 5)).alloc (.cells #[.slice (some ⟨w2.heap.size, 0, none⟩) 1 1, .slice (some ⟨w2.heap.size + 1, 0, none⟩) 1 1] 29)) := (by repeat (first | (with_reducible exact Below.refl _ _) | (with_reducible assumption) | (with_reducible refine Below.drew ?_) | (with_reducible refine Below.setCell ?_ ?_ _) | (with_reducible refine Below.alloc ?_ ?_ _) | (with_reducible refine Below.later ?_ ?_ _) | (first | (with_reducible exact Nat.le_refl _) | omega | (simp only [World.size_alloc, World.size_setCell, World.size_drew] <;> omega))))
  have hbx := BoxAt.new ((w2.alloc (.cells #[.int .u8 5] 5)).alloc (.cells #[.int .u8 9] 5)) #[.slice (some ⟨w2.heap.size, 0, none⟩) 1 1, .slice (some ⟨w2.heap.size + 1, 0, none⟩) 1 1] 29
  replace hr5 := (hr5.alloc ByR.stable (.cells #[.int .u8 9] 5)).alloc ByR.stable (.cells #[.slice (some ⟨w2.heap.size, 0, none⟩) 1 1, .slice (some ⟨w2.heap.size + 1, 0, none⟩) 1 1] 29)
  replace hr9 := hr9.alloc ByR.stable (.cells #[.slice (some ⟨w2.heap.size, 0, none⟩) 1 1, .slice (some ⟨w2.heap.size + 1, 0, none⟩) 1 1] 29)
  simp only [World.size_alloc] at hbx hr9
  go_wp2_with fail
  generalize (((w2.alloc (.cells #[.int .u8 5] 5)).alloc (.cells #[.int .u8 9] 5)).alloc (.cells #[.slice (some ⟨w2.heap.size, 0, none⟩) 1 1, .slice (some ⟨w2.heap.size + 1, 0, none⟩) 1 1] 29)) = w3 at *
  have hls : RdL RowR 1 (fun _ => True) w3 (some ⟨w2.heap.size + 1 + 1, 0, none⟩) 2 [[5], [9]] := rows_mk hbx rfl trivial fun i hi => by
    rcases i with _ | _ | i
    · exact ⟨_, 1, 1, rfl, Nat.le_refl _, hr5⟩
    · exact ⟨_, 1, 1, rfl, Nat.le_refl _, hr9⟩
    · omega
  have hB3 := HB2.out.trans (hba.mono HB2.out.size)
  have hcall := call2_any (cs := 2) (HC.out.below hba) hls (by omega) (fun i => by
    rcases i with _ | _ | i
    · show 1 ≤ _; omega
    · show 1 ≤ _; omega
    · show 0 ≤ _; omega)
  have HB3 := Lib.hid hB3
  have HC3 := Lib.hid (HC.out.below hba)
  clear hbx hr5 hr9 hls hba hB3
  refine hcall.mono ?_
  rintro e w4 ⟨hb4, ⟨hG, _⟩ | ⟨_, A4, c4, rfl, hc4, hr4⟩⟩
  · exact absurd hG (by decide)
  have hB4 := HB3.out.trans (hb4.mono HB3.out.size)
  have hC4 := HC3.out.below hb4
  have hr4' : RdL RowR 1 (fun j => w3.heap.size ≤ j) w4 A4 3 [[5], [9], par1] := hr4
  have HB4 := Lib.hid hB4
  have HC4 := Lib.hid hC4
  have HR4 := Lib.hid hr4'
  obtain ⟨b4, o4, rfl, _, l4⟩ := hr4'.addr (k := 1) (by omega)
  obtain ⟨A1, m1, cc1, v1, hm1, r1⟩ := row_at hr4' (k := 1) (by omega)
  obtain ⟨A2, m2, cc2, v2, hm2, r2⟩ := row_at hr4' (k := 2) (by omega)
  obtain rfl : m1 = 1 := r1.1.symm
  obtain rfl : m2 = 1 := r2.1.symm.trans par_len
  have R1 : Hid (RdL ByR 1 (fun _ => True) w4 A1 1 [9]) := Lib.hid (r1.weaken ByR.stable fun _ _ => trivial)
  have R2 : Hid (RdL ByR 1 (fun _ => True) w4 A2 1 par1) := Lib.hid (r2.weaken ByR.stable fun _ _ => trivial)
  have h3 : ((2 : Nat) + 1) = 3 := rfl
  clear hcall hb4 hr4 hr4' r1 r2 hB4 hC4
  go_wp2_with fail
  have hal : Below w4.heap.size w4 (w4.alloc (.cells #[.slice none 0 0, .slice A1 1 cc1, .slice A2 1 cc2] 29)).drew := ((Below.refl _ _).alloc (Nat.le_refl _) _).drew
  have hbx := BoxAt.new w4 #[.slice none 0 0, .slice A1 1 cc1, .slice A2 1 cc2] 29
  have hls : RdL RowR 1 (fun _ => True) (w4.alloc (.cells #[.slice none 0 0, .slice A1 1 cc1, .slice A2 1 cc2] 29)).drew (some ⟨w4.heap.size, 0, none⟩) 3 [[], [9], par1] := rows_mk (cs := #[.slice none 0 0, .slice A1 1 cc1, .slice A2 1 cc2]) (hbx.keep rfl) rfl trivial fun i hi => by
    rcases i with _ | _ | _ | i
    · exact ⟨none, 0, 0, rfl, Nat.le_refl _, RdL.nil⟩
    · exact ⟨A1, 1, cc1, rfl, hm1, R1.out.below ByR.stable hal⟩
    · exact ⟨A2, 1, cc2, rfl, hm2, R2.out.below ByR.stable hal⟩
    · omega
  have hda := ddata_any (cs := 3) (HC4.out.below hal) hls (by omega) len3 (Lib.hid fun h1 h2 => inj_useT h1 h2 (by omega) (by omega))
  have HAL := Lib.hid hal
  have s1 : w4.drew.cell? ⟨b4, o4 + 1, none⟩ = some (.slice A1 1 cc1) ∧ w4.drew.cell? ⟨b4, o4 + 2, none⟩ = some (.slice A2 1 cc2) := ⟨v1, v2⟩
  have keepS : ∀ w', Below w4.drew.heap.size w4.drew w' → w'.cell? ⟨b4, o4 + 1, none⟩ = some (.slice A1 1 cc1) ∧ w'.cell? ⟨b4, o4 + 2, none⟩ = some (.slice A2 1 cc2) := fun w' h => ⟨(h.cell (p := ⟨b4, o4 + 1, none⟩) l4).trans v1, (h.cell (p := ⟨b4, o4 + 2, none⟩) l4).trans v2⟩
  have KS := Lib.hid keepS
  clear hal hbx hls keepS
  refine wp_region_held_drew (S := fun w' => w'.cell? ⟨b4, o4 + 1, none⟩ = some (.slice A1 1 cc1) ∧ w'.cell? ⟨b4, o4 + 2, none⟩ = some (.slice A2 1 cc2)) (by kernel_rfl) (by first | exact s1 | exact s2 | exact KS.out _ ((Below.refl _ _).alloc (Nat.le_refl _) _)) (fun hHeld => ?_)
  refine wpAnyH_take (i := 0) (v := ?_) rfl (by kernel_rfl) (by kernel_rfl) (by kernel_rfl) (fun _ _ _ h => h) (Or.inl ⟨by first | kernel_rfl | rfl, ?_⟩) (by assumption) ?_
  rotate_left
  · (intro wq hSw; (try dsimp only at hSw); (try simp (maxSteps := 2000000) only [List.getElem_toArray, List.getElem_cons_succ, List.getElem_cons_zero]); go_simp); try with_reducible rfl
  try simp (maxSteps := 2000000) only [List.getElem_toArray, List.getElem_cons_succ, List.getElem_cons_zero, Act.put, List.setIfInBounds_toArray, List.set_cons_zero, List.set_cons_succ]
  refine wpAnyH_take (i := 1) (v := ?_) rfl (by kernel_rfl) (by kernel_rfl) (by kernel_rfl) (fun _ _ _ h => h) (Or.inl ⟨by first | kernel_rfl | rfl, ?_⟩) (by assumption) ?_
  rotate_left
  · (intro wq hSw; (try dsimp only at hSw); (try simp (maxSteps := 2000000) only [List.getElem_toArray, List.getElem_cons_succ, List.getElem_cons_zero]); go_simp); try with_reducible rfl
  try simp (maxSteps := 2000000) only [List.getElem_toArray, List.getElem_cons_succ, List.getElem_cons_zero, Act.put, List.setIfInBounds_toArray, List.set_cons_zero, List.set_cons_succ]
  refine wpAnyH_take (i := 2) (v := ?_) rfl (by kernel_rfl) (by kernel_rfl) (by kernel_rfl) (fun _ _ _ h => h) (Or.inl ⟨by first | kernel_rfl | rfl, ?_⟩) (by assumption) ?_
  rotate_left
  · (intro wq hSw; (try dsimp only at hSw); (try simp (maxSteps := 2000000) only [List.getElem_toArray, List.getElem_cons_succ, List.getElem_cons_zero]); go_simp); try with_reducible rfl
  try simp (maxSteps := 2000000) only [List.getElem_toArray, List.getElem_cons_succ, List.getElem_cons_zero, Act.put, List.setIfInBounds_toArray, List.set_cons_zero, List.set_cons_succ]
  refine wpAnyH_take (i := 3) (v := ?_) rfl (by kernel_rfl) (by kernel_rfl) (by kernel_rfl) (fun _ _ _ h => h) (Or.inl ⟨by first | kernel_rfl | rfl, ?_⟩) (by assumption) ?_
  rotate_left
  · (intro wq hSw; (try dsimp only at hSw); (try simp (maxSteps := 2000000) only [List.getElem_toArray, List.getElem_cons_succ, List.getElem_cons_zero]); go_simp); try with_reducible rfl
  try simp (maxSteps := 2000000) only [List.getElem_toArray, List.getElem_cons_succ, List.getElem_cons_zero, Act.put, List.setIfInBounds_toArray, List.set_cons_zero, List.set_cons_succ]
  refine wpAnyH_take (i := 4) (v := ?_) rfl (by kernel_rfl) (by kernel_rfl) (by kernel_rfl) (fun _ _ _ h => h) (Or.inl ⟨by first | kernel_rfl | rfl, ?_⟩) (by assumption) ?_
  rotate_left
  · (intro wq hSw; (try dsimp only at hSw); (try simp (maxSteps := 2000000) only [List.getElem_toArray, List.getElem_cons_succ, List.getElem_cons_zero]); go_simp); try with_reducible rfl
  try simp (maxSteps := 2000000) only [List.getElem_toArray, List.getElem_cons_succ, List.getElem_cons_zero, Act.put, List.setIfInBounds_toArray, List.set_cons_zero, List.set_cons_succ]
  refine wpAnyH_take (i := 5) (v := ?_) rfl (by kernel_rfl) (by kernel_rfl) (by kernel_rfl) (fun _ _ _ h => h) (Or.inl ⟨by first | kernel_rfl | rfl, ?_⟩) (by assumption) ?_
  rotate_left
  · (intro wq hSw; (try dsimp only at hSw); (try simp (maxSteps := 2000000) only [List.getElem_toArray, List.getElem_cons_succ, List.getElem_cons_zero]); go_simp); try with_reducible rfl
  try simp (maxSteps := 2000000) only [List.getElem_toArray, List.getElem_cons_succ, List.getElem_cons_zero, Act.put, List.setIfInBounds_toArray, List.set_cons_zero, List.set_cons_succ]
  refine wpAnyH_take (i := 6) (v := ?_) rfl (by kernel_rfl) (by kernel_rfl) (by kernel_rfl) (fun _ _ _ h => h) (Or.inl ⟨by first | kernel_rfl | rfl, ?_⟩) (by assumption) ?_
  rotate_left
  · (intro wq hSw; (try dsimp only at hSw); (try simp (maxSteps := 2000000) only [List.getElem_toArray, List.getElem_cons_succ, List.getElem_cons_zero]); go_simp); try with_reducible rfl
  try simp (maxSteps := 2000000) only [List.getElem_toArray, List.getElem_cons_succ, List.getElem_cons_zero, Act.put, List.setIfInBounds_toArray, List.set_cons_zero, List.set_cons_succ]
  refine wpAnyH_ready (rs := [7]) (by kernel_rfl) (by simp) ?_
  refine AllReadyH.cons rfl (fun K hK => ?_) AllReadyH.nil
  try simp (maxSteps := 2000000) only [List.getElem_toArray, List.getElem_cons_succ, List.getElem_cons_zero]
  go_simp
  refine hK.out _ _ (by first | exact s1 | exact s2 | exact KS.out _ ((Below.refl _ _).alloc (Nat.le_refl _) _)) (fun hHeld => ?_)
  clear hK K
  try simp (maxSteps := 2000000) only [List.getElem_toArray, List.getElem_cons_succ, List.getElem_cons_zero, Act.put, List.setIfInBounds_toArray, List.set_cons_zero, List.set_cons_succ]
  refine wpAnyH_ready (rs := [8]) (by kernel_rfl) (by simp) ?_
  refine AllReadyH.cons rfl (fun K hK => ?_) AllReadyH.nil
  try simp (maxSteps := 2000000) only [List.getElem_toArray, List.getElem_cons_succ, List.getElem_cons_zero]
  go_simp
  go_at_call 17
  refine hda.mono ?_
  rintro e w5 ⟨hb5, ⟨hG, _⟩ | ⟨_, hF, _⟩ | ⟨_, _, g5, rfl, hr5⟩⟩
  · exact absurd (hG.symm.trans bad1) (by decide)
  · exact absurd hF (by rw [th1]; decide)
  rw [out1] at hr5
  have hb45 := HAL.out.trans (hb5.mono HAL.out.size)
  have s2 := KS.out w5 ((Below.refl w4.drew.heap.size w4).drew |> fun _ => ⟨hb45.os, hb45.tape, hb45.output, hb45.size, hb45.block⟩)
  have HB5 := Lib.hid (HB4.out.trans (hb45.mono HB4.out.size))
  have HC5 := Lib.hid (HC4.out.below hb45)
  have HR5 := Lib.hid (hr5.weaken RowR.stable (S' := fun _ => True) fun _ _ => trivial)
  have H45 := Lib.hid hb45
  clear hda hb5 hr5 hb45
  try (go_wp2_with fail)
  refine hK.out _ _ (by first | exact s1 | exact s2 | exact KS.out _ ((Below.refl _ _).alloc (Nat.le_refl _) _)) (fun hHeld => ?_)
  clear hK K
  try simp (maxSteps := 2000000) only [List.getElem_toArray, List.getElem_cons_succ, List.getElem_cons_zero, Act.put, List.setIfInBounds_toArray, List.set_cons_zero, List.set_cons_succ]
  refine wpAnyH_take (i := 9) (v := ?_) rfl (by kernel_rfl) (by kernel_rfl) (by kernel_rfl) (fun _ _ _ h => h) (Or.inl ⟨by first | kernel_rfl | rfl, ?_⟩) (by assumption) ?_
  rotate_left
  · (intro wq hSw; (try dsimp only at hSw); (try simp (maxSteps := 2000000) only [List.getElem_toArray, List.getElem_cons_succ, List.getElem_cons_zero]); go_simp); try with_reducible rfl
  try simp (maxSteps := 2000000) only [List.getElem_toArray, List.getElem_cons_succ, List.getElem_cons_zero, Act.put, List.setIfInBounds_toArray, List.set_cons_zero, List.set_cons_succ]
  refine wpAnyH_take (i := 10) (v := ?_) rfl (by kernel_rfl) (by kernel_rfl) (by kernel_rfl) (fun _ _ _ h => h) (Or.inl ⟨by first | kernel_rfl | rfl, ?_⟩) (by assumption) ?_
  rotate_left
  · (intro wq hSw; (try dsimp only at hSw); (try simp (maxSteps := 2000000) only [List.getElem_toArray, List.getElem_cons_succ, List.getElem_cons_zero]); go_simp); try with_reducible rfl
  try simp (maxSteps := 2000000) only [List.getElem_toArray, List.getElem_cons_succ, List.getElem_cons_zero, Act.put, List.setIfInBounds_toArray, List.set_cons_zero, List.set_cons_succ]
  refine wpAnyH_take (i := 11) (v := ?_) rfl (by kernel_rfl) (by kernel_rfl) (by kernel_rfl) (fun _ _ _ h => h) (Or.inl ⟨by first | kernel_rfl | rfl, ?_⟩) (by assumption) ?_
  rotate_left
  · (intro wq hSw; (try dsimp only at hSw); (try simp (maxSteps := 2000000) only [List.getElem_toArray, List.getElem_cons_succ, List.getElem_cons_zero]); go_simp); try with_reducible rfl
  try simp (maxSteps := 2000000) only [List.getElem_toArray, List.getElem_cons_succ, List.getElem_cons_zero, Act.put, List.setIfInBounds_toArray, List.set_cons_zero, List.set_cons_succ]
  refine wpAnyH_take (i := 12) (v := ?_) rfl (by kernel_rfl) (by kernel_rfl) (by kernel_rfl) (fun _ _ _ h => h) (Or.inl ⟨by first | kernel_rfl | rfl, ?_⟩) (by assumption) ?_
  rotate_left
  · (intro wq hSw; (try dsimp only at hSw); (try simp (maxSteps := 2000000) only [List.getElem_toArray, List.getElem_cons_succ, List.getElem_cons_zero]); go_simp); try with_reducible rfl
  try simp (maxSteps := 2000000) only [List.getElem_toArray, List.getElem_cons_succ, List.getElem_cons_zero, Act.put, List.setIfInBounds_toArray, List.set_cons_zero, List.set_cons_succ]
  refine wpAnyH_take (i := 13) (v := ?_) rfl (by kernel_rfl) (by kernel_rfl) (by kernel_rfl) (fun _ _ _ h => h) (Or.inl ⟨by first | kernel_rfl | rfl, ?_⟩) (by assumption) ?_
  rotate_left
  · (intro wq hSw; (try dsimp only at hSw); (try simp (maxSteps := 2000000) only [List.getElem_toArray, List.getElem_cons_succ, List.getElem_cons_zero]); go_simp); try with_reducible rfl
  try simp (maxSteps := 2000000) only [List.getElem_toArray, List.getElem_cons_succ, List.getElem_cons_zero, Act.put, List.setIfInBounds_toArray, List.set_cons_zero, List.set_cons_succ]
  refine wpAnyH_done (by kernel_rfl) ?_ _
  have v5 := hHeld.1
  have hbx := BoxAt.new w5 #[.slice none 0 0, .slice A1 1 cc1, .slice none 0 0] 29
  have hal : Below w5.heap.size w5 (w5.alloc (.cells #[.slice none 0 0, .slice A1 1 cc1, .slice none 0 0] 29)) := (Below.refl _ _).alloc (Nat.le_refl _) _
  clear hHeld s1 s2
  go_wp2_with fail
  generalize (w5.alloc (.cells #[.slice none 0 0, .slice A1 1 cc1, .slice none 0 0] 29)) = w6 at *
  have hls : RdL RowR 1 (fun _ => True) w6 (some ⟨w5.heap.size, 0, none⟩) 3 [[], [9], []] := rows_mk hbx rfl trivial fun i hi => by
    rcases i with _ | _ | _ | i
    · exact ⟨none, 0, 0, rfl, Nat.le_refl _, RdL.nil⟩
    · exact ⟨A1, 1, cc1, rfl, hm1, (R1.out.below ByR.stable H45.out).below ByR.stable hal⟩
    · exact ⟨none, 0, 0, rfl, Nat.le_refl _, RdL.nil⟩
    · omega
  have hda := ddata_any (cs := 3) (HC5.out.below hal) hls (by omega) (fun i => by
    rcases i with _ | _ | _ | i
    · show 0 ≤ _; omega
    · show 1 ≤ _; omega
    · show 0 ≤ _; omega
    · show 0 ≤ _; omega) (Lib.hid fun h1 h2 => inj_useT h1 h2 (by omega) (by omega))
  have HAL2 := Lib.hid hal
  clear hbx hal hls v5
  refine hda.mono ?_
  rintro e w7 ⟨hb7, ⟨hG, _⟩ | ⟨_, _, rfl⟩ | ⟨_, hF, _⟩⟩
  · exact absurd (hG.symm.trans bad2) (by decide)
  rotate_left
  · exact absurd (show (thU [[], [9], []] 3).length < 2 by rw [th2]; decide) hF
  have hb57 := HAL2.out.trans (hb7.mono HAL2.out.size)
  have HB7 := Lib.hid (HB5.out.trans (hb57.mono HB5.out.size))
  have HC7 := Lib.hid (HC5.out.below hb57)
  have HR7 := Lib.hid (HR5.out.below RowR.stable hb57)
  clear hda hb7 hb57
  have hbi := BoxAt.new w7 #[.int .i64 2, .int .i64 1] 3
  have hal : Below w7.heap.size w7 (w7.alloc (.cells #[.int .i64 2, .int .i64 1] 3)) := (Below.refl _ _).alloc (Nat.le_refl _) _
  go_wp2_with fail
  generalize (w7.alloc (.cells #[.int .i64 2, .int .i64 1] 3)) = w8 at *
  have hli : RdL IntR 1 (fun _ => True) w8 (some ⟨w7.heap.size, 0, none⟩) 2 [2, 1] := ⟨rfl, fun _ => ⟨w7.heap.size, 0, rfl, trivial, hbi.lt, fun i x hx => by
    rcases i with _ | _ | i
    · simp at hx; subst hx
      refine ⟨[.int .i64 2], rfl, rfl, fun j v hj => ?_⟩
      rcases j with _ | j
      · simp at hj; subst hj; exact hbi.cell 0
      · simp at hj
    · simp at hx; subst hx
      refine ⟨[.int .i64 1], rfl, rfl, fun j v hj => ?_⟩
      rcases j with _ | j
      · simp at hj; subst hj; exact hbi.cell 1
      · simp at hj
    · simp at hx⟩⟩
  have hnb : ¬ badP 2 1 [2, 1] 1 := by decide
  have hdp := dplan_any (c := 2) (want := 1) (HC7.out.below hal) hli (by omega) (Lib.hid fun h1 h2 => inj_usN (m := 1) (Classical.byContradiction fun h3 => h1 (.inr (.inr h3))) (by show 2 ≤ 2; omega) (by omega))
  have HAL3 := Lib.hid hal
  clear hbi hal hli
  refine hdp.mono ?_
  rintro e w9 ⟨hb9, ⟨hG, _⟩ | ⟨_, hF, _⟩ | ⟨_, _, A9, c9, A10, c10, rfl, hr9, hr10⟩⟩
  · exact absurd hG hnb
  · exact absurd hF (by omega)
  rw [us1] at hr9
  have hpl : planF 2 (usN 2 [2, 1]) (1 : Int).toNat = [1, 0] := by rw [us1]; exact pl1
  rw [hpl] at hr10
  have hb79 := HAL3.out.trans (hb9.mono HAL3.out.size)
  have HB9 := Lib.hid (HB7.out.trans (hb79.mono HB7.out.size))
  have hr7 := HR7.out.below RowR.stable hb79
  obtain ⟨D0, m0, cd0, d0, _, t0⟩ := row_at hr7 (k := 0) (by omega)
  obtain ⟨D1, n1, cd1, d1, _, t1⟩ := row_at hr7 (k := 1) (by omega)
  rw [Nat.zero_add] at d0 d1
  have x0 := text_run (c := cd0) (show RdL ByR 1 (fun _ => True) w9 D0 m0 [5] from t0)
  have x1 := text_run (c := cd1) (show RdL ByR 1 (fun _ => True) w9 D1 n1 [9] from t1)
  have x10 := text_run (c := c10) hr10
  rw [tx5] at x0
  rw [tx9] at x1
  rw [tx10] at x10
  obtain ⟨b9, o9, rfl, _, _⟩ := hr9.addr (k := 0) (by omega)
  have e0 := nat_at hr9 (k := 0) (by omega)
  have e1 := nat_at hr9 (k := 1) (by omega)
  rw [Nat.add_zero] at e0
  replace e0 : w9.cell? ⟨b9, o9, none⟩ = some (.int .i64 1) := e0
  replace e1 : w9.cell? ⟨b9, o9 + 1, none⟩ = some (.int .i64 2) := e1
  clear hdp hb9 hr9 hr10 hb79 hr7 t0 t1 hpl hnb
  go_wp2_with fail
  go_ret
  exact ⟨by simp, HB9.out⟩
end Go.Proofs.YthhljmlpjnkfgaaGreat

set_option linter.unusedSimpArgs false
set_option linter.unusedVariables false
namespace Go.Proofs.YthhljmlpjnkfgaaGreat
open Go.RowKit Go.Cib
attribute [local go_sem] cell_set Later.cell Later.frozen Grw.cell Grw.frozen

theorem cnt_put (p q : Nat → Bool) (a : Nat) : ∀ N, a < N → (∀ j, j ≠ a → q j = p j) → p a = false → q a = true → ((List.range N).filter q).length = ((List.range N).filter p).length + 1 := by
  intro N
  induction N with
  | zero => intro h; omega
  | succ N ih =>
    intro h he h0 h1
    rw [List.range_succ, List.filter_append, List.filter_append, List.length_append, List.length_append]
    by_cases haN : a = N
    · subst haN
      have : (List.range a).filter q = (List.range a).filter p := List.filter_congr fun j hj => he j (by have := List.mem_range.1 hj; omega)
      rw [this]
      simp [h0, h1]
    · rw [ih (by omega) he h0 h1]
      have : [N].filter q = [N].filter p := List.filter_congr fun j hj => he j (by have := List.mem_singleton.1 hj; omega)
      rw [this]; omega
structure FewI (row : List Nat) (N i c : Nat) (rows : Rws) : Prop where
  len : rows.length = N
  one : ∀ j, ra rows j = [] ∨ ra rows j = row
  cnt : c = (thU rows N).length
  le : c ≤ i
theorem ra_put {rows : Rws} {a : Nat} {row : List Nat} (h : a < rows.length) (j : Nat) : ra (rows.set a row) j = if j = a then row else ra rows j := by
  by_cases hj : j < rows.length
  · exact ra_set _ _ _ hj
  · rw [if_neg (by omega)]
    unfold ra
    rw [List.getD_eq_getElem?_getD, List.getD_eq_getElem?_getD, List.getElem?_eq_none (by simp; omega), List.getElem?_eq_none (by omega)]
theorem FewI.zero (row : List Nat) (N : Nat) : FewI row N 0 0 (List.replicate N []) where
  len := by simp
  one j := by
    left
    unfold ra
    rw [List.getD_eq_getElem?_getD, List.getElem?_replicate]
    split <;> rfl
  cnt := by
    unfold thU
    rw [List.filter_eq_nil_iff.2]
    · rfl
    · intro j hj
      have : lenF (List.replicate N []) j = 0 := by
        unfold lenF ra
        rw [List.getD_eq_getElem?_getD, List.getElem?_replicate]
        split <;> rfl
      simp [this]
  le := Nat.le_refl _
section
variable {row : List Nat} {N i cnt a : Nat} {rows : Rws}
theorem FewI.put (h : FewI row N i cnt rows) (ha : a < N) (hr : 0 < row.length) (he : (ra rows a).length = 0) : FewI row N (i + 1) (cnt + 1) (rows.set a row) := by
  have hal : a < rows.length := by rw [h.len]; exact ha
  refine ⟨by rw [List.length_set, h.len], fun j => ?_, ?_, by have := h.le; omega⟩
  · rw [ra_put hal]; split
    · exact .inr rfl
    · exact h.one j
  · rw [h.cnt]
    unfold thU
    rw [cnt_put (fun j => decide (0 < lenF rows j)) (fun j => decide (0 < lenF (rows.set a row) j)) a N ha]
    · intro j hj
      unfold lenF
      rw [ra_put hal, if_neg hj]
    · unfold lenF; simp [he]
    · unfold lenF
      rw [ra_put hal, if_pos rfl]; simp [hr]
theorem FewI.again (h : FewI row N i cnt rows) (ha : a < N) (hr : 0 < row.length) (he : ¬ (ra rows a).length = 0) : FewI row N (i + 1) cnt (rows.set a row) := by
  have hal : a < rows.length := by rw [h.len]; exact ha
  refine ⟨by rw [List.length_set, h.len], fun j => ?_, ?_, by have := h.le; omega⟩
  · rw [ra_put hal]; split
    · exact .inr rfl
    · exact h.one j
  · rw [h.cnt]
    unfold thU
    congr 1
    refine List.filter_congr fun j _ => ?_
    unfold lenF
    rw [ra_put hal]
    by_cases hj : j = a
    · subst hj
      rw [if_pos rfl]; simp; omega
    · rw [if_neg hj]
theorem FewI.lenF (h : FewI row N i cnt rows) (j : Nat) : lenF rows j = 0 ∨ lenF rows j = row.length := by
  unfold Go.Proofs.YthhljmlpjnkfgaaGreat.lenF
  rcases h.one j with h | h
  · rw [h]; exact .inl rfl
  · rw [h]; exact .inr rfl
theorem FewI.bad {k m : Nat} (h : FewI row (k + m) i cnt rows) : thBad k m (k + m) rows = false := by
  unfold thBad
  rw [Bool.or_eq_false_iff]
  refine ⟨by simp, List.any_eq_false.2 fun u hu => ?_⟩
  have hu2 := (thU_mem hu).2
  have hg : gt (thU rows (k + m)) 0 ∈ thU rows (k + m) := gt_mem (List.length_pos_of_mem hu)
  have hg2 := (thU_mem hg).2
  unfold oddB
  rcases h.lenF u with e | e
  · omega
  · rcases h.lenF (gt (thU rows (k + m)) 0) with e2 | e2
    · omega
    · simp [e, e2]
end
theorem bad_short {k m N : Nat} {rows : Rws} (h : N ≠ k + m) : thBad k m N rows = true := by unfold thBad; rw [decide_eq_true h, Bool.true_or]
theorem lenF_take (rows : Rws) (n j : Nat) : lenF (rows.take n) j ≤ lenF rows j := by
  unfold lenF ra
  rw [List.getD_eq_getElem?_getD, List.getD_eq_getElem?_getD, List.getElem?_take]
  split
  · exact Nat.le_refl _
  · exact Nat.zero_le _
/-- A clamped number. -/
theorem clamp {x N : Int} (h : 1 ≤ N) : ∃ a : Nat, max 0 (min x (N - 1)) = (a : Int) ∧ (a : Int) < N := ⟨(max 0 (min x (N - 1))).toNat, by omega, by omega⟩
end Go.Proofs.YthhljmlpjnkfgaaGreat

set_option linter.unusedSimpArgs false
set_option linter.unusedVariables false
namespace Go.Proofs.YthhljmlpjnkfgaaGreat
open Go.RowKit Go.Cib
attribute [local go_sem] cell_set Later.cell Later.frozen Grw.cell Grw.frozen
set_option maxRecDepth 100000 in
set_option maxHeartbeats 8000000 in
theorem rthere_any {w : World} {n c : Nat} {A : Option Addr} {S : Nat → Prop} {ss : Rws} (R : RdL RowR 1 S w A n ss) (hn : n ≤ 1000) :
    Calls Tryz.prog 22 #[.slice A n c] w fun e w' => ∃ A' c', e = .returned (.slice A' (thU ss n).length c') ∧ (thU ss n).length ≤ c' ∧ RdL NatR 1 (fun j => w.heap.size ≤ j) w' A' (thU ss n).length (thU ss n) ∧ Below w.heap.size w w' := by
  have HR := Lib.hid R
  clear R
  have q1 : (n : Int) ≤ 1000 := by omega
  go_enter Tryz.func22, Tryz.ntmps22
  go_wp2_with fail
  go_loopw [3, 4] (fun vl vi wr => ∃ (i t : Nat) (A : Option Addr) (c : Nat), i ≤ n ∧ vi = .int .i64 i ∧ vl = .slice A t c ∧ Hid (t ≤ c) ∧ Hid (t = (thU ss i).length) ∧ Hid (OwnL NatR 3 1 w.heap.size (fun _ => True) wr (.slice A t c) t (thU ss i)) ∧ Hid (Below w.heap.size w wr)) (fun _ vi _ => n - (intOf vi).toNat)
  case atStart => exact ⟨0, 0, none, 0, Nat.zero_le _, rfl, rfl, Lib.hid (Nat.le_refl _), Lib.hid rfl, Lib.hid (by exact OwnL.nil_), Lib.hid (Below.refl _ _)⟩
  case round =>
    obtain ⟨i, t, AO, cO, hi, rfl, rfl, HC, HT, HO, HB⟩ := hrel
    have p0 : (0 : Int) ≤ (i : Int) := Int.natCast_nonneg _
    have hul := thU_len ss i
    have ht : t ≤ 1000 := by have := HT.out; omega
    by_cases hlt : i < n
    · have p1 : (i : Int) < (n : Int) := by omega
      obtain ⟨ba, oa, rfl, _, hba⟩ := HR.out.addr hlt
      obtain ⟨A1, m1, c1, v1, _, r1⟩ := row_at HR.out hlt
      have v1' := (HB.out.cell (p := ⟨ba, oa + i, none⟩) hba).trans v1
      have hm1 : lenF ss i = m1 := r1.1
      have hszr := HB.out.size
      clear v1 r1 hlt
      by_cases hp : 0 < m1
      · have p2 : (m1 : Int) > 0 := by omega
        have HY := Lib.hid (thU_yes (ss := ss) (i := i) (by omega))
        clear hm1
        go_wp2_with (at_builtin; go_must (refine wpList_push1 NatR.stable NatR.one sl_in (by rfl) (by rfl) (base := w.heap.size) (S := fun _ => True) (cs := #[.int .i64 (i : Int)]) (y := i) (by rfl) (by rfl) HO.out (by rfl) (show NatR _ _ [.int .i64 (i : Int)] i from rfl) (by unfold maxLen; omega) (by omega) hszr ?_); intro A8 c8 ug hc8 own9 hlt8 hb8 hat8; rw [← HY.out] at own9; have HO9 := Lib.hid own9; have HB9 := Lib.hid (HB.out.trans hb8); clear own9 hb8 hlt8 hat8)
        exact ⟨⟨i + 1, t + 1, A8, c8, by omega, by go_num, rfl, Lib.hid hc8, Lib.hid (by rw [HY.out, List.length_append, ← HT.out]; rfl), HO9, HB9⟩, by simp [intOf]; omega⟩
      · have p2 : ¬ (m1 : Int) > 0 := by omega
        have HY := Lib.hid (thU_no (ss := ss) (i := i) (by omega))
        clear hm1
        rw [← HY.out] at HT HO
        go_wp2_with fail
        exact ⟨⟨i + 1, t, AO, cO, by omega, by go_num, rfl, HC, HT, HO, HB⟩, by simp [intOf]; omega⟩
    · have p1 : ¬ (i : Int) < (n : Int) := by omega
      obtain rfl : i = n := by omega
      go_wp2_with fail
      go_ret
      obtain ⟨A', c', e, _, hr⟩ := HO.out.rd (S' := fun j => w.heap.size ≤ j) (fun j hj => hj) (fun cs x hx => hx)
      injection e with e1 _ e2
      subst e1; subst e2
      have h0 := HT.out
      subst h0
      exact ⟨AO, cO, rfl, HC.out, hr, HB.out⟩
end Go.Proofs.YthhljmlpjnkfgaaGreat

set_option linter.unusedSimpArgs false
set_option linter.unusedVariables false
namespace Go.Proofs.YthhljmlpjnkfgaaGreat
open Go.RowKit Go.Cib
attribute [local go_sem] cell_set Later.cell Later.frozen Grw.cell Grw.frozen
def rightF (k m N : Nat) (ss : Rws) : Int := if thBad k m N ss = true then 2 else if (thU ss N).length < k then 60 else 0
theorem gtI_at {l : List Nat} {i : Nat} (h : i < l.length) : gt l i ∈ l := gt_mem h
set_option maxRecDepth 100000 in
set_option maxHeartbeats 8000000 in
theorem right_any {w : World} {k m N c : Nat} {A : Option Addr} {S : Nat → Prop} {ss : Rws} (R : RdL RowR 1 S w A N ss) (hN : N ≤ 1000) (hk : k ≤ 255) (hm : m ≤ 255) :
    Calls Tryz.prog 38 #[.int .i64 (k : Int), .int .i64 (m : Int), .slice A N c] w fun e w' => e = .returned (.int .i64 (rightF k m N ss)) ∧ Below w.heap.size w w' := by
  have HR := Lib.hid R
  have hth := rthere_any (c := c) R hN
  have hul := thU_len ss N
  clear R
  have q0 : (N : Int) ≤ 1000 := by omega
  have q1 : (k : Int) ≤ 255 := by omega
  have q2 : (m : Int) ≤ 255 := by omega
  have q3 : (0 : Int) ≤ (k : Int) := Int.natCast_nonneg _
  have q4 : (0 : Int) ≤ (m : Int) := Int.natCast_nonneg _
  go_enter Tryz.func38, Tryz.ntmps38
  go_wp2_with fail
  refine hth.mono ?_
  clear hth
  rintro e w1 ⟨A1, c1, rfl, hc1, hr1, hb1⟩
  by_cases hn : N = k + m
  · have p1 : ((N : Int) != (k : Int) + (m : Int)) = false := by simp; omega
    have HR1 := Lib.hid (HR.out.below RowR.stable hb1)
    have HU := Lib.hid hr1
    have HB1 := Lib.hid hb1
    obtain ⟨t, ht⟩ : ∃ t, (thU ss N).length = t := ⟨_, rfl⟩
    have HT := Lib.hid ht
    rw [ht] at hul HU ⊢
    have p2 : (t : Int) ≤ 1000 := by omega
    have HNK := Lib.hid hn
    clear hr1 hb1 ht hn hc1
    go_wp2_with fail
    obtain ⟨wo, rfl⟩ : ∃ wo, wo = w1 := ⟨_, rfl⟩
    go_loopw [8] (fun vi wr => ∃ i : Nat, i ≤ t ∧ vi = .int .i64 i ∧ Hid (∀ p, p < i → lenF ss (gt (thU ss N) p) = lenF ss (gt (thU ss N) 0)) ∧ Hid (Below wo.heap.size wo wr)) (fun vi _ => t - (intOf vi).toNat)
    case atStart => exact ⟨0, Nat.zero_le _, rfl, Lib.hid fun p h => by omega, Lib.hid (Below.refl _ _)⟩
    case round =>
      obtain ⟨wq, rfl⟩ : ∃ wq, wq = wr := ⟨_, rfl⟩
      obtain ⟨i, hi, rfl, HP, HB⟩ := hrel
      have p0 : (0 : Int) ≤ (i : Int) := Int.natCast_nonneg _
      by_cases hlt : i < t
      · have p3 : (i : Int) < (t : Int) := by omega
        have p4 : (0 : Int) < (t : Int) := by omega
        have p41 : 0 < t := by omega
        have p42 : i < t := hlt
        obtain ⟨b1, o1, rfl, _, hb1⟩ := HU.out.addr hlt
        have v1 := nat_at HU.out hlt
        have v0 := nat_at HU.out (k := 0) (by omega)
        rw [Nat.add_zero] at v0
        obtain ⟨hu1, hu2⟩ := thU_mem (gt_mem (l := thU ss N) (i := i) (by rw [HT.out]; exact hlt))
        obtain ⟨hz1, hz2⟩ := thU_mem (gt_mem (l := thU ss N) (i := 0) (by rw [HT.out]; omega))
        obtain ⟨u, hu⟩ : ∃ u, gt (thU ss N) i = u := ⟨_, rfl⟩
        obtain ⟨z, hz⟩ : ∃ z, gt (thU ss N) 0 = z := ⟨_, rfl⟩
        rw [hu] at v1 hu1
        rw [hz] at v0 hz1
        have p5 : (0 : Int) ≤ (u : Int) := Int.natCast_nonneg _
        have p6 : (u : Int) < (N : Int) := by omega
        have p7 : (0 : Int) ≤ (z : Int) := Int.natCast_nonneg _
        have p8 : (z : Int) < (N : Int) := by omega
        have p81 : u < N := hu1
        have p82 : z < N := hz1
        obtain ⟨ba, oa, rfl, _, hba⟩ := HR1.out.addr hu1
        obtain ⟨A3, m3, c3, v3, _, r3⟩ := row_at HR1.out hu1
        obtain ⟨A4, m4, c4, v4, _, r4⟩ := row_at HR1.out hz1
        have hm3 : lenF ss u = m3 := r3.1
        have hm4 : lenF ss z = m4 := r4.1
        have v1' := fun w' (h : Below wq.heap.size wq w') => ((HB.out.trans (h.mono HB.out.size)).cell (p := ⟨b1, o1 + i, none⟩) hb1).trans v1
        have v0' := fun w' (h : Below wq.heap.size wq w') => ((HB.out.trans (h.mono HB.out.size)).cell (p := ⟨b1, o1, none⟩) hb1).trans v0
        have v3' := fun w' (h : Below wq.heap.size wq w') => ((HB.out.trans (h.mono HB.out.size)).cell (p := ⟨ba, oa + u, none⟩) hba).trans v3
        have v4' := fun w' (h : Below wq.heap.size wq w') => ((HB.out.trans (h.mono HB.out.size)).cell (p := ⟨ba, oa + z, none⟩) hba).trans v4
        by_cases he : m3 = m4
        · have p9 : ((m3 : Int) != (m4 : Int)) = false := by rw [he]; simp
          have HP2 := Lib.hid (show ∀ p, p < i + 1 → lenF ss (gt (thU ss N) p) = lenF ss (gt (thU ss N) 0) from fun p hp => by
            by_cases e : p = i
            · rw [e, hu, hz, hm3, hm4, he]
            · exact HP.out p (by omega))
          clear v1 v0 v3 v4 r3 r4 hm3 hm4 hu hz hlt he hu1 hz1 hu2 hz2
          go_wp2_with fail
          refine wp_region_held_drew (S := fun w' => Below wq.heap.size wq w') (by kernel_rfl) (by first | assumption | exact Below.refl _ _ | exact (Below.refl _ _).drew) (fun hHeld => ?_)
          refine wpAnyH_take (i := 0) (v := ?_) rfl (by kernel_rfl) (by kernel_rfl) (by kernel_rfl) (fun _ _ _ h => h) (Or.inl ⟨by first | kernel_rfl | rfl, ?_⟩) (by assumption) ?_
          rotate_left
          · (intro wq hSw; (try dsimp only at hSw); (try simp (maxSteps := 2000000) only [List.getElem_toArray, List.getElem_cons_succ, List.getElem_cons_zero]); go_simp); try with_reducible rfl
          try simp (maxSteps := 2000000) only [List.getElem_toArray, List.getElem_cons_succ, List.getElem_cons_zero, Act.put, List.setIfInBounds_toArray, List.set_cons_zero, List.set_cons_succ]
          refine wpAnyH_take (i := 1) (v := ?_) rfl (by kernel_rfl) (by kernel_rfl) (by kernel_rfl) (fun _ _ _ h => h) (Or.inl ⟨by first | kernel_rfl | rfl, ?_⟩) (by assumption) ?_
          rotate_left
          · (intro wq hSw; (try dsimp only at hSw); (try simp (maxSteps := 2000000) only [List.getElem_toArray, List.getElem_cons_succ, List.getElem_cons_zero]); go_simp); try with_reducible rfl
          try simp (maxSteps := 2000000) only [List.getElem_toArray, List.getElem_cons_succ, List.getElem_cons_zero, Act.put, List.setIfInBounds_toArray, List.set_cons_zero, List.set_cons_succ]
          refine wpAnyH_take (i := 2) (v := ?_) rfl (by kernel_rfl) (by kernel_rfl) (by kernel_rfl) (fun _ _ _ h => h) (Or.inl ⟨by first | kernel_rfl | rfl, ?_⟩) (by assumption) ?_
          rotate_left
          · (intro wq hSw; (try dsimp only at hSw); (try simp (maxSteps := 2000000) only [List.getElem_toArray, List.getElem_cons_succ, List.getElem_cons_zero]); go_simp); try with_reducible rfl
          try simp (maxSteps := 2000000) only [List.getElem_toArray, List.getElem_cons_succ, List.getElem_cons_zero, Act.put, List.setIfInBounds_toArray, List.set_cons_zero, List.set_cons_succ]
          refine wpAnyH_take (i := 3) (v := ?_) rfl (by kernel_rfl) (by kernel_rfl) (by kernel_rfl) (fun _ _ _ h => h) (Or.inl ⟨by first | kernel_rfl | rfl, ?_⟩) (by assumption) ?_
          rotate_left
          · (intro wq hSw; (try dsimp only at hSw); (try simp (maxSteps := 2000000) only [List.getElem_toArray, List.getElem_cons_succ, List.getElem_cons_zero]); go_simp); try with_reducible rfl
          try simp (maxSteps := 2000000) only [List.getElem_toArray, List.getElem_cons_succ, List.getElem_cons_zero, Act.put, List.setIfInBounds_toArray, List.set_cons_zero, List.set_cons_succ]
          refine wpAnyH_take (i := 4) (v := ?_) rfl (by kernel_rfl) (by kernel_rfl) (by kernel_rfl) (fun _ _ _ h => h) (Or.inl ⟨by first | kernel_rfl | rfl, ?_⟩) (by assumption) ?_
          rotate_left
          · (intro wq hSw; (try dsimp only at hSw); (try simp (maxSteps := 2000000) only [List.getElem_toArray, List.getElem_cons_succ, List.getElem_cons_zero]); go_simp); try with_reducible rfl
          try simp (maxSteps := 2000000) only [List.getElem_toArray, List.getElem_cons_succ, List.getElem_cons_zero, Act.put, List.setIfInBounds_toArray, List.set_cons_zero, List.set_cons_succ]
          refine wpAnyH_take (i := 5) (v := ?_) rfl (by kernel_rfl) (by kernel_rfl) (by kernel_rfl) (fun _ _ _ h => h) (Or.inl ⟨by first | kernel_rfl | rfl, ?_⟩) (by assumption) ?_
          rotate_left
          · (intro wq hSw; (try dsimp only at hSw); (try simp (maxSteps := 2000000) only [List.getElem_toArray, List.getElem_cons_succ, List.getElem_cons_zero]); go_simp); try with_reducible rfl
          try simp (maxSteps := 2000000) only [List.getElem_toArray, List.getElem_cons_succ, List.getElem_cons_zero, Act.put, List.setIfInBounds_toArray, List.set_cons_zero, List.set_cons_succ]
          refine wpAnyH_take (i := 6) (v := ?_) rfl (by kernel_rfl) (by kernel_rfl) (by kernel_rfl) (fun _ _ _ h => h) (Or.inl ⟨by first | kernel_rfl | rfl, ?_⟩) (by assumption) ?_
          rotate_left
          · (intro wq hSw; (try dsimp only at hSw); (try simp (maxSteps := 2000000) only [List.getElem_toArray, List.getElem_cons_succ, List.getElem_cons_zero]); go_simp); try with_reducible rfl
          try simp (maxSteps := 2000000) only [List.getElem_toArray, List.getElem_cons_succ, List.getElem_cons_zero, Act.put, List.setIfInBounds_toArray, List.set_cons_zero, List.set_cons_succ]
          refine wpAnyH_take (i := 7) (v := ?_) rfl (by kernel_rfl) (by kernel_rfl) (by kernel_rfl) (fun _ _ _ h => h) (Or.inl ⟨by first | kernel_rfl | rfl, ?_⟩) (by assumption) ?_
          rotate_left
          · (intro wq hSw; (try dsimp only at hSw); (try simp (maxSteps := 2000000) only [List.getElem_toArray, List.getElem_cons_succ, List.getElem_cons_zero]); go_simp); try with_reducible rfl
          try simp (maxSteps := 2000000) only [List.getElem_toArray, List.getElem_cons_succ, List.getElem_cons_zero, Act.put, List.setIfInBounds_toArray, List.set_cons_zero, List.set_cons_succ]
          refine wpAnyH_take (i := 8) (v := ?_) rfl (by kernel_rfl) (by kernel_rfl) (by kernel_rfl) (fun _ _ _ h => h) (Or.inl ⟨by first | kernel_rfl | rfl, ?_⟩) (by assumption) ?_
          rotate_left
          · (intro wq hSw; (try dsimp only at hSw); (try simp (maxSteps := 2000000) only [List.getElem_toArray, List.getElem_cons_succ, List.getElem_cons_zero]); go_simp); try with_reducible rfl
          try simp (maxSteps := 2000000) only [List.getElem_toArray, List.getElem_cons_succ, List.getElem_cons_zero, Act.put, List.setIfInBounds_toArray, List.set_cons_zero, List.set_cons_succ]
          refine wpAnyH_take (i := 9) (v := ?_) rfl (by kernel_rfl) (by kernel_rfl) (by kernel_rfl) (fun _ _ _ h => h) (Or.inl ⟨by first | kernel_rfl | rfl, ?_⟩) (by assumption) ?_
          rotate_left
          · (intro wq hSw; (try dsimp only at hSw); (try simp (maxSteps := 2000000) only [List.getElem_toArray, List.getElem_cons_succ, List.getElem_cons_zero]); go_simp); try with_reducible rfl
          try simp (maxSteps := 2000000) only [List.getElem_toArray, List.getElem_cons_succ, List.getElem_cons_zero, Act.put, List.setIfInBounds_toArray, List.set_cons_zero, List.set_cons_succ]
          refine wpAnyH_take (i := 10) (v := ?_) rfl (by kernel_rfl) (by kernel_rfl) (by kernel_rfl) (fun _ _ _ h => h) (Or.inl ⟨by first | kernel_rfl | rfl, ?_⟩) (by assumption) ?_
          rotate_left
          · (intro wq hSw; (try dsimp only at hSw); (try simp (maxSteps := 2000000) only [List.getElem_toArray, List.getElem_cons_succ, List.getElem_cons_zero]); go_simp); try with_reducible rfl
          try simp (maxSteps := 2000000) only [List.getElem_toArray, List.getElem_cons_succ, List.getElem_cons_zero, Act.put, List.setIfInBounds_toArray, List.set_cons_zero, List.set_cons_succ]
          refine wpAnyH_take (i := 11) (v := ?_) rfl (by kernel_rfl) (by kernel_rfl) (by kernel_rfl) (fun _ _ _ h => h) (Or.inl ⟨by first | kernel_rfl | rfl, ?_⟩) (by assumption) ?_
          rotate_left
          · (intro wq hSw; (try dsimp only at hSw); (try simp (maxSteps := 2000000) only [List.getElem_toArray, List.getElem_cons_succ, List.getElem_cons_zero]); go_simp); try with_reducible rfl
          try simp (maxSteps := 2000000) only [List.getElem_toArray, List.getElem_cons_succ, List.getElem_cons_zero, Act.put, List.setIfInBounds_toArray, List.set_cons_zero, List.set_cons_succ]
          refine wpAnyH_take (i := 12) (v := ?_) rfl (by kernel_rfl) (by kernel_rfl) (by kernel_rfl) (fun _ _ _ h => h) (Or.inl ⟨by first | kernel_rfl | rfl, ?_⟩) (by assumption) ?_
          rotate_left
          · (intro wq hSw; (try dsimp only at hSw); (try simp (maxSteps := 2000000) only [List.getElem_toArray, List.getElem_cons_succ, List.getElem_cons_zero]); go_simp); try with_reducible rfl
          try simp (maxSteps := 2000000) only [List.getElem_toArray, List.getElem_cons_succ, List.getElem_cons_zero, Act.put, List.setIfInBounds_toArray, List.set_cons_zero, List.set_cons_succ]
          refine wpAnyH_take (i := 13) (v := ?_) rfl (by kernel_rfl) (by kernel_rfl) (by kernel_rfl) (fun _ _ _ h => h) (Or.inl ⟨by first | kernel_rfl | rfl, ?_⟩) (by assumption) ?_
          rotate_left
          · (intro wq hSw; (try dsimp only at hSw); (try simp (maxSteps := 2000000) only [List.getElem_toArray, List.getElem_cons_succ, List.getElem_cons_zero]); go_simp); try with_reducible rfl
          try simp (maxSteps := 2000000) only [List.getElem_toArray, List.getElem_cons_succ, List.getElem_cons_zero, Act.put, List.setIfInBounds_toArray, List.set_cons_zero, List.set_cons_succ]
          refine wpAnyH_take (i := 14) (v := ?_) rfl (by kernel_rfl) (by kernel_rfl) (by kernel_rfl) (fun _ _ _ h => h) (Or.inl ⟨by first | kernel_rfl | rfl, ?_⟩) (by assumption) ?_
          rotate_left
          · (intro wq hSw; (try dsimp only at hSw); (try simp (maxSteps := 2000000) only [List.getElem_toArray, List.getElem_cons_succ, List.getElem_cons_zero]); go_simp); try with_reducible rfl
          try simp (maxSteps := 2000000) only [List.getElem_toArray, List.getElem_cons_succ, List.getElem_cons_zero, Act.put, List.setIfInBounds_toArray, List.set_cons_zero, List.set_cons_succ]
          refine wpAnyH_take (i := 15) (v := ?_) rfl (by kernel_rfl) (by kernel_rfl) (by kernel_rfl) (fun _ _ _ h => h) (Or.inl ⟨by first | kernel_rfl | rfl, ?_⟩) (by assumption) ?_
          rotate_left
          · (intro wq hSw; (try dsimp only at hSw); (try simp (maxSteps := 2000000) only [List.getElem_toArray, List.getElem_cons_succ, List.getElem_cons_zero]); go_simp); try with_reducible rfl
          try simp (maxSteps := 2000000) only [List.getElem_toArray, List.getElem_cons_succ, List.getElem_cons_zero, Act.put, List.setIfInBounds_toArray, List.set_cons_zero, List.set_cons_succ]
          refine wpAnyH_done (by kernel_rfl) ?_ _
          go_wp2_with fail
          exact ⟨⟨i + 1, by omega, by go_num, HP2, Lib.hid (HB.out.trans ((Below.refl _ _).drew.mono HB.out.size))⟩, by simp [intOf]; omega⟩
        · have p9 : ((m3 : Int) != (m4 : Int)) = true := by simp; omega
          have hbad : rightF k m N ss = 2 := by
            unfold rightF thBad
            rw [if_pos]
            rw [Bool.or_eq_true]
            refine .inr (List.any_eq_true.2 ⟨u, by rw [← hu]; exact gt_mem (by rw [HT.out]; exact hlt), ?_⟩)
            unfold oddB
            rw [hz, hm3, hm4]
            simpa using he
          have HBAD := Lib.hid hbad
          clear v1 v0 v3 v4 r3 r4 hm3 hm4 hu hz hlt he hu1 hz1 hu2 hz2 hbad
          go_wp2_with fail
          refine wp_region_held_drew (S := fun w' => Below wq.heap.size wq w') (by kernel_rfl) (by first | assumption | exact Below.refl _ _ | exact (Below.refl _ _).drew) (fun hHeld => ?_)
          refine wpAnyH_take (i := 0) (v := ?_) rfl (by kernel_rfl) (by kernel_rfl) (by kernel_rfl) (fun _ _ _ h => h) (Or.inl ⟨by first | kernel_rfl | rfl, ?_⟩) (by assumption) ?_
          rotate_left
          · (intro wq hSw; (try dsimp only at hSw); (try simp (maxSteps := 2000000) only [List.getElem_toArray, List.getElem_cons_succ, List.getElem_cons_zero]); go_simp); try with_reducible rfl
          try simp (maxSteps := 2000000) only [List.getElem_toArray, List.getElem_cons_succ, List.getElem_cons_zero, Act.put, List.setIfInBounds_toArray, List.set_cons_zero, List.set_cons_succ]
          refine wpAnyH_take (i := 1) (v := ?_) rfl (by kernel_rfl) (by kernel_rfl) (by kernel_rfl) (fun _ _ _ h => h) (Or.inl ⟨by first | kernel_rfl | rfl, ?_⟩) (by assumption) ?_
          rotate_left
          · (intro wq hSw; (try dsimp only at hSw); (try simp (maxSteps := 2000000) only [List.getElem_toArray, List.getElem_cons_succ, List.getElem_cons_zero]); go_simp); try with_reducible rfl
          try simp (maxSteps := 2000000) only [List.getElem_toArray, List.getElem_cons_succ, List.getElem_cons_zero, Act.put, List.setIfInBounds_toArray, List.set_cons_zero, List.set_cons_succ]
          refine wpAnyH_take (i := 2) (v := ?_) rfl (by kernel_rfl) (by kernel_rfl) (by kernel_rfl) (fun _ _ _ h => h) (Or.inl ⟨by first | kernel_rfl | rfl, ?_⟩) (by assumption) ?_
          rotate_left
          · (intro wq hSw; (try dsimp only at hSw); (try simp (maxSteps := 2000000) only [List.getElem_toArray, List.getElem_cons_succ, List.getElem_cons_zero]); go_simp); try with_reducible rfl
          try simp (maxSteps := 2000000) only [List.getElem_toArray, List.getElem_cons_succ, List.getElem_cons_zero, Act.put, List.setIfInBounds_toArray, List.set_cons_zero, List.set_cons_succ]
          refine wpAnyH_take (i := 3) (v := ?_) rfl (by kernel_rfl) (by kernel_rfl) (by kernel_rfl) (fun _ _ _ h => h) (Or.inl ⟨by first | kernel_rfl | rfl, ?_⟩) (by assumption) ?_
          rotate_left
          · (intro wq hSw; (try dsimp only at hSw); (try simp (maxSteps := 2000000) only [List.getElem_toArray, List.getElem_cons_succ, List.getElem_cons_zero]); go_simp); try with_reducible rfl
          try simp (maxSteps := 2000000) only [List.getElem_toArray, List.getElem_cons_succ, List.getElem_cons_zero, Act.put, List.setIfInBounds_toArray, List.set_cons_zero, List.set_cons_succ]
          refine wpAnyH_take (i := 4) (v := ?_) rfl (by kernel_rfl) (by kernel_rfl) (by kernel_rfl) (fun _ _ _ h => h) (Or.inl ⟨by first | kernel_rfl | rfl, ?_⟩) (by assumption) ?_
          rotate_left
          · (intro wq hSw; (try dsimp only at hSw); (try simp (maxSteps := 2000000) only [List.getElem_toArray, List.getElem_cons_succ, List.getElem_cons_zero]); go_simp); try with_reducible rfl
          try simp (maxSteps := 2000000) only [List.getElem_toArray, List.getElem_cons_succ, List.getElem_cons_zero, Act.put, List.setIfInBounds_toArray, List.set_cons_zero, List.set_cons_succ]
          refine wpAnyH_take (i := 5) (v := ?_) rfl (by kernel_rfl) (by kernel_rfl) (by kernel_rfl) (fun _ _ _ h => h) (Or.inl ⟨by first | kernel_rfl | rfl, ?_⟩) (by assumption) ?_
          rotate_left
          · (intro wq hSw; (try dsimp only at hSw); (try simp (maxSteps := 2000000) only [List.getElem_toArray, List.getElem_cons_succ, List.getElem_cons_zero]); go_simp); try with_reducible rfl
          try simp (maxSteps := 2000000) only [List.getElem_toArray, List.getElem_cons_succ, List.getElem_cons_zero, Act.put, List.setIfInBounds_toArray, List.set_cons_zero, List.set_cons_succ]
          refine wpAnyH_take (i := 6) (v := ?_) rfl (by kernel_rfl) (by kernel_rfl) (by kernel_rfl) (fun _ _ _ h => h) (Or.inl ⟨by first | kernel_rfl | rfl, ?_⟩) (by assumption) ?_
          rotate_left
          · (intro wq hSw; (try dsimp only at hSw); (try simp (maxSteps := 2000000) only [List.getElem_toArray, List.getElem_cons_succ, List.getElem_cons_zero]); go_simp); try with_reducible rfl
          try simp (maxSteps := 2000000) only [List.getElem_toArray, List.getElem_cons_succ, List.getElem_cons_zero, Act.put, List.setIfInBounds_toArray, List.set_cons_zero, List.set_cons_succ]
          refine wpAnyH_take (i := 7) (v := ?_) rfl (by kernel_rfl) (by kernel_rfl) (by kernel_rfl) (fun _ _ _ h => h) (Or.inl ⟨by first | kernel_rfl | rfl, ?_⟩) (by assumption) ?_
          rotate_left
          · (intro wq hSw; (try dsimp only at hSw); (try simp (maxSteps := 2000000) only [List.getElem_toArray, List.getElem_cons_succ, List.getElem_cons_zero]); go_simp); try with_reducible rfl
          try simp (maxSteps := 2000000) only [List.getElem_toArray, List.getElem_cons_succ, List.getElem_cons_zero, Act.put, List.setIfInBounds_toArray, List.set_cons_zero, List.set_cons_succ]
          refine wpAnyH_take (i := 8) (v := ?_) rfl (by kernel_rfl) (by kernel_rfl) (by kernel_rfl) (fun _ _ _ h => h) (Or.inl ⟨by first | kernel_rfl | rfl, ?_⟩) (by assumption) ?_
          rotate_left
          · (intro wq hSw; (try dsimp only at hSw); (try simp (maxSteps := 2000000) only [List.getElem_toArray, List.getElem_cons_succ, List.getElem_cons_zero]); go_simp); try with_reducible rfl
          try simp (maxSteps := 2000000) only [List.getElem_toArray, List.getElem_cons_succ, List.getElem_cons_zero, Act.put, List.setIfInBounds_toArray, List.set_cons_zero, List.set_cons_succ]
          refine wpAnyH_take (i := 9) (v := ?_) rfl (by kernel_rfl) (by kernel_rfl) (by kernel_rfl) (fun _ _ _ h => h) (Or.inl ⟨by first | kernel_rfl | rfl, ?_⟩) (by assumption) ?_
          rotate_left
          · (intro wq hSw; (try dsimp only at hSw); (try simp (maxSteps := 2000000) only [List.getElem_toArray, List.getElem_cons_succ, List.getElem_cons_zero]); go_simp); try with_reducible rfl
          try simp (maxSteps := 2000000) only [List.getElem_toArray, List.getElem_cons_succ, List.getElem_cons_zero, Act.put, List.setIfInBounds_toArray, List.set_cons_zero, List.set_cons_succ]
          refine wpAnyH_take (i := 10) (v := ?_) rfl (by kernel_rfl) (by kernel_rfl) (by kernel_rfl) (fun _ _ _ h => h) (Or.inl ⟨by first | kernel_rfl | rfl, ?_⟩) (by assumption) ?_
          rotate_left
          · (intro wq hSw; (try dsimp only at hSw); (try simp (maxSteps := 2000000) only [List.getElem_toArray, List.getElem_cons_succ, List.getElem_cons_zero]); go_simp); try with_reducible rfl
          try simp (maxSteps := 2000000) only [List.getElem_toArray, List.getElem_cons_succ, List.getElem_cons_zero, Act.put, List.setIfInBounds_toArray, List.set_cons_zero, List.set_cons_succ]
          refine wpAnyH_take (i := 11) (v := ?_) rfl (by kernel_rfl) (by kernel_rfl) (by kernel_rfl) (fun _ _ _ h => h) (Or.inl ⟨by first | kernel_rfl | rfl, ?_⟩) (by assumption) ?_
          rotate_left
          · (intro wq hSw; (try dsimp only at hSw); (try simp (maxSteps := 2000000) only [List.getElem_toArray, List.getElem_cons_succ, List.getElem_cons_zero]); go_simp); try with_reducible rfl
          try simp (maxSteps := 2000000) only [List.getElem_toArray, List.getElem_cons_succ, List.getElem_cons_zero, Act.put, List.setIfInBounds_toArray, List.set_cons_zero, List.set_cons_succ]
          refine wpAnyH_take (i := 12) (v := ?_) rfl (by kernel_rfl) (by kernel_rfl) (by kernel_rfl) (fun _ _ _ h => h) (Or.inl ⟨by first | kernel_rfl | rfl, ?_⟩) (by assumption) ?_
          rotate_left
          · (intro wq hSw; (try dsimp only at hSw); (try simp (maxSteps := 2000000) only [List.getElem_toArray, List.getElem_cons_succ, List.getElem_cons_zero]); go_simp); try with_reducible rfl
          try simp (maxSteps := 2000000) only [List.getElem_toArray, List.getElem_cons_succ, List.getElem_cons_zero, Act.put, List.setIfInBounds_toArray, List.set_cons_zero, List.set_cons_succ]
          refine wpAnyH_take (i := 13) (v := ?_) rfl (by kernel_rfl) (by kernel_rfl) (by kernel_rfl) (fun _ _ _ h => h) (Or.inl ⟨by first | kernel_rfl | rfl, ?_⟩) (by assumption) ?_
          rotate_left
          · (intro wq hSw; (try dsimp only at hSw); (try simp (maxSteps := 2000000) only [List.getElem_toArray, List.getElem_cons_succ, List.getElem_cons_zero]); go_simp); try with_reducible rfl
          try simp (maxSteps := 2000000) only [List.getElem_toArray, List.getElem_cons_succ, List.getElem_cons_zero, Act.put, List.setIfInBounds_toArray, List.set_cons_zero, List.set_cons_succ]
          refine wpAnyH_take (i := 14) (v := ?_) rfl (by kernel_rfl) (by kernel_rfl) (by kernel_rfl) (fun _ _ _ h => h) (Or.inl ⟨by first | kernel_rfl | rfl, ?_⟩) (by assumption) ?_
          rotate_left
          · (intro wq hSw; (try dsimp only at hSw); (try simp (maxSteps := 2000000) only [List.getElem_toArray, List.getElem_cons_succ, List.getElem_cons_zero]); go_simp); try with_reducible rfl
          try simp (maxSteps := 2000000) only [List.getElem_toArray, List.getElem_cons_succ, List.getElem_cons_zero, Act.put, List.setIfInBounds_toArray, List.set_cons_zero, List.set_cons_succ]
          refine wpAnyH_take (i := 15) (v := ?_) rfl (by kernel_rfl) (by kernel_rfl) (by kernel_rfl) (fun _ _ _ h => h) (Or.inl ⟨by first | kernel_rfl | rfl, ?_⟩) (by assumption) ?_
          rotate_left
          · (intro wq hSw; (try dsimp only at hSw); (try simp (maxSteps := 2000000) only [List.getElem_toArray, List.getElem_cons_succ, List.getElem_cons_zero]); go_simp); try with_reducible rfl
          try simp (maxSteps := 2000000) only [List.getElem_toArray, List.getElem_cons_succ, List.getElem_cons_zero, Act.put, List.setIfInBounds_toArray, List.set_cons_zero, List.set_cons_succ]
          refine wpAnyH_done (by kernel_rfl) ?_ _
          go_wp2_with fail
          go_ret
          exact ⟨by rw [HBAD.out]; rfl, HB1.out.trans ((HB.out.trans ((Below.refl _ _).drew.mono HB.out.size)).mono HB1.out.size)⟩
      · have p3 : ¬ (i : Int) < (t : Int) := by omega
        obtain rfl : i = t := by omega
        have hgood : thBad k m N ss = false := by
          unfold thBad
          rw [Bool.or_eq_false_iff]
          refine ⟨by simpa using HNK.out, List.any_eq_false.2 fun u hu => ?_⟩
          obtain ⟨p, hp, rfl⟩ := List.mem_iff_getElem.1 hu
          have hg : gt (thU ss N) p = (thU ss N)[p] := by unfold gt; rw [List.getD_eq_getElem?_getD, List.getElem?_eq_getElem hp]; rfl
          have := HP.out p (by rw [← HT.out]; exact hp)
          unfold oddB
          rw [← hg, this]
          simp
        by_cases hf : i < k
        · have p5 : (i : Int) < (k : Int) := by omega
          have HBAD := Lib.hid (show rightF k m N ss = 60 by unfold rightF; rw [if_neg (by rw [hgood]; simp), if_pos (by rw [HT.out]; exact hf)])
          clear hgood hf
          go_wp2_with fail
          go_ret
          exact ⟨by rw [HBAD.out]; rfl, HB1.out.trans (HB.out.mono HB1.out.size)⟩
        · have p5 : ¬ (i : Int) < (k : Int) := by omega
          have HBAD := Lib.hid (show rightF k m N ss = 0 by unfold rightF; rw [if_neg (by rw [hgood]; simp), if_neg (by rw [HT.out]; exact hf)])
          clear hgood hf
          go_wp2_with fail
          go_ret
          exact ⟨by rw [HBAD.out]; rfl, HB1.out.trans (HB.out.mono HB1.out.size)⟩
  · have p1 : ((N : Int) != (k : Int) + (m : Int)) = true := by simp; omega
    have HBAD := Lib.hid (show rightF k m N ss = 2 by unfold rightF thBad; rw [decide_eq_true hn, Bool.true_or, if_pos rfl])
    have HB1 := Lib.hid hb1
    clear hn hr1 hb1
    go_wp2_with fail
    go_ret
    exact ⟨by rw [HBAD.out]; rfl, HB1.out⟩
end Go.Proofs.YthhljmlpjnkfgaaGreat

set_option linter.unusedSimpArgs false
set_option linter.unusedVariables false
namespace Go.Proofs.YthhljmlpjnkfgaaGreat
open Go.RowKit Go.Cib
attribute [local go_sem] cell_set Later.cell Later.frozen Grw.cell Grw.frozen

/-- The product, of the first bits of b. -/
def pm (a b : Nat) : Nat → Nat
  | 0 => 0
  | i + 1 => if b / 2 ^ i % 2 = 1 then pm a b i ^^^ xtn i a else pm a b i
theorem gm_pow {a : Nat} (ha : a < 256) {i : Nat} (hi : i < 8) : gm a (2 ^ i) = xtn i a := by
  have h : ∀ i : Fin 8, 2 ^ i.1 ≠ 0 ∧ 2 ^ i.1 < 256 ∧ lg (2 ^ i.1) = i.1 := by decide +kernel
  obtain ⟨h1, h2, h3⟩ := h ⟨i, hi⟩
  rw [gm_comm, gm_eq h1 ha, h3]
theorem bit_step {b : Nat} (hb : b < 256) {i : Nat} (hi : i < 8) : b % 2 ^ (i + 1) = if b / 2 ^ i % 2 = 1 then b % 2 ^ i ^^^ 2 ^ i else b % 2 ^ i := by
  have h : ∀ (b : Fin 256) (i : Fin 8), b.1 % 2 ^ (i.1 + 1) = if b.1 / 2 ^ i.1 % 2 = 1 then b.1 % 2 ^ i.1 ^^^ 2 ^ i.1 else b.1 % 2 ^ i.1 := by decide +kernel
  exact h ⟨b, hb⟩ ⟨i, hi⟩
theorem pm_eq {a b : Nat} (ha : a < 256) (hb : b < 256) : ∀ i, i ≤ 8 → pm a b i = gm a (b % 2 ^ i)
  | 0, _ => by show 0 = _; rw [Nat.pow_zero, Nat.mod_one, gm_zero]
  | i + 1, hi => by
    have h := pm_eq ha hb i (by omega)
    have h1 : b % 2 ^ i < 256 := Nat.lt_of_le_of_lt (Nat.mod_le _ _) hb
    have h2 : 2 ^ i < 256 := Nat.pow_lt_pow_right (by omega) (by omega : i < 8)
    rw [bit_step hb (by omega)]
    unfold pm
    split
    · rw [h, gm_xor h1 h2, gm_pow ha (by omega)]
    · exact h
theorem pm_gm {a b : Nat} (ha : a < 256) (hb : b < 256) : pm a b 8 = gm a b := by rw [pm_eq ha hb 8 (Nat.le_refl _), show b % 2 ^ 8 = b by omega]
theorem pm_lt {a b : Nat} (ha : a < 256) : ∀ i, pm a b i < 256
  | 0 => by show 0 < 256; omega
  | i + 1 => by
    unfold pm
    split
    · exact xor_lt (pm_lt ha i) (xtn_lt ha i)
    · exact pm_lt ha i
theorem xor_bits64 {a c : Nat} (ha : a < 256) (hc : c < 256) : bits .xor .i64 (a : Int) (c : Int) = ((a ^^^ c : Nat) : Int) := by
  unfold bits
  have h := xor_lt ha hc
  have e : (BitVec.ofInt 64 (a : Int) ^^^ BitVec.ofInt 64 (c : Int)).toNat = a ^^^ c := by
    rw [BitVec.toNat_xor, BitVec.ofInt_natCast, BitVec.ofInt_natCast, BitVec.toNat_ofNat, BitVec.toNat_ofNat, show a % 2 ^ 64 = a by omega, show c % 2 ^ 64 = c by omega]
  show IntKind.i64.wrap ((BitVec.ofInt 64 (a : Int) ^^^ BitVec.ofInt 64 (c : Int)).toNat : Int) = _
  rw [e, IntKind.wrap_i64]
  omega
theorem xt_bits2 {a : Nat} (h : ¬ 2 * a < 256) (ha : a < 256) : bits .xor .i64 (2 * (a : Int)) 285 = (xt a : Int) := by
  rw [Int.mul_comm]; exact xt_bits h ha
set_option maxRecDepth 100000 in
set_option maxHeartbeats 4000000 in
theorem rmul_any {w : World} {a b : Nat} (ha : a < 256) (hb : b < 256) :
    Calls Tryz.prog 35 #[.int .u8 (a : Int), .int .u8 (b : Int)] w fun e w' => e = .returned (.int .u8 (gm a b : Int)) ∧ w' = w := by
  go_enter Tryz.func35, Tryz.ntmps35
  have q0 : (a : Int) < 256 := by omega
  have q1 : (b : Int) < 256 := by omega
  have q2 : (0 : Int) ≤ (a : Int) := Int.natCast_nonneg _
  have q3 : (0 : Int) ≤ (b : Int) := Int.natCast_nonneg _
  go_wp2_with fail
  go_loopw [5, 6, 7] (fun vp vx vi wr => ∃ i : Nat, i ≤ 8 ∧ vi = .int .i64 i ∧ vp = .int .i64 (pm a b i) ∧ vx = .int .i64 (xtn i a) ∧ wr = w) (fun _ _ vi _ => 8 - (intOf vi).toNat)
  case atStart => exact ⟨0, by omega, rfl, rfl, rfl, rfl⟩
  case round =>
    obtain ⟨i, hi, rfl, rfl, rfl, hwr⟩ := hrel
    rw [hwr]
    clear hwr
    have p0 : (0 : Int) ≤ (i : Int) := Int.natCast_nonneg _
    by_cases hlt : i < 8
    · have p1 : (i : Int) < 8 := by omega
      have hx := xtn_lt ha i
      have hp := pm_lt (b := b) ha i
      have hx1 : (xtn i a : Int) < 256 := by omega
      have hx0 : (0 : Int) ≤ (xtn i a : Int) := Int.natCast_nonneg _
      have hbit : ((b : Int) / 2 ^ i).tmod 2 = ((b / 2 ^ i % 2 : Nat) : Int) := by
        rw [Int.tmod_eq_emod_of_nonneg (Int.ediv_nonneg (Int.natCast_nonneg _) (Int.pow_nonneg (by omega)))]
        push_cast
        rfl
      have hxn : xtn (i + 1) a = xt (xtn i a) := rfl
      have hpb := xor_bits64 hp hx
      clear hlt
      by_cases h1 : b / 2 ^ i % 2 = 1
      · have e1 : (((b : Int) / 2 ^ i).tmod 2 == 1) = true := by rw [hbit, h1]; rfl
        have e2 : pm a b (i + 1) = pm a b i ^^^ xtn i a := by rw [show pm a b (i + 1) = if b / 2 ^ i % 2 = 1 then pm a b i ^^^ xtn i a else pm a b i from rfl, if_pos h1]
        clear hbit h1
        by_cases h2 : 2 * xtn i a < 256
        · have e3 : ¬ 2 * (xtn i a : Int) ≥ 256 := by omega
          have e4 : xt (xtn i a) = 2 * xtn i a := by unfold xt; rw [if_pos h2]
          have E := Lib.hid (And.intro e2 (hxn.trans e4))
          clear e2 hxn e4
          go_wp2_with fail
          exact ⟨⟨i + 1, by omega, by go_num, by rw [E.out.1], by rw [E.out.2]; push_cast; rfl, trivial⟩, by simp [intOf]; omega⟩
        · have e3 : 2 * (xtn i a : Int) ≥ 256 := by omega
          have e4 := xt_bits2 h2 hx
          have E := Lib.hid (And.intro e2 hxn)
          clear e2 hxn
          go_wp2_with fail
          exact ⟨⟨i + 1, by omega, by go_num, by rw [E.out.1], by rw [E.out.2], trivial⟩, by simp [intOf]; omega⟩
      · have e1 : (((b : Int) / 2 ^ i).tmod 2 == 1) = false := by rw [hbit, beq_eq_false_iff_ne]; intro e; exact h1 (by exact_mod_cast e)
        have e2 : pm a b (i + 1) = pm a b i := by rw [show pm a b (i + 1) = if b / 2 ^ i % 2 = 1 then pm a b i ^^^ xtn i a else pm a b i from rfl, if_neg h1]
        clear hbit h1
        by_cases h2 : 2 * xtn i a < 256
        · have e3 : ¬ 2 * (xtn i a : Int) ≥ 256 := by omega
          have e4 : xt (xtn i a) = 2 * xtn i a := by unfold xt; rw [if_pos h2]
          have E := Lib.hid (And.intro e2 (hxn.trans e4))
          clear e2 hxn e4
          go_wp2_with fail
          exact ⟨⟨i + 1, by omega, by go_num, by rw [E.out.1], by rw [E.out.2]; push_cast; rfl, trivial⟩, by simp [intOf]; omega⟩
        · have e3 : 2 * (xtn i a : Int) ≥ 256 := by omega
          have e4 := xt_bits2 h2 hx
          have E := Lib.hid (And.intro e2 hxn)
          clear e2 hxn
          go_wp2_with fail
          exact ⟨⟨i + 1, by omega, by go_num, by rw [E.out.1], by rw [E.out.2], trivial⟩, by simp [intOf]; omega⟩
    · obtain rfl : i = 8 := by omega
      rw [pm_gm ha hb]
      have HG : (gm a b : Int) % 256 = (gm a b : Int) := by have := gm_lt (a := a) (b := b); omega
      go_wp2_with fail
      go_ret
      exact ⟨by show _ = Ending.returned (.int .u8 _); rw [← HG]; rfl, rfl⟩
end Go.Proofs.YthhljmlpjnkfgaaGreat

set_option linter.unusedSimpArgs false
set_option linter.unusedVariables false
namespace Go.Proofs.YthhljmlpjnkfgaaGreat
open Go.RowKit Go.Cib
attribute [local go_sem] cell_set Later.cell Later.frozen Grw.cell Grw.frozen

theorem dv_mul {a b : Nat} (ha : a < 256) (hb0 : b ≠ 0) (hb : b < 256) : gm (dv a b) b = a := by
  unfold dv
  rw [gm_assoc, gm_comm (inv b) b, gm_inv hb0 hb, gm_comm, gm_one ha]
theorem dv_lt (a b : Nat) : dv a b < 256 := gm_lt
theorem dv_only {a b c : Nat} (ha : a < 256) (hb0 : b ≠ 0) (hb : b < 256) (hc : c < 256) (h : gm c b = a) : c = dv a b := by
  refine gm_cancel hb0 hb hc (dv_lt a b) ?_
  rw [gm_comm b c, gm_comm b, dv_mul ha hb0 hb, h]
set_option maxRecDepth 100000 in
set_option maxHeartbeats 4000000 in
theorem rdiv_any {w : World} {a b : Nat} (ha : a < 256) (hb0 : b ≠ 0) (hb : b < 256) :
    Calls Tryz.prog 59 #[.int .u8 (a : Int), .int .u8 (b : Int)] w fun e w' => e = .returned (.tuple #[.int .u8 (dv a b : Int), .int .i64 0]) ∧ w' = w := by
  have q0 : (a : Int) < 256 := by omega
  have q1 : (b : Int) < 256 := by omega
  have q2 : (0 : Int) ≤ (a : Int) := Int.natCast_nonneg _
  have q3 : (0 : Int) ≤ (b : Int) := Int.natCast_nonneg _
  have e2 : ((b : Int) == 0) = false := by simpa using hb0
  go_enter Tryz.func59, Tryz.ntmps59
  go_wp2_with fail
  go_loopw [6] (fun vi wr => ∃ i : Nat, i ≤ dv a b ∧ vi = .int .i64 i ∧ wr = w) (fun vi _ => 256 - (intOf vi).toNat)
  case atStart => exact ⟨0, Nat.zero_le _, rfl, rfl⟩
  case round =>
    obtain ⟨i, hi, rfl, hwr⟩ := hrel
    rw [hwr]
    clear hwr
    have hd := dv_lt a b
    have p0 : (0 : Int) ≤ (i : Int) := Int.natCast_nonneg _
    have p1 : (i : Int) < 256 := by omega
    have p2 : (i : Int) % 256 = (i : Int) := by omega
    have hm := rmul_any (w := w) (a := i) (b := b) (by omega) hb
    by_cases he : i = dv a b
    · have e3 : ((gm i b : Int) == (a : Int)) = true := by rw [he, dv_mul ha hb0 hb]; simp
      have HE := Lib.hid he
      clear he hi hd
      go_wp2_with fail
      refine hm.mono ?_
      rintro e w5 ⟨rfl, hw5⟩
      rw [hw5]
      clear hw5 hm
      go_wp2_with fail
      go_ret2
      exact ⟨by rw [← HE.out]; rfl, rfl⟩
    · have e3 : ((gm i b : Int) == (a : Int)) = false := by
        rw [beq_eq_false_iff_ne]
        intro e
        exact he (dv_only ha hb0 hb (by omega) (by exact_mod_cast e))
      have HI := Lib.hid (show i + 1 ≤ dv a b by omega)
      clear he hi hd
      go_wp2_with fail
      refine hm.mono ?_
      rintro e w5 ⟨rfl, hw5⟩
      rw [hw5]
      clear hw5 hm
      go_wp2_with fail
      exact ⟨⟨i + 1, HI.out, by go_num, trivial⟩, by simp [intOf]; omega⟩
set_option maxRecDepth 100000 in
set_option maxHeartbeats 4000000 in
theorem rfac_any {w : World} {k i j : Nat} (hi : i < 256) (hj : j < k) (hk : k < 256) :
    Calls Tryz.prog 36 #[.int .i64 (k : Int), .int .i64 (i : Int), .int .i64 (j : Int)] w fun e w' => e = .returned (.int .u8 (fac k i j : Int)) ∧ w' = w := by
  have q0 : (i : Int) < 256 := by omega
  have q1 : (j : Int) < 256 := by omega
  have q2 : (0 : Int) ≤ (i : Int) := Int.natCast_nonneg _
  have q3 : (0 : Int) ≤ (j : Int) := Int.natCast_nonneg _
  go_enter Tryz.func36, Tryz.ntmps36
  by_cases h : i < k
  · have h1 : (i : Int) < (k : Int) := by omega
    by_cases he : i = j
    · have h2 : ((i : Int) == (j : Int)) = true := by rw [he]; simp
      have hf : fac k i j = 1 := by unfold fac; rw [if_pos h, if_pos he]
      rw [hf]
      go_wp2_with fail
      go_ret
      exact ⟨rfl, rfl⟩
    · have h2 : ((i : Int) == (j : Int)) = false := by simp; omega
      have hf : fac k i j = 0 := by unfold fac; rw [if_pos h, if_neg he]
      rw [hf]
      go_wp2_with fail
      go_ret
      exact ⟨rfl, rfl⟩
  · have h1 : ¬ (i : Int) < (k : Int) := by omega
    have hf : fac k i j = dv 1 (i ^^^ j) := by unfold fac; rw [if_neg h]
    have hx := xor_lt hi (show j < 256 by omega)
    have hx0 : i ^^^ j ≠ 0 := fun e => by have := xor_zero_eq e; omega
    have hd := rdiv_any (w := w) (a := 1) (b := i ^^^ j) (by omega) hx0 hx
    have hxb := xor_bits hi (show j < 256 by omega)
    have p2 : (i : Int) % 256 = (i : Int) := by omega
    have p3 : (j : Int) % 256 = (j : Int) := by omega
    rw [hf]
    clear hf
    go_wp2_with fail
    refine hd.mono ?_
    rintro e w5 ⟨rfl, hw5⟩
    rw [hw5]
    clear hw5 hd
    go_wp2_with fail
    go_ret
    exact ⟨rfl, rfl⟩
def mayB (k m : Int) : Bool := decide (1 ≤ k ∧ 1 ≤ m ∧ k ≤ 255 ∧ m ≤ 255 - k)
set_option maxRecDepth 100000 in
set_option maxHeartbeats 4000000 in
theorem may_any {w : World} (k m : Int) :
    Calls Tryz.prog 10 #[.int .i64 k, .int .i64 m] w fun e w' => e = .returned (.bool (mayB k m)) ∧ w' = w := by
  go_enter Tryz.func10, Tryz.ntmps10
  by_cases h1 : k ≥ 1
  · by_cases h2 : m ≥ 1
    · by_cases h3 : k ≤ 255
      · by_cases h4 : m ≤ 255 - k
        · have h5 : m ≤ 255 - k := h4
          go_wp2_with fail
          go_ret
          exact ⟨by rw [show mayB k m = true from decide_eq_true (by omega)]; simp [h4], rfl⟩
        · go_wp2_with fail
          go_ret
          exact ⟨by rw [show mayB k m = false from decide_eq_false (by omega)]; simp <;> omega, rfl⟩
      · go_wp2_with fail
        go_ret
        exact ⟨by rw [show mayB k m = false from decide_eq_false (by omega)]; simp <;> omega, rfl⟩
    · go_wp2_with fail
      go_ret
      exact ⟨by rw [show mayB k m = false from decide_eq_false (by omega)]; simp <;> omega, rfl⟩
  · go_wp2_with fail
    go_ret
    exact ⟨by rw [show mayB k m = false from decide_eq_false (by omega)]; simp <;> omega, rfl⟩
end Go.Proofs.YthhljmlpjnkfgaaGreat

set_option linter.unusedSimpArgs false
set_option linter.unusedVariables false
namespace Go.Proofs.YthhljmlpjnkfgaaGreat
open Go.RowKit Go.Cib
attribute [local go_sem] cell_set Later.cell Later.frozen Grw.cell Grw.frozen

def rowU (k i j : Nat) : List Nat := (List.range j).map (fac k i)
theorem rowU_next (k i j : Nat) : rowU k i (j + 1) = rowU k i j ++ [fac k i j] := by
  unfold rowU
  rw [List.range_succ, List.map_append]; rfl
theorem fac_lt2 (k i j : Nat) : fac k i j < 256 := by
  unfold fac
  split
  · split <;> omega
  · exact dv_lt _ _
def fdU (c : Nat) (xs ys : List Nat) (i : Nat) : List Nat := (List.range i).map fun p => gt ys p ^^^ gm c (gt xs p)
theorem fdU_next (c : Nat) (xs ys : List Nat) (i : Nat) : fdU c xs ys (i + 1) = fdU c xs ys i ++ [gt ys i ^^^ gm c (gt xs i)] := by
  unfold fdU
  rw [List.range_succ, List.map_append]; rfl
theorem fd_gt2 (c : Nat) : ∀ (row into : List Nat) (i : Nat), i < into.length → gt (fd c row into) i = gt into i ^^^ gm c (gt row i)
  | [], into, i, _ => by
    show gt into i = gt into i ^^^ gm c 0
    rw [gm_zero, Nat.xor_zero]
  | _ :: _, [], _, h => absurd h (by simp)
  | r :: row, x :: into, 0, _ => rfl
  | r :: row, x :: into, i + 1, h => fd_gt2 c row into i (by simpa using h)
theorem fdU_all {c : Nat} {xs ys : List Nat} {n : Nat} (h : ys.length = n) : fdU c xs ys n = fd c xs ys := by
  refine gt_ext (by unfold fdU; rw [fd_len]; simp [h]) fun i hi => ?_
  have hi2 : i < n := by unfold fdU at hi; simpa using hi
  rw [fd_gt2 c xs ys i (by omega)]
  exact range_gt hi2
def scU (c : Nat) (xs : List Nat) (i : Nat) : List Nat := (List.range i).map fun p => gm c (gt xs p)
theorem scU_next (c : Nat) (xs : List Nat) (i : Nat) : scU c xs (i + 1) = scU c xs i ++ [gm c (gt xs i)] := by
  unfold scU
  rw [List.range_succ, List.map_append]; rfl
theorem scU_all {c : Nat} {xs : List Nat} {n : Nat} (h : xs.length = n) : scU c xs n = sc c xs := by
  refine gt_ext (by unfold scU; rw [sc_len]; simp [h]) fun i hi => ?_
  have hi2 : i < n := by unfold scU at hi; simpa using hi
  rw [sc_gt]
  exact range_gt hi2
set_option maxRecDepth 100000 in
set_option maxHeartbeats 8000000 in
theorem rrow_any {w : World} {k m i : Nat} (hi : i < k + m) (hkm : k + m ≤ 255) :
    Calls Tryz.prog 15 #[.int .i64 (k : Int), .int .i64 (m : Int), .int .i64 (i : Int)] w fun e w' => ∃ A c, e = .returned (.slice A k c) ∧ k ≤ c ∧ RdL ByR 1 (fun j => w.heap.size ≤ j) w' A k (rowF k i) ∧ Below w.heap.size w w' := by
  have q0 : (i : Int) < (k : Int) + (m : Int) := by omega
  have q1 : (k : Int) + (m : Int) ≤ 255 := by omega
  have q2 : (0 : Int) ≤ (i : Int) := Int.natCast_nonneg _
  have q3 : (0 : Int) ≤ (k : Int) := Int.natCast_nonneg _
  have q4 : (0 : Int) ≤ (m : Int) := Int.natCast_nonneg _
  have q5 : (i : Int) ≥ 0 := q2
  go_enter Tryz.func15, Tryz.ntmps15
  go_wp2_with fail
  go_loopw [7, 8] (fun vs vj wr => ∃ (j : Nat) (A : Option Addr) (c : Nat), j ≤ k ∧ vj = .int .i64 j ∧ vs = .slice A j c ∧ Hid (j ≤ c) ∧ Hid (OwnL ByR 5 1 w.heap.size (fun j => w.heap.size ≤ j) wr (.slice A j c) j (rowU k i j)) ∧ Hid (Below w.heap.size w wr)) (fun _ vj _ => k - (intOf vj).toNat)
  case atStart => exact ⟨0, none, 0, Nat.zero_le _, rfl, rfl, Lib.hid (Nat.le_refl _), Lib.hid (by exact OwnL.nil_), Lib.hid (Below.refl _ _)⟩
  case round =>
    obtain ⟨j, AO, cO, hj, rfl, rfl, HC, HO, HB⟩ := hrel
    have p0 : (0 : Int) ≤ (j : Int) := Int.natCast_nonneg _
    by_cases hlt : j < k
    · have p1 : (j : Int) < (k : Int) := by omega
      have hf := rfac_any (w := wr) (k := k) (i := i) (j := j) (by omega) hlt (by omega)
      have HN := Lib.hid (rowU_next k i j)
      have hfl := fac_lt2 k i j
      have hszr := HB.out.size
      clear hlt
      go_wp2_with fail
      refine hf.mono ?_
      rintro e w5 ⟨rfl, hw5⟩
      rw [hw5]
      clear hw5 hf
      go_wp2_with (at_builtin; go_must (refine wpList_push1 ByR.stable ByR.one sl_by (by rfl) (by rfl) (base := w.heap.size) (S := fun j => w.heap.size ≤ j) (cs := #[.int .u8 (fac k i j : Int)]) (y := fac k i j) (by rfl) (by rfl) HO.out (by rfl) ⟨hfl, rfl⟩ (by unfold maxLen; omega) (by omega) hszr ?_); intro A8 c8 ug hc8 own9 hlt8 hb8 hat8; rw [← HN.out] at own9; have HO9 := Lib.hid own9; have HB9 := Lib.hid (HB.out.trans hb8); clear own9 hb8 hlt8 hat8)
      exact ⟨⟨j + 1, A8, c8, by omega, by go_num, rfl, Lib.hid hc8, HO9, HB9⟩, by simp [intOf]; omega⟩
    · have p1 : ¬ (j : Int) < (k : Int) := by omega
      obtain rfl : j = k := by omega
      go_wp2_with fail
      go_ret
      obtain ⟨A', c', e, _, hr⟩ := HO.out.rd (S' := fun j => w.heap.size ≤ j) (fun j hj => hj) (fun cs x hx => hx)
      injection e with e1 _ e2
      subst e1; subst e2
      exact ⟨AO, cO, rfl, HC.out, hr, HB.out⟩
set_option maxRecDepth 100000 in
set_option maxHeartbeats 8000000 in
theorem rfold_any {w : World} {c n1 n2 c1 c2 : Nat} {A1 A2 : Option Addr} {S1 S2 : Nat → Prop} {xs ys : List Nat} (hc : c < 256) (R1 : RdL ByR 1 S1 w A1 n1 xs) (R2 : RdL ByR 1 S2 w A2 n2 ys) (h1 : n1 ≤ 1000000) (h2 : n2 ≤ 1000000) :
    Calls Tryz.prog 14 #[.int .u8 (c : Int), .slice A1 n1 c1, .slice A2 n2 c2] w fun e w' => ∃ A c', e = .returned (.slice A n2 c') ∧ n2 ≤ c' ∧ RdL ByR 1 (fun j => w.heap.size ≤ j) w' A n2 (fd c xs ys) ∧ Below w.heap.size w w' := by
  have H1 := Lib.hid R1
  have H2 := Lib.hid R2
  have HX := Lib.hid R1.1
  have HY := Lib.hid R2.1
  clear R1 R2
  go_enter Tryz.func14, Tryz.ntmps14
  go_wp2_with fail
  go_loopw [7, 8] (fun vs vj wr => ∃ (j : Nat) (A : Option Addr) (c' : Nat), j ≤ n2 ∧ vj = .int .i64 j ∧ vs = .slice A j c' ∧ Hid (j ≤ c') ∧ Hid (OwnL ByR 5 1 w.heap.size (fun j => w.heap.size ≤ j) wr (.slice A j c') j (fdU c xs ys j)) ∧ Hid (Below w.heap.size w wr)) (fun _ vj _ => n2 - (intOf vj).toNat)
  case atStart => exact ⟨0, none, 0, Nat.zero_le _, rfl, rfl, Lib.hid (Nat.le_refl _), Lib.hid (by exact OwnL.nil_), Lib.hid (Below.refl _ _)⟩
  case round =>
    obtain ⟨j, AO, cO, hj, rfl, rfl, HC, HO, HB⟩ := hrel
    have p0 : (0 : Int) ≤ (j : Int) := Int.natCast_nonneg _
    have hszr := HB.out.size
    by_cases hlt : j < n2
    · have p1 : (j : Int) < (n2 : Int) := by omega
      obtain ⟨bb, ob, rfl, _, hbb⟩ := H2.out.addr hlt
      obtain ⟨v2, y1⟩ := by_at H2.out hlt
      replace v2 := (HB.out.cell (p := ⟨bb, ob + j, none⟩) hbb).trans v2
      have HN := Lib.hid (fdU_next c xs ys j)
      by_cases hl1 : j < n1
      · have p2 : (j : Int) < (n1 : Int) := by omega
        obtain ⟨ba, oa, rfl, _, hba⟩ := H1.out.addr hl1
        obtain ⟨v1, x1⟩ := by_at H1.out hl1
        replace v1 := (HB.out.cell (p := ⟨ba, oa + j, none⟩) hba).trans v1
        have hm := rmul_any (w := wr) hc x1
        have hxb := xor_bits y1 (gm_lt (a := c) (b := gt xs j))
        have hxl := xor_lt y1 (gm_lt (a := c) (b := gt xs j))
        clear hlt hl1
        go_wp2_with fail
        refine hm.mono ?_
        rintro e w5 ⟨rfl, hw5⟩
        rw [hw5]
        clear hw5 hm
        go_wp2_with (at_builtin; go_must (refine wpList_push1 ByR.stable ByR.one sl_by (by rfl) (by rfl) (base := w.heap.size) (S := fun j => w.heap.size ≤ j) (cs := #[.int .u8 ((gt ys j ^^^ gm c (gt xs j) : Nat) : Int)]) (y := gt ys j ^^^ gm c (gt xs j)) (by rfl) (by rfl) HO.out (by rfl) ⟨hxl, rfl⟩ (by unfold maxLen; omega) (by omega) hszr ?_); intro A8 c8 ug hc8 own9 hlt8 hb8 hat8; rw [← HN.out] at own9; have HO9 := Lib.hid own9; have HB9 := Lib.hid (HB.out.trans hb8); clear own9 hb8 hlt8 hat8)
        exact ⟨⟨j + 1, A8, c8, by omega, by go_num, rfl, Lib.hid hc8, HO9, HB9⟩, by simp [intOf]; omega⟩
      · have p2 : ¬ (j : Int) < (n1 : Int) := by omega
        have e0 : gt ys j ^^^ gm c (gt xs j) = gt ys j := by rw [gt_ge (l := xs) (by rw [HX.out]; omega), gm_zero, Nat.xor_zero]
        rw [e0] at HN
        clear hlt hl1 e0
        go_wp2_with (at_builtin; go_must (refine wpList_push1 ByR.stable ByR.one sl_by (by rfl) (by rfl) (base := w.heap.size) (S := fun j => w.heap.size ≤ j) (cs := #[.int .u8 (gt ys j : Int)]) (y := gt ys j) (by rfl) (by rfl) HO.out (by rfl) ⟨y1, rfl⟩ (by unfold maxLen; omega) (by omega) hszr ?_); intro A8 c8 ug hc8 own9 hlt8 hb8 hat8; rw [← HN.out] at own9; have HO9 := Lib.hid own9; have HB9 := Lib.hid (HB.out.trans hb8); clear own9 hb8 hlt8 hat8)
        exact ⟨⟨j + 1, A8, c8, by omega, by go_num, rfl, Lib.hid hc8, HO9, HB9⟩, by simp [intOf]; omega⟩
    · have p1 : ¬ (j : Int) < (n2 : Int) := by omega
      obtain rfl : j = n2 := by omega
      go_wp2_with fail
      go_ret
      obtain ⟨A', c', e, _, hr⟩ := HO.out.rd (S' := fun j => w.heap.size ≤ j) (fun j hj => hj) (fun cs x hx => hx)
      injection e with e1 _ e2
      subst e1; subst e2
      rw [fdU_all HY.out] at hr
      exact ⟨AO, cO, rfl, HC.out, hr, HB.out⟩
set_option maxRecDepth 100000 in
set_option maxHeartbeats 8000000 in
theorem rscale_any {w : World} {c n1 c1 : Nat} {A1 : Option Addr} {S1 : Nat → Prop} {xs : List Nat} (hc : c < 256) (R1 : RdL ByR 1 S1 w A1 n1 xs) (h1 : n1 ≤ 1000000) :
    Calls Tryz.prog 80 #[.int .u8 (c : Int), .slice A1 n1 c1] w fun e w' => ∃ A c', e = .returned (.slice A n1 c') ∧ n1 ≤ c' ∧ RdL ByR 1 (fun j => w.heap.size ≤ j) w' A n1 (sc c xs) ∧ Below w.heap.size w w' := by
  have H1 := Lib.hid R1
  have HX := Lib.hid R1.1
  clear R1
  go_enter Tryz.func80, Tryz.ntmps80
  go_wp2_with fail
  go_loopw [5, 6] (fun vs vj wr => ∃ (j : Nat) (A : Option Addr) (c' : Nat), j ≤ n1 ∧ vj = .int .i64 j ∧ vs = .slice A j c' ∧ Hid (j ≤ c') ∧ Hid (OwnL ByR 5 1 w.heap.size (fun j => w.heap.size ≤ j) wr (.slice A j c') j (scU c xs j)) ∧ Hid (Below w.heap.size w wr)) (fun _ vj _ => n1 - (intOf vj).toNat)
  case atStart => exact ⟨0, none, 0, Nat.zero_le _, rfl, rfl, Lib.hid (Nat.le_refl _), Lib.hid (by exact OwnL.nil_), Lib.hid (Below.refl _ _)⟩
  case round =>
    obtain ⟨j, AO, cO, hj, rfl, rfl, HC, HO, HB⟩ := hrel
    have p0 : (0 : Int) ≤ (j : Int) := Int.natCast_nonneg _
    have hszr := HB.out.size
    by_cases hlt : j < n1
    · have p1 : (j : Int) < (n1 : Int) := by omega
      obtain ⟨ba, oa, rfl, _, hba⟩ := H1.out.addr hlt
      obtain ⟨v1, x1⟩ := by_at H1.out hlt
      replace v1 := (HB.out.cell (p := ⟨ba, oa + j, none⟩) hba).trans v1
      have HN := Lib.hid (scU_next c xs j)
      have hm := rmul_any (w := wr) hc x1
      have hxl := gm_lt (a := c) (b := gt xs j)
      clear hlt
      go_wp2_with fail
      refine hm.mono ?_
      rintro e w5 ⟨rfl, hw5⟩
      rw [hw5]
      clear hw5 hm
      go_wp2_with (at_builtin; go_must (refine wpList_push1 ByR.stable ByR.one sl_by (by rfl) (by rfl) (base := w.heap.size) (S := fun j => w.heap.size ≤ j) (cs := #[.int .u8 (gm c (gt xs j) : Int)]) (y := gm c (gt xs j)) (by rfl) (by rfl) HO.out (by rfl) ⟨hxl, rfl⟩ (by unfold maxLen; omega) (by omega) hszr ?_); intro A8 c8 ug hc8 own9 hlt8 hb8 hat8; rw [← HN.out] at own9; have HO9 := Lib.hid own9; have HB9 := Lib.hid (HB.out.trans hb8); clear own9 hb8 hlt8 hat8)
      exact ⟨⟨j + 1, A8, c8, by omega, by go_num, rfl, Lib.hid hc8, HO9, HB9⟩, by simp [intOf]; omega⟩
    · have p1 : ¬ (j : Int) < (n1 : Int) := by omega
      obtain rfl : j = n1 := by omega
      go_wp2_with fail
      go_ret
      obtain ⟨A', c', e, _, hr⟩ := HO.out.rd (S' := fun j => w.heap.size ≤ j) (fun j hj => hj) (fun cs x hx => hx)
      injection e with e1 _ e2
      subst e1; subst e2
      rw [scU_all HX.out] at hr
      exact ⟨AO, cO, rfl, HC.out, hr, HB.out⟩
end Go.Proofs.YthhljmlpjnkfgaaGreat

set_option linter.unusedSimpArgs false
set_option linter.unusedVariables false
namespace Go.Proofs.YthhljmlpjnkfgaaGreat
open Go.RowKit Go.Cib
attribute [local go_sem] cell_set Later.cell Later.frozen Grw.cell Grw.frozen

def dl (i j : Nat) : Nat := if i = j then 1 else 0
theorem dl_lt (i j : Nat) : dl i j < 256 := by unfold dl; split <;> omega
theorem gm_sum {f : Nat → Nat} (h : ∀ i, f i < 256) (c : Nat) (n : Nat) : gm (sumx f n) c = sumx (fun i => gm (f i) c) n := by
  rw [gm_comm, sumx_mul h c n]
  exact sumx_cong fun i _ => gm_comm _ _
theorem sum_dl {f : Nat → Nat} {n l : Nat} (hl : l < n) (hf : f l < 256) : sumx (fun t => gm (dl l t) (f t)) n = f l := by
  rw [sumx_one hl fun i _ hne => by unfold dl; rw [if_neg (fun e => hne e.symm), zero_gm]]
  unfold dl
  rw [if_pos rfl, gm_comm, gm_one2 hf]
theorem sum_dl2 {f : Nat → Nat} {n l : Nat} (hl : l < n) (hf : f l < 256) : sumx (fun t => gm (f t) (dl t l)) n = f l := by
  rw [sumx_one hl fun i _ hne => by unfold dl; rw [if_neg hne, gm_zero]]
  unfold dl
  rw [if_pos rfl, gm_one2 hf]
section
variable {V : Rws} {n : Nat}
theorem invE_lt (hV : Shp n n V) (h : Inj n V) {i j : Nat} (hi : i < n) : invE V n i j < 256 := gt_lt ((eliR_ok hV h).2.1.shp.row hi).2 _
theorem dt_two (r : List Nat) (y : Nat → Nat) : dt (n + n) r y = sumx (fun l => gm (gt r l) (y l)) n ^^^ sumx (fun j => gm (gt r (n + j)) (y (n + j))) n := sumx_add _ _ _
theorem dt_beg (hV : Shp n n V) {i : Nat} (hi : i < n) (y : Nat → Nat) (hy : y (n + i) < 256) : dt (n + n) (ra (begF V n n) i) y = sumx (fun l => gm (gt (ra V i) l) (y l)) n ^^^ y (n + i) := by
  rw [begF_ra hi, dt_two]
  congr 1
  · exact sumx_cong fun l hl => by rw [begRow_gt hV hi (by omega), if_pos hl]
  · rw [← sum_dl (f := fun j => y (n + j)) hi hy]
    refine sumx_cong fun j hj => ?_
    rw [begRow_gt hV hi (by omega), if_neg (by omega)]
    unfold dl
    by_cases e : i = j
    · rw [if_pos (by omega), if_pos e]
    · rw [if_neg (by omega), if_neg e]
theorem dt_eli (hV : Shp n n V) (h : Inj n V) {i : Nat} (hi : i < n) (y : Nat → Nat) (hy : y i < 256) : dt (n + n) (ra (eliR V n) i) y = y i ^^^ sumx (fun j => gm (invE V n i j) (y (n + j))) n := by
  rw [dt_two]
  congr 1
  rw [← sum_dl (f := y) hi hy]
  refine sumx_cong fun l hl => ?_
  rw [(eliR_ok hV h).2.1.unit i l hi hl]
  rfl
/-- The inverse before the matrix. -/
theorem inv_left (hV : Shp n n V) (h : Inj n V) {i t : Nat} (hi : i < n) (ht : t < n) : sumx (fun j => gm (invE V n i j) (gt (ra V j) t)) n = dl i t := by
  have hb : ∀ j, gt (ra V j) t < 256 := fun j => by
    by_cases hj : j < n
    · exact gt_lt (hV.row hj).2 _
    · rw [show ra V j = [] by unfold ra; rw [List.getD_eq_getElem?_getD, List.getElem?_eq_none (by rw [hV.1]; omega)]; rfl]
      rw [gt_ge (by exact Nat.zero_le _)]; omega
  have hy : ∀ l, (fun l => if l < n then dl l t else gt (ra V (l - n)) t) l < 256 := fun l => by
    show (if l < n then dl l t else gt (ra V (l - n)) t) < 256
    split
    · exact dl_lt _ _
    · exact hb _
  have h1 := ((eliR_ok hV h).2.2 (fun l => if l < n then dl l t else gt (ra V (l - n)) t) hy).2 fun i hi => by
    rw [dt_beg hV hi _ (hy _)]
    try dsimp only
    rw [if_neg (by omega), show n + i - n = i by omega]
    rw [sumx_cong (g := fun l => gm (gt (ra V i) l) (dl l t)) fun l hl => by rw [if_pos hl]]
    rw [sum_dl2 (f := fun l => gt (ra V i) l) ht (gt_lt (hV.row hi).2 _), Nat.xor_self]
  have h2 := h1 i hi
  rw [dt_eli hV h hi _ (hy i)] at h2
  try dsimp only at h2
  rw [if_pos hi] at h2
  have h3 := xor_zero_eq h2
  rw [h3]
  exact sumx_cong fun j _ => by rw [if_neg (by omega), show n + j - n = j by omega]
/-- The inverse behind the matrix. -/
theorem inv_right (hV : Shp n n V) (h : Inj n V) {i t : Nat} (hi : i < n) (ht : t < n) : sumx (fun l => gm (gt (ra V i) l) (invE V n l t)) n = dl i t := by
  have hy : ∀ l, (fun l => if l < n then invE V n l t else dl (l - n) t) l < 256 := fun l => by
    show (if l < n then invE V n l t else dl (l - n) t) < 256
    split
    · exact invE_lt hV h (by assumption)
    · exact dl_lt _ _
  have h1 := ((eliR_ok hV h).2.2 (fun l => if l < n then invE V n l t else dl (l - n) t) hy).1 fun i hi => by
    rw [dt_eli hV h hi _ (hy i)]
    try dsimp only
    rw [if_pos hi]
    rw [sumx_cong (g := fun j => gm (invE V n i j) (dl j t)) fun j hj => by rw [if_neg (by omega), show n + j - n = j by omega]]
    rw [sum_dl2 (f := fun j => invE V n i j) ht (invE_lt hV h hi), Nat.xor_self]
  have h2 := h1 i hi
  rw [dt_beg hV hi _ (hy _)] at h2
  try dsimp only at h2
  rw [if_neg (by omega), show n + i - n = i by omega] at h2
  rw [← xor_zero_eq h2]
  exact sumx_cong fun l hl => by rw [if_pos hl]
end
/-- A row times the inverse, times what the matrix makes of data, is the row times the data. -/
theorem sum_back {k : Nat} {r d : Nat → Nat} {X V : Nat → Nat → Nat} (hd : ∀ t, d t < 256) (hXV : ∀ l t, l < k → t < k → sumx (fun j => gm (X l j) (V j t)) k = dl l t) :
    sumx (fun j => gm (sumx (fun l => gm (r l) (X l j)) k) (sumx (fun t => gm (V j t) (d t)) k)) k = sumx (fun l => gm (r l) (d l)) k := by
  have e1 : ∀ j, gm (sumx (fun l => gm (r l) (X l j)) k) (sumx (fun t => gm (V j t) (d t)) k) = sumx (fun l => gm (r l) (gm (X l j) (sumx (fun t => gm (V j t) (d t)) k))) k := fun j => by
    rw [gm_sum (fun i => gm_lt)]
    exact sumx_cong fun l _ => gm_assoc _ _ _
  rw [sumx_cong fun j _ => e1 j, sumx_swap]
  refine sumx_cong fun l hl => ?_
  rw [← sumx_mul (fun i => gm_lt)]
  congr 1
  have e2 : ∀ j, gm (X l j) (sumx (fun t => gm (V j t) (d t)) k) = sumx (fun t => gm (gm (X l j) (V j t)) (d t)) k := fun j => by
    rw [sumx_mul (fun i => gm_lt)]
    exact sumx_cong fun t _ => (gm_assoc _ _ _).symm
  rw [sumx_cong fun j _ => e2 j, sumx_swap]
  rw [sumx_cong (g := fun t => gm (dl l t) (d t)) fun t ht => by rw [← gm_sum (fun i => gm_lt), hXV l t hl ht]]
  exact sum_dl hl (hd l)
end Go.Proofs.YthhljmlpjnkfgaaGreat

set_option linter.unusedSimpArgs false
set_option linter.unusedVariables false
namespace Go.Proofs.YthhljmlpjnkfgaaGreat
open Go.RowKit Go.Cib
attribute [local go_sem] cell_set Later.cell Later.frozen Grw.cell Grw.frozen

theorem combF_gt {n p : Nat} : ∀ (cs : List Nat) (rs : Rws) (z : List Nat), cs.length = rs.length → z.length = n → (∀ r ∈ rs, r.length = n) →
    gt (combF cs rs z) p = gt z p ^^^ sumx (fun j => gm (gt cs j) (gt (ra rs j) p)) cs.length := by
  intro cs
  induction cs with
  | nil => intro rs z _ _ _; cases rs <;> simp [combF, sumx]
  | cons c cs ih =>
    intro rs z hl hz hr
    cases rs with
    | nil => simp at hl
    | cons r rs =>
      have hrl := hr r (List.mem_cons_self ..)
      rw [show combF (c :: cs) (r :: rs) z = combF cs rs (fd c r z) from rfl, ih rs (fd c r z) (by simpa using hl) (by rw [fd_len, hz]) (fun x hx => hr x (List.mem_cons_of_mem _ hx)), fd_gt c r z p (by omega)]
      rw [List.length_cons, Nat.add_comm cs.length 1, sumx_add]
      rw [← Nat.xor_assoc]
      congr 1
      · congr 1
        show _ = 0 ^^^ gm (gt (c :: cs) 0) (gt (ra (r :: rs) 0) p)
        rw [Nat.zero_xor]; rfl
      · exact sumx_cong fun j _ => by rw [Nat.add_comm 1 j]; rfl
theorem gt_zeros (n p : Nat) : gt (List.replicate n 0) p = 0 := by
  unfold gt
  rw [List.getD_eq_getElem?_getD, List.getElem?_replicate]
  split <;> rfl
theorem ra_map {us : List Nat} {f : Nat → List Nat} {j : Nat} (hj : j < us.length) : ra (us.map f) j = f (gt us j) := ra_some (by rw [List.getElem?_map, gt_of_lt hj]; rfl)
/-- The row number i that a coder makes of data. -/
def codeRow (k n : Nat) (D : Rws) (i : Nat) : List Nat := combF (rowF k i) D (List.replicate n 0)
theorem rowF_at {k i l : Nat} (h : l < k) : gt (rowF k i) l = fac k i l := range_gt h
section
variable {k n : Nat} {D : Rws}
theorem codeRow_ok (hD : Shp k n D) (i : Nat) : (codeRow k n D i).length = n ∧ Byt (codeRow k n D i) := combF_ok _ _ _ (by simp) (byt_zeros n)
theorem codeRow_gt (hD : Shp k n D) (i p : Nat) : gt (codeRow k n D i) p = sumx (fun l => gm (fac k i l) (gt (ra D l) p)) k := by
  unfold codeRow
  rw [combF_gt (n := n) (rowF k i) D _ (by rw [rowF_len, hD.1]) (by simp) (fun r hr => (hD.2 r hr).1), gt_zeros, Nat.zero_xor, rowF_len]
  exact sumx_cong fun l hl => by rw [rowF_at hl]
theorem ra_byt (hD : Shp k n D) (t p : Nat) : gt (ra D t) p < 256 := by
  by_cases h : t < k
  · exact gt_lt (hD.row h).2 _
  · rw [show ra D t = [] by unfold ra; rw [List.getD_eq_getElem?_getD, List.getElem?_eq_none (by rw [hD.1]; omega)]; rfl, gt_ge (by exact Nat.zero_le _)]; omega
/-- The code is systematic. -/
theorem codeRow_data (hD : Shp k n D) {i : Nat} (hi : i < k) : codeRow k n D i = ra D i := by
  refine gt_ext (by rw [(codeRow_ok hD i).1, (hD.row hi).1]) fun p _ => ?_
  rw [codeRow_gt hD]
  rw [sumx_cong (g := fun l => gm (dl i l) (gt (ra D l) p)) fun l hl => by unfold fac; rw [if_pos hi]; rfl]
  exact sum_dl hi (ra_byt hD i p)
theorem planF_gt {us : List Nat} (hul : us.length = k) (hI : Inj k (useF k us)) (i j : Nat) (hj : j < k) : gt (planF k us i) j = sumx (fun l => gm (fac k i l) (invE (useF k us) k l j)) k := by
  have hs := inv_shp hul hI
  unfold planF
  rw [combF_gt (n := k) (rowF k i) _ _ (by rw [rowF_len, hs.1]) (by simp) (fun r hr => (hs.2 r hr).1), gt_zeros, Nat.zero_xor, rowF_len]
  exact sumx_cong fun l hl => by rw [rowF_at hl, mkF_ra hl, range_gt hj]
theorem planF_len {us : List Nat} (hul : us.length = k) (hI : Inj k (useF k us)) (i : Nat) : (planF k us i).length = k := (combF_ok _ _ _ (by simp) (byt_zeros k)).1
/-- Any k rows of a code, with the plan's factors, make any row of it. -/
theorem made_back {us : List Nat} {ss : Rws} (hD : Shp k n D) (hul : us.length = k) (hI : Inj k (useF k us)) (hss : ∀ u ∈ us, ra ss u = codeRow k n D u) (i : Nat) : madeF (planF k us i) us ss n = codeRow k n D i := by
  have hpl := planF_len hul hI i
  have hrl : ∀ r ∈ us.map (ra ss), r.length = n := fun r hr => by
    obtain ⟨u, hu, rfl⟩ := List.mem_map.1 hr
    rw [hss u hu]; exact (codeRow_ok hD u).1
  unfold madeF
  refine gt_ext (by rw [(combF_ok (m := n) _ _ _ (by simp) (byt_zeros n)).1, (codeRow_ok hD i).1]) fun p _ => ?_
  rw [combF_gt (n := n) _ _ _ (by rw [hpl, List.length_map, hul]) (by simp) hrl, gt_zeros, Nat.zero_xor, hpl, codeRow_gt hD]
  rw [← sum_back (r := fac k i) (d := fun t => gt (ra D t) p) (X := fun l j => invE (useF k us) k l j) (V := fun j t => gt (ra (useF k us) j) t) (fun t => ra_byt hD t p) (fun l t hl ht => inv_left (useF_shp hul) hI hl ht)]
  refine sumx_cong fun j hj => ?_
  rw [planF_gt hul hI i j hj, ra_map (by omega), hss _ (gt_mem (by omega)), codeRow_gt hD]
  congr 1
  refine sumx_cong fun t ht => ?_
  congr 1
  unfold useF
  rw [ra_map (by omega), rowF_at ht]
end
end Go.Proofs.YthhljmlpjnkfgaaGreat
