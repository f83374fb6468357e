/-
  Bytes as text; the page's own numbers.
-/
import Derived.Test.YthhljmlpjnkfgaaGreatMds
import Derived.Test.YthhljmlpjnkfgaaGreatCod6
import Derived.Lib.SlBytesConst
import Derived.Laws.BytesArg
set_option linter.unusedSimpArgs false
set_option linter.unusedVariables false
namespace Go.Proofs.YthhljmlpjnkfgaaGreat
open Go.RowKit Go.Cib
attribute [local go_sem] cell_set Later.cell Later.frozen Grw.cell Grw.frozen

def textB (xs : List Nat) : ByteArray := strOfNums (xs.map fun x : Nat => (x : Int))
theorem by_u8 {S : Nat → Prop} {w : World} {A : Option Addr} {n : Nat} {xs : List Nat} (h : RdL ByR 1 S w A n xs) : RdL U8R 1 S w A n (xs.map fun x : Nat => (x : Int)) := by
  refine ⟨by rw [List.length_map]; exact h.1, fun hn => ?_⟩
  obtain ⟨b, o, hA, hS, hlt, hc⟩ := h.2 hn
  refine ⟨b, o, hA, hS, hlt, fun i x hx => ?_⟩
  rw [List.getElem?_map] at hx
  cases hl : xs[i]? with
  | none => rw [hl] at hx; cases hx
  | some y =>
    rw [hl] at hx
    injection hx with hx
    obtain ⟨cs, h1, ⟨_, h2⟩, h3⟩ := hc i y hl
    exact ⟨cs, h1, by rw [h2, ← hx]; rfl, h3⟩
theorem text_run {S : Nat → Prop} {w : World} {A : Option Addr} {n c : Nat} {xs : List Nat} (h0 : RdL ByR 1 S w A n xs) : (convert 29 9 (.slice A n c)).run Tryz.prog w = .ok (.string (textB xs)) w := by
  have h := by_u8 h0
  unfold textB
  generalize (xs.map fun x : Nat => (x : Int)) = bs at h ⊢
  by_cases hn : 0 < n
  · obtain ⟨b, o, rfl, _, _⟩ := h.addr hn
    refine run_convert_bytes_arg w _ 5 (by kernel_rfl) (by kernel_rfl) b o n c _ h.1 (fun i hi => ?_) _ (by kernel_rfl)
    obtain ⟨hl, cs, h1, h2, h3⟩ := h.at hi
    have := h3 0 _ (by rw [h2]; rfl)
    simp only [Nat.mul_one, Nat.add_zero] at this
    rw [this]
    simp [List.getD, hl]
  · obtain rfl : n = 0 := by omega
    have hb := List.length_eq_zero_iff.1 h.1
    rw [hb, run_convert_bytes_string w _ _ 5 _ _ _ (by kernel_rfl) (by kernel_rfl) (by kernel_rfl)]
    cases A with
    | none => simp [Conv.bytesToString]; rfl
    | some a => simp [Conv.bytesToString, loadCells, loadCellsFrom]; rfl
def par1 : List Nat := combF (rowF 2 2) [[5], [9]] [0]
theorem enc1 : encU 2 [[5], [9]] (lenF0 [[5], [9]]) 1 = [par1] := rfl
theorem out1 : outF 2 3 2 [[], [9], par1] = [[5], [9]] := by decide +kernel
theorem th1 : thU [[], [9], par1] 3 = [1, 2] := by decide +kernel
theorem bad1 : thBad 2 1 3 [[], [9], par1] = false := by decide +kernel
theorem th2 : thU [[], [9], []] 3 = [1] := by decide +kernel
theorem bad2 : thBad 2 1 3 [[], [9], []] = false := by decide +kernel
theorem srt1 : srtF [2, 1] = [1, 2] := by
  unfold srtF
  simp [List.mergeSort, List.MergeSort.Internal.splitInTwo, List.merge]
theorem us1 : usN 2 [2, 1] = [1, 2] := by unfold usN; rw [srt1]; rfl
theorem pl1 : planF 2 [1, 2] 1 = [1, 0] := by decide +kernel
theorem tx5 : textB [5] = ⟨#[5]⟩ := by decide +kernel
theorem tx9 : textB [9] = ⟨#[9]⟩ := by decide +kernel
theorem tx10 : textB [1, 0] = ⟨#[1, 0]⟩ := by decide +kernel
end Go.Proofs.YthhljmlpjnkfgaaGreat
