/-
  ArrayRows, whatever comes in.
-/
import Derived.Test.YtolmpopjonkfgaaRows2
import Derived.Test.YtolmpopjonkfgaaOpenPut
set_option linter.unusedSimpArgs false
set_option linter.unusedVariables false
namespace Go.Proofs.Ytolmpopjonkfgaa
open Go.RowKit Go.Cib
attribute [local go_sem] cell_set Later.cell Later.frozen Grw.cell Grw.frozen

theorem rows_any (n s z c : Int) (A : Option Addr) (m cc : Nat) (w : World) {gone : List Int} (R : Hid (RdL IntR 1 (fun _ => True) w A m gone)) :
    Calls Try.prog 7 #[.int .i64 n, .int .i64 s, .int .i64 z, .slice A m cc, .int .u8 c] w fun e w' => e = .returned (.bool true) ∧ Below w.heap.size w w' := by
  by_cases h : 1 ≤ n ∧ n ≤ 12 ∧ 1 ≤ s ∧ s ≤ 10 ∧ 0 ≤ z ∧ z < s ∧ m ≤ 30
  · obtain ⟨n', rfl⟩ : ∃ k : Nat, n = k := ⟨n.toNat, by omega⟩
    obtain ⟨s', rfl⟩ : ∃ k : Nat, s = k := ⟨s.toNat, by omega⟩
    obtain ⟨z', rfl⟩ : ∃ k : Nat, z = k := ⟨z.toNat, by omega⟩
    exact rows_good n' s' z' c A m cc w (by omega) (by omega) (by omega) (by omega) (by omega) (by omega) R
  · exact rows_bad n s z c A m cc w h
end Go.Proofs.Ytolmpopjonkfgaa
