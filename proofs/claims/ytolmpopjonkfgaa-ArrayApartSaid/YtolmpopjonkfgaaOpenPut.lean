/-
  Puts and bools among the arguments.
-/
import Derived.Test.YtolmpopjonkfgaaDrvK
import Derived.Test.YtolmpopjonkfgaaOpen
set_option linter.unusedSimpArgs false
set_option linter.unusedVariables false
namespace Go.Proofs.Ytolmpopjonkfgaa
open Go.RowKit Go.Cib
attribute [local go_sem] cell_set Later.cell Later.frozen Grw.cell Grw.frozen
open Go.ChangeShapes Go.WideShapes Go.ChangeAt Go.Deep

theorem laidOut_ : laidOutB Try.prog = true := by kernel_rfl
theorem ownKnob_ : ownKnob Try.prog.godebug = none := by kernel_rfl
theorem sl_put : Try.prog.underlying 22 = some (.slice 29) := by kernel_rfl
theorem sl_bool : Try.prog.underlying 23 = some (.slice 4) := by kernel_rfl

theorem opens_bool : Opens Try.prog 4 BoolR 1 :=
  ⟨by kernel_rfl, by omega, fun H enc w base spare held fuel cs x _ hx => by
    obtain ⟨n, rfl, _⟩ := DataW.trod_bool Try.underlying4 hx
    exact ⟨n, rfl⟩⟩
set_option maxRecDepth 100000 in
theorem opens_put : Opens Try.prog 29 PutR 2 := by
  refine ⟨by kernel_rfl, by omega, fun H enc w base spare held fuel cs x hl hx => ?_⟩
  obtain ⟨xs, n, _, _, hlen, hxl, hf⟩ := DataW.trod_struct Try.underlying29 hx
  match cs, hl with
  | [c0, c1], _ =>
    have f0 := hf 0 _ rfl
    have f1 := hf 1 _ rfl
    have k1 : Try.prog.cellsOf 3 = 1 := by kernel_rfl
    have k2 : Try.prog.cellsOf 5 = 1 := by kernel_rfl
    have hx3 : xs.length = 2 := hxl
    simp only [List.getElem_toArray, List.getElem_cons_zero, List.getElem_cons_succ, k1, k2, List.drop_zero, List.drop_succ_cons, List.take_succ_cons, List.take_zero] at f0 f1
    rw [List.getElem?_eq_getElem (by omega)] at f0 f1
    obtain ⟨g, e1, _, _⟩ := DataW.trod_int Try.underlying3 f0
    obtain ⟨z, e2, _, _⟩ := DataW.trod_int Try.underlying5 f1
    simp only [List.cons.injEq, and_true] at e1 e2
    subst e1; subst e2
    exact ⟨(g, z), rfl⟩
theorem keeps_any (n at_ c : Int) (A0 A1 : Option Addr) (m0 c0 m1 c1 : Nat) (w : World) {first : List (Int × Int)} {ks : List Bool}
    (R0 : Hid (RdL PutR 2 (fun _ => True) w A0 m0 first)) (R1 : Hid (RdL BoolR 1 (fun _ => True) w A1 m1 ks)) :
    Calls Try.prog 3 #[.int .i64 n, .slice A0 m0 c0, .int .i64 at_, .int .u8 c, .slice A1 m1 c1] w fun e w' => e = .returned (.bool true) ∧ Below w.heap.size w w' := by
  by_cases h : 2 ≤ n ∧ n ≤ 20 ∧ m0 ≤ 100 ∧ m1 ≤ 200
  · obtain ⟨k, rfl⟩ : ∃ k : Nat, n = k := ⟨n.toNat, by omega⟩
    exact keeps_good k at_ c A0 A1 m0 c0 m1 c1 w (by omega) (by omega) h.2.2.1 h.2.2.2 R0 R1
  · exact keeps_bad n at_ c A0 A1 m0 c0 m1 c1 w h
end Go.Proofs.Ytolmpopjonkfgaa
