/-
  Acts among the arguments.
-/
import Derived.Test.YtnceaimhhfjmdaaCopies
import Derived.Test.YtnceaimhhfjmdaaOpenPut
set_option linter.unusedSimpArgs false
set_option linter.unusedVariables false
namespace Go.Proofs.Ytnceaimhhfjmdaa
open Go.RowKit Go.Cib
attribute [local go_sem] cell_set Later.cell Later.frozen Grw.cell Grw.frozen
open Go.ChangeShapes Go.WideShapes Go.ChangeAt Go.Deep

theorem sl_act : Try.prog.underlying 71 = some (.slice 78) := by kernel_rfl
theorem sl_u8 : Try.prog.underlying 27 = some (.slice 5) := by kernel_rfl
theorem opens_u8 : Opens Try.prog 5 U8R 1 :=
  ⟨by kernel_rfl, by omega, fun H enc w base spare held fuel cs x _ hx => by
    obtain ⟨n, rfl, _, _⟩ := DataW.trod_int Try.underlying5 hx
    exact ⟨n, rfl⟩⟩
set_option maxRecDepth 100000 in
theorem opens_act : Opens Try.prog 78 ActR 7 := by
  refine ⟨by kernel_rfl, by omega, fun H enc w base spare held fuel cs x hl hx => ?_⟩
  obtain ⟨xs, n, _, _, hlen, hxl, hf⟩ := DataW.trod_struct Try.underlying78 hx
  match cs, hl with
  | [c0, c1, c2, c3, c4, c5, c6], _ =>
    have f0 := hf 0 _ rfl
    have f1 := hf 1 _ rfl
    have f2 := hf 2 _ rfl
    have f3 := hf 3 _ rfl
    have f4 := hf 4 _ rfl
    have f5 := hf 5 _ rfl
    have f6 := hf 6 _ rfl
    have k1 : Try.prog.cellsOf 3 = 1 := by kernel_rfl
    have k2 : Try.prog.cellsOf 5 = 1 := by kernel_rfl
    have k3 : Try.prog.cellsOf 66 = 1 := by kernel_rfl
    have k4 : Try.prog.cellsOf 23 = 1 := by kernel_rfl
    have k5 : Try.prog.cellsOf 27 = 1 := by kernel_rfl
    have hx3 : xs.length = 7 := hxl
    simp only [List.getElem_toArray, List.getElem_cons_zero, List.getElem_cons_succ, k1, k2, k3, k4, k5, List.drop_zero, List.drop_succ_cons, List.take_succ_cons, List.take_zero] at f0 f1 f2 f3 f4 f5 f6
    rw [List.getElem?_eq_getElem (by omega)] at f0 f1 f2 f3 f4 f5 f6
    obtain ⟨g0, e0, _, _⟩ := DataW.trod_int Try.underlying3 f0
    obtain ⟨g1, e1, _, _⟩ := DataW.trod_int Try.underlying3 f1
    obtain ⟨g2, e2, _, _⟩ := DataW.trod_int Try.underlying3 f2
    obtain ⟨g3, e3, _, _⟩ := DataW.trod_int Try.underlying5 f3
    obtain ⟨g4, e4, _, _⟩ := DataW.trod_int Try.underlying66 f4
    obtain ⟨A5, m5, n5, y5, e5, _, _, r5⟩ := opens_slice sl_bool opens_bool f5
    obtain ⟨A6, m6, n6, y6, e6, _, _, r6⟩ := opens_slice sl_u8 opens_u8 f6
    simp only [List.cons.injEq, and_true] at e0 e1 e2 e3 e4 e5 e6
    subst e0; subst e1; subst e2; subst e3; subst e4; subst e5; subst e6
    exact ⟨⟨g0, g1, g2, g3, g4, y5, y6⟩, A5, m5, n5, A6, m6, n6, rfl, r5, r6⟩
theorem copies_any (n : Int) (A0 A1 : Option Addr) (m0 c0 m1 c1 : Nat) (w : World) {l0 l1 : List ActV}
    (R0 : Hid (RdL ActR 7 (fun _ => True) w A0 m0 l0)) (R1 : Hid (RdL ActR 7 (fun _ => True) w A1 m1 l1)) :
    Calls Try.prog 11 #[.int .i64 n, .slice A0 m0 c0, .slice A1 m1 c1] w fun e w' => e = .returned (.bool true) ∧ Below w.heap.size w w' := by
  by_cases h : 1 ≤ n ∧ n ≤ 20
  · obtain ⟨k, rfl⟩ : ∃ k : Nat, n = k := ⟨n.toNat, by omega⟩
    exact copies_good k A0 A1 m0 c0 m1 c1 w (by omega) (by omega) R0 R1
  · exact copies_bad n A0 A1 m0 c0 m1 c1 w h
end Go.Proofs.Ytnceaimhhfjmdaa
