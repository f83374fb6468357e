/-
  ArrayApart, whatever comes in.
-/
import Derived.Test.YtolmpopjonkfgaaApart3
import Derived.Test.YtolmpopjonkfgaaOpenPut
set_option linter.unusedSimpArgs false
set_option linter.unusedVariables false
namespace Go.Proofs.Ytolmpopjonkfgaa
open Go.RowKit Go.Cib
attribute [local go_sem] cell_set Later.cell Later.frozen Grw.cell Grw.frozen
open Go.ChangeShapes Go.WideShapes Go.ChangeAt Go.Deep

theorem sl_actA : Try.prog.underlying 70 = some (.slice 75) := by kernel_rfl
theorem sl_bools : Try.prog.underlying 64 = some (.slice 23) := by kernel_rfl
theorem opens_bools : Opens Try.prog 23 BoolsR 1 :=
  ⟨by kernel_rfl, by omega, fun H enc w base spare held fuel cs x _ hx => by
    obtain ⟨A, n, c, xs, rfl, _, _, hr⟩ := opens_slice sl_bool opens_bool hx
    exact ⟨xs, A, n, c, rfl, hr⟩⟩
set_option maxRecDepth 100000 in
theorem opens_actA : Opens Try.prog 75 ActAR 7 := by
  refine ⟨by kernel_rfl, by omega, fun H enc w base spare held fuel cs x hl hx => ?_⟩
  obtain ⟨xs, n, _, _, hlen, hxl, hf⟩ := DataW.trod_struct Try.underlying75 hx
  match cs, hl with
  | [c0, c1, c2, c3, c4, c5, c6], _ =>
    have f0 := hf 0 _ rfl
    have f1 := hf 1 _ rfl
    have f2 := hf 2 _ rfl
    have f3 := hf 3 _ rfl
    have f4 := hf 4 _ rfl
    have f5 := hf 5 _ rfl
    have f6 := hf 6 _ rfl
    have k1 : Try.prog.cellsOf 3 = 1 := by kernel_rfl
    have k2 : Try.prog.cellsOf 5 = 1 := by kernel_rfl
    have k3 : Try.prog.cellsOf 40 = 1 := by kernel_rfl
    have k4 : Try.prog.cellsOf 64 = 1 := by kernel_rfl
    have hx3 : xs.length = 7 := hxl
    simp only [List.getElem_toArray, List.getElem_cons_zero, List.getElem_cons_succ, k1, k2, k3, k4, List.drop_zero, List.drop_succ_cons, List.take_succ_cons, List.take_zero] at f0 f1 f2 f3 f4 f5 f6
    rw [List.getElem?_eq_getElem (by omega)] at f0 f1 f2 f3 f4 f5 f6
    obtain ⟨g0, e0, _, _⟩ := DataW.trod_int Try.underlying3 f0
    obtain ⟨g1, e1, _, _⟩ := DataW.trod_int Try.underlying3 f1
    obtain ⟨g2, e2, _, _⟩ := DataW.trod_int Try.underlying3 f2
    obtain ⟨g3, e3, _, _⟩ := DataW.trod_int Try.underlying3 f3
    obtain ⟨g4, e4, _, _⟩ := DataW.trod_int Try.underlying5 f4
    obtain ⟨g5, e5, _, _⟩ := DataW.trod_int Try.underlying40 f5
    obtain ⟨A6, m6, n6, y6, e6, _, _, r6⟩ := opens_slice sl_bools opens_bools f6
    simp only [List.cons.injEq, and_true] at e0 e1 e2 e3 e4 e5 e6
    subst e0; subst e1; subst e2; subst e3; subst e4; subst e5; subst e6
    exact ⟨⟨g0, g1, g2, g3, g4, g5, y6⟩, A6, m6, n6, rfl, r6⟩
theorem apart_any (n s d : Int) (A : Option Addr) (m cc : Nat) (w : World) {acts : List ActA} (R : Hid (RdL ActAR 7 (fun _ => True) w A m acts)) :
    Calls Try.prog 8 #[.int .i64 n, .int .i64 s, .int .i64 d, .slice A m cc] w fun e w' => e = .returned (.bool true) ∧ Below w.heap.size w w' := by
  by_cases h : 2 ≤ n ∧ n ≤ 8 ∧ 1 ≤ s ∧ s ≤ 10 ∧ 0 ≤ d ∧ d < n
  · obtain ⟨n', rfl⟩ : ∃ k : Nat, n = k := ⟨n.toNat, by omega⟩
    obtain ⟨s', rfl⟩ : ∃ k : Nat, s = k := ⟨s.toNat, by omega⟩
    obtain ⟨d', rfl⟩ : ∃ k : Nat, d = k := ⟨d.toNat, by omega⟩
    exact apart_good n' s' d' A m cc w (by omega) (by omega) (by omega) (by omega) (by omega) R
  · exact apart_bad n s d A m cc w h
end Go.Proofs.Ytolmpopjonkfgaa
