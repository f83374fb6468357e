/-
  What every law of this seat says of its laying out; acts on an oracle among the arguments.
-/
import Derived.Test.YtpibaahiboajhaaOsc4
import Derived.Test.YtpibaahiboajhaaOpen
set_option linter.unusedSimpArgs false
set_option linter.unusedVariables false
namespace Go.Proofs.Ytpibaahiboajhaa
open Go.RowKit Go.Cib
attribute [local go_sem] cell_set Later.cell Later.frozen Grw.cell Grw.frozen
open Go.ChangeShapes Go.WideShapes Go.ChangeAt Go.Deep

theorem laidOut_ : laidOutB Try.prog = true := by kernel_rfl
theorem ownKnob_ : ownKnob Try.prog.godebug = none := by kernel_rfl
theorem u64_bounds {z : Int} (h : (Lit.int .u64 z).wf = true) : 0 ≤ z ∧ z < 18446744073709551616 := by
  simp [Lit.wf, IntKind.min, IntKind.max, IntKind.bits, IntKind.signed] at h
  omega
structure OAct where
  kind : Int
  n : Int
def OActR (_ : Nat → Prop) (_ : World) (cs : List Value) (x : OAct) : Prop := cs = [.int .i64 x.kind, .int .u64 x.n] ∧ 0 ≤ x.n ∧ x.n < 18446744073709551616
theorem OActR.stable : Stable OActR := fun _ _ _ _ _ _ h _ => h
theorem sl_oact : Try.prog.underlying 23 = some (.slice 30) := by kernel_rfl
set_option maxRecDepth 100000 in
theorem opens_oact : Opens Try.prog 30 OActR 2 := by
  refine ⟨by kernel_rfl, by omega, fun H enc w base spare held fuel cs x hl hx => ?_⟩
  obtain ⟨xs, n, _, _, hlen, hxl, hf⟩ := DataW.trod_struct Try.underlying30 hx
  match cs, hl with
  | [c0, c1], _ =>
    have f0 := hf 0 _ rfl
    have f1 := hf 1 _ rfl
    have k1 : Try.prog.cellsOf 3 = 1 := by kernel_rfl
    have k2 : Try.prog.cellsOf 22 = 1 := by kernel_rfl
    have hx3 : xs.length = 2 := hxl
    simp only [List.getElem_toArray, List.getElem_cons_zero, List.getElem_cons_succ, k1, k2, List.drop_zero, List.drop_succ_cons, List.take_succ_cons, List.take_zero] at f0 f1
    rw [List.getElem?_eq_getElem (by omega)] at f0 f1
    obtain ⟨g0, e0, _, _⟩ := DataW.trod_int Try.underlying3 f0
    obtain ⟨g1, e1, _, w1⟩ := DataW.trod_int Try.underlying22 f1
    simp only [List.cons.injEq, and_true] at e0 e1
    subst e0; subst e1
    have wb : 0 ≤ g1 ∧ g1 < 18446744073709551616 := u64_bounds w1
    exact ⟨⟨g0, g1⟩, rfl, wb.1, wb.2⟩
end Go.Proofs.Ytpibaahiboajhaa
