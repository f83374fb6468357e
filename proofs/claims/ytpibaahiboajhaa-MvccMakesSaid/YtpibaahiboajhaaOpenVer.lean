/-
  Versions among the arguments.
-/
import Derived.Test.YtpibaahiboajhaaVer
import Derived.Test.YtpibaahiboajhaaOpen
set_option linter.unusedSimpArgs false
set_option linter.unusedVariables false
namespace Go.Proofs.Ytpibaahiboajhaa
open Go.RowKit Go.Cib
attribute [local go_sem] cell_set Later.cell Later.frozen Grw.cell Grw.frozen
open Go.ChangeShapes Go.WideShapes Go.ChangeAt Go.Deep

theorem laidOut_ : laidOutB Try.prog = true := by kernel_rfl
theorem ownKnob_ : ownKnob Try.prog.godebug = none := by kernel_rfl

set_option maxRecDepth 100000 in
theorem opens_blob : Opens Try.prog 75 BlobR 3 := by
  refine ⟨by kernel_rfl, by omega, fun H enc w base spare held fuel cs x hl hx => ?_⟩
  obtain ⟨xs, n, _, _, hlen, hxl, hf⟩ := DataW.trod_struct Try.underlying75 hx
  match cs, hl with
  | [c0, c1, c2], _ =>
    have f0 := hf 0 _ rfl
    have f1 := hf 1 _ rfl
    have f2 := hf 2 _ rfl
    have k1 : Try.prog.cellsOf 73 = 1 := by kernel_rfl
    have k2 : Try.prog.cellsOf 22 = 1 := by kernel_rfl
    have k3 : Try.prog.cellsOf 3 = 1 := by kernel_rfl
    have hx3 : xs.length = 3 := hxl
    simp only [List.getElem_toArray, List.getElem_cons_zero, List.getElem_cons_succ, k1, k2, k3, List.drop_zero, List.drop_succ_cons, List.take_succ_cons, List.take_zero] at f0 f1 f2
    rw [List.getElem?_eq_getElem (by omega)] at f0 f1 f2
    obtain ⟨A, m, c, ys, e, hmc, hcm, hr⟩ := opens_slice sl_int.und (opens_int Try.underlying3 k3) f0
    obtain ⟨g, e1, _, _⟩ := DataW.trod_int Try.underlying22 f1
    obtain ⟨z, e2, _, _⟩ := DataW.trod_int Try.underlying3 f2
    simp only [List.cons.injEq, and_true] at e e1 e2
    subst e; subst e1; subst e2
    exact ⟨⟨ys, g, z⟩, A, m, c, rfl, hmc, hr⟩

set_option maxRecDepth 100000 in
theorem opens_ver : Opens Try.prog 77 VerR 5 := by
  refine ⟨by kernel_rfl, by omega, fun H enc w base spare held fuel cs x hl hx => ?_⟩
  obtain ⟨xs, n, _, _, hlen, hxl, hf⟩ := DataW.trod_struct Try.underlying77 hx
  match cs, hl with
  | [c0, c1, c2, c3, c4], _ =>
    have f0 := hf 0 _ rfl
    have f1 := hf 1 _ rfl
    have f2 := hf 2 _ rfl
    have k1 : Try.prog.cellsOf 75 = 3 := by kernel_rfl
    have k2 : Try.prog.cellsOf 22 = 1 := by kernel_rfl
    have k3 : Try.prog.cellsOf 4 = 1 := by kernel_rfl
    have hx3 : xs.length = 3 := hxl
    simp only [List.getElem_toArray, List.getElem_cons_zero, List.getElem_cons_succ, k1, k2, k3, List.drop_zero, List.drop_succ_cons, List.take_succ_cons, List.take_zero] at f0 f1 f2
    rw [List.getElem?_eq_getElem (by omega)] at f0 f1 f2
    obtain ⟨s, e0, _, _⟩ := DataW.trod_int Try.underlying22 f0
    obtain ⟨d, e1, _⟩ := DataW.trod_bool Try.underlying4 f1
    obtain ⟨y, A, m, c, e2, hmc, hr⟩ := opens_blob.2.2 _ _ _ _ _ _ _ _ _ rfl f2
    simp only [List.cons.injEq, and_true] at e0 e1 e2
    obtain ⟨rfl, rfl, rfl⟩ := e2
    subst e0; subst e1
    exact ⟨⟨s, d, y⟩, A, m, c, rfl, hmc, hr⟩
set_option maxRecDepth 100000 in
/-- A version among the arguments. -/
theorem open_ver {H : Type} {enc : TypeId × Value → H} {w : World} {base b0 : Nat} {spare : Nat → Bool} {held : Bool} {r : Reach} {v : Value} {d : DataW H} {ps : List MemPlace}
    (hval : Value.okWide Try.prog w r b0 77 v) (h : DataW.Trod enc Try.prog w base spare held 77 v d ps) :
    ∃ (x : Ver) (A : Option Addr) (n c : Nat), v = .agg #[.int .u64 x.stamp, .bool x.dead, .slice A n c, .int .u64 x.blob.gen, .int .i64 x.blob.size] ∧ n ≤ c ∧ RdL IntR 1 (fun _ => True) w A n x.blob.places := by
  obtain ⟨cs, rfl, hsz⟩ := okWide_struct Try.underlying77 hval
  obtain ⟨fuel, hf⟩ := h
  have h5 : cs.size = 5 := hsz.trans opens_ver.1
  have hl : (Value.agg cs).cells.toList.length = 5 := by simpa [Value.cells] using h5
  obtain ⟨y, A, n, c, e, hnc, hr⟩ := opens_ver.2.2 _ _ _ _ _ _ _ _ _ hl hf
  refine ⟨y, A, n, c, ?_, hnc, hr⟩
  have e2 : cs.toList = _ := e
  rw [← e2]
end Go.Proofs.Ytpibaahiboajhaa
