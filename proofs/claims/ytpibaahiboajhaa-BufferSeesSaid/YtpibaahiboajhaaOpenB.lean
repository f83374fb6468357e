/-
  Acts on a buffer, finds, spans and texts among the arguments.
-/
import Derived.Test.YtpibaahiboajhaaBuf12
import Derived.Test.YtpibaahiboajhaaOpen
import Derived.ChangeMaps5
set_option linter.unusedSimpArgs false
set_option linter.unusedVariables false
namespace Go.Proofs.Ytpibaahiboajhaa
open Go.RowKit Go.Cib
attribute [local go_sem] cell_set Later.cell Later.frozen Grw.cell Grw.frozen
open Go.ChangeShapes Go.WideShapes Go.ChangeAt Go.Deep

theorem laidOut_ : laidOutB Try.prog = true := by kernel_rfl
theorem ownKnob_ : ownKnob Try.prog.godebug = none := by kernel_rfl
theorem sl_bact : Try.prog.underlying 90 = some (.slice 100) := by kernel_rfl
theorem opens_u8 : Opens Try.prog 5 U8R 1 :=
  ⟨by kernel_rfl, by omega, fun H enc w base spare held fuel cs x _ hx => by
    obtain ⟨n, rfl, _, _⟩ := DataW.trod_int Try.underlying5 hx
    exact ⟨n, rfl⟩⟩
set_option maxRecDepth 100000 in
theorem opens_bact : Opens Try.prog 100 BActR 3 := by
  refine ⟨by kernel_rfl, by omega, fun H enc w base spare held fuel cs x hl hx => ?_⟩
  obtain ⟨xs, n, _, _, hlen, hxl, hf⟩ := DataW.trod_struct Try.underlying100 hx
  match cs, hl with
  | [c0, c1, c2], _ =>
    have f0 := hf 0 _ rfl
    have f1 := hf 1 _ rfl
    have f2 := hf 2 _ rfl
    have k1 : Try.prog.cellsOf 3 = 1 := by kernel_rfl
    have k2 : Try.prog.cellsOf 9 = 1 := by kernel_rfl
    have k3 : Try.prog.cellsOf 80 = 1 := by kernel_rfl
    have hx3 : xs.length = 3 := hxl
    simp only [List.getElem_toArray, List.getElem_cons_zero, List.getElem_cons_succ, k1, k2, k3, List.drop_zero, List.drop_succ_cons, List.take_succ_cons, List.take_zero] at f0 f1 f2
    rw [List.getElem?_eq_getElem (by omega)] at f0 f1 f2
    obtain ⟨g, e0, _, _⟩ := DataW.trod_int Try.underlying3 f0
    obtain ⟨s, e1, _, _⟩ := DataW.trod_string Try.underlying9 f1
    obtain ⟨A, m, c, ys, e2, hmc, hcm, hr⟩ := opens_slice sl_u8.und opens_u8 f2
    simp only [List.cons.injEq, and_true] at e0 e1 e2
    subst e0; subst e1; subst e2
    exact ⟨⟨g, s, ys⟩, A, m, c, rfl, hr⟩
def BlobFR (S : Nat → Prop) (w : World) (cs : List Value) (x : List Int × Int × Int) : Prop := ∃ B n e, cs = [.slice B n e, .int .u64 x.2.1, .int .i64 x.2.2] ∧ RdL IntR 1 S w B n x.1
set_option maxRecDepth 100000 in
theorem opens_blobF : Opens Try.prog 75 BlobFR 3 := by
  refine ⟨by kernel_rfl, by omega, fun H enc w base spare held fuel cs x hl hx => ?_⟩
  obtain ⟨xs, n, _, _, hlen, hxl, hf⟩ := DataW.trod_struct Try.underlying75 hx
  match cs, hl with
  | [c0, c1, c2], _ =>
    have f0 := hf 0 _ rfl
    have f1 := hf 1 _ rfl
    have f2 := hf 2 _ rfl
    have k1 : Try.prog.cellsOf 73 = 1 := by kernel_rfl
    have k2 : Try.prog.cellsOf 22 = 1 := by kernel_rfl
    have k3 : Try.prog.cellsOf 3 = 1 := by kernel_rfl
    have hx3 : xs.length = 3 := hxl
    simp only [List.getElem_toArray, List.getElem_cons_zero, List.getElem_cons_succ, k1, k2, k3, List.drop_zero, List.drop_succ_cons, List.take_succ_cons, List.take_zero] at f0 f1 f2
    rw [List.getElem?_eq_getElem (by omega)] at f0 f1 f2
    obtain ⟨A, m, c, ys, e, hmc, hcm, hr⟩ := opens_slice (by kernel_rfl : Try.prog.underlying 73 = some (.slice 3)) (opens_int Try.underlying3 k3) f0
    obtain ⟨g, e1, _, _⟩ := DataW.trod_int Try.underlying22 f1
    obtain ⟨z, e2, _, _⟩ := DataW.trod_int Try.underlying3 f2
    simp only [List.cons.injEq, and_true] at e e1 e2
    subst e; subst e1; subst e2
    exact ⟨⟨ys, g, z⟩, A, m, c, rfl, hr⟩
set_option maxRecDepth 100000 in
theorem opens_fd : Opens Try.prog 82 FdR 6 := by
  refine ⟨by kernel_rfl, by omega, fun H enc w base spare held fuel cs x hl hx => ?_⟩
  obtain ⟨xs, n, _, _, hlen, hxl, hf⟩ := DataW.trod_struct Try.underlying82 hx
  match cs, hl with
  | [c0, c1, c2, c3, c4, c5], _ =>
    have f0 := hf 0 _ rfl
    have f1 := hf 1 _ rfl
    have f2 := hf 2 _ rfl
    have f3 := hf 3 _ rfl
    have k1 : Try.prog.cellsOf 9 = 1 := by kernel_rfl
    have k2 : Try.prog.cellsOf 4 = 1 := by kernel_rfl
    have k3 : Try.prog.cellsOf 80 = 1 := by kernel_rfl
    have k4 : Try.prog.cellsOf 75 = 3 := by kernel_rfl
    have hx3 : xs.length = 4 := hxl
    simp only [List.getElem_toArray, List.getElem_cons_zero, List.getElem_cons_succ, k1, k2, k3, k4, List.drop_zero, List.drop_succ_cons, List.take_succ_cons, List.take_zero] at f0 f1 f2 f3
    rw [List.getElem?_eq_getElem (by omega)] at f0 f1 f2 f3
    obtain ⟨s, e0, _, _⟩ := DataW.trod_string Try.underlying9 f0
    obtain ⟨d, e1, _⟩ := DataW.trod_bool Try.underlying4 f1
    obtain ⟨A, m, c, ys, e2, hmc, hcm, hr⟩ := opens_slice sl_u8.und opens_u8 f2
    obtain ⟨y, B, nb, eb, e3, hb⟩ := opens_blobF.2.2 _ _ _ _ _ _ _ _ _ rfl f3
    simp only [List.cons.injEq, and_true] at e0 e1 e2 e3
    obtain ⟨rfl, rfl, rfl⟩ := e3
    subst e0; subst e1; subst e2
    exact ⟨⟨s, d, ys, y.1, y.2.1, y.2.2⟩, A, m, c, B, nb, eb, rfl, hr, hb⟩
set_option maxRecDepth 100000 in
/-- A span among the arguments. -/
theorem open_span {H : Type} {enc : TypeId × Value → H} {w : World} {base b0 : Nat} {spare : Nat → Bool} {held : Bool} {r : Reach} {v : Value} {d : DataW H} {ps : List MemPlace}
    (hval : Value.okWide Try.prog w r b0 56 v) (h : DataW.Trod enc Try.prog w base spare held 56 v d ps) : ∃ f t : ByteArray, v = .agg #[.string f, .string t] := by
  obtain ⟨cs, rfl, hsz⟩ := okWide_struct Try.underlying56 hval
  obtain ⟨fuel, hx⟩ := h
  have h5 : cs.size = 2 := hsz.trans (by kernel_rfl)
  have hl : (Value.agg cs).cells.toList.length = 2 := by simpa [Value.cells] using h5
  obtain ⟨xs, n, _, _, hlen, hxl, hf⟩ := DataW.trod_struct Try.underlying56 hx
  have e0 : (Value.agg cs).cells.toList = cs.toList := rfl
  rw [e0] at hf hl
  match hc : cs.toList, hl with
  | [c0, c1], _ =>
    rw [hc] at hf
    have f0 := hf 0 _ rfl
    have f1 := hf 1 _ rfl
    have k1 : Try.prog.cellsOf 9 = 1 := by kernel_rfl
    have hx3 : xs.length = 2 := hxl
    simp only [List.getElem_toArray, List.getElem_cons_zero, List.getElem_cons_succ, k1, List.drop_zero, List.drop_succ_cons, List.take_succ_cons, List.take_zero] at f0 f1
    rw [List.getElem?_eq_getElem (by omega)] at f0 f1
    obtain ⟨s, e1, _, _⟩ := DataW.trod_string Try.underlying9 f0
    obtain ⟨t, e2, _, _⟩ := DataW.trod_string Try.underlying9 f1
    simp only [List.cons.injEq, and_true] at e1 e2
    subst e1; subst e2
    refine ⟨s, t, ?_⟩
    rw [show cs = cs.toList.toArray by simp, hc]
end Go.Proofs.Ytpibaahiboajhaa
