/-
  Acts on a store of versions among the arguments.
-/
import Derived.Test.YtpibaahiboajhaaMw3
import Derived.Test.YtpibaahiboajhaaOpenVer
import Derived.ChangeMaps5
set_option linter.unusedSimpArgs false
set_option linter.unusedVariables false
namespace Go.Proofs.Ytpibaahiboajhaa
open Go.RowKit Go.Cib
attribute [local go_sem] cell_set Later.cell Later.frozen Grw.cell Grw.frozen
open Go.ChangeShapes Go.WideShapes Go.ChangeAt Go.Deep

theorem sl_chgA : Try.prog.underlying 61 = some (.slice 129) := by kernel_rfl
theorem sl_mact : Try.prog.underlying 54 = some (.slice 65) := by kernel_rfl
set_option maxRecDepth 100000 in
theorem opens_chg : Opens Try.prog 129 ChgR 5 := by
  refine ⟨by kernel_rfl, by omega, fun H enc w base spare held fuel cs x hl hx => ?_⟩
  obtain ⟨xs, n, _, _, hlen, hxl, hf⟩ := DataW.trod_struct Try.underlying129 hx
  match cs, hl with
  | [c0, c1, c2, c3, c4], _ =>
    have f0 := hf 0 _ rfl
    have f1 := hf 1 _ rfl
    have f2 := hf 2 _ rfl
    have k1 : Try.prog.cellsOf 9 = 1 := by kernel_rfl
    have k2 : Try.prog.cellsOf 4 = 1 := by kernel_rfl
    have k4 : Try.prog.cellsOf 75 = 3 := by kernel_rfl
    have hx3 : xs.length = 3 := hxl
    simp only [List.getElem_toArray, List.getElem_cons_zero, List.getElem_cons_succ, k1, k2, k4, List.drop_zero, List.drop_succ_cons, List.take_succ_cons, List.take_zero] at f0 f1 f2
    rw [List.getElem?_eq_getElem (by omega)] at f0 f1 f2
    obtain ⟨s, e0, _, _⟩ := DataW.trod_string Try.underlying9 f0
    obtain ⟨d, e1, _⟩ := DataW.trod_bool Try.underlying4 f1
    obtain ⟨y, B, nb, eb, e2, hnb, hb⟩ := opens_blob.2.2 _ _ _ _ _ _ _ _ _ rfl f2
    simp only [List.cons.injEq, and_true] at e0 e1 e2
    obtain ⟨rfl, rfl, rfl⟩ := e2
    subst e0; subst e1
    exact ⟨⟨s, d, y⟩, B, nb, eb, rfl, hnb, hb⟩
structure Recd where
  stamp : Int
  chs : List Chg
def RecR (S : Nat → Prop) (w : World) (cs : List Value) (x : Recd) : Prop := ∃ A m c, cs = [.int .u64 x.stamp, .slice A m c] ∧ RdL ChgR 5 S w A m x.chs
set_option maxRecDepth 100000 in
theorem opens_rec : Opens Try.prog 63 RecR 2 := by
  refine ⟨by kernel_rfl, by omega, fun H enc w base spare held fuel cs x hl hx => ?_⟩
  obtain ⟨xs, n, _, _, hlen, hxl, hf⟩ := DataW.trod_struct Try.underlying63 hx
  match cs, hl with
  | [c0, c1], _ =>
    have f0 := hf 0 _ rfl
    have f1 := hf 1 _ rfl
    have k1 : Try.prog.cellsOf 22 = 1 := by kernel_rfl
    have k2 : Try.prog.cellsOf 61 = 1 := by kernel_rfl
    have hx3 : xs.length = 2 := hxl
    simp only [List.getElem_toArray, List.getElem_cons_zero, List.getElem_cons_succ, k1, k2, List.drop_zero, List.drop_succ_cons, List.take_succ_cons, List.take_zero] at f0 f1
    rw [List.getElem?_eq_getElem (by omega)] at f0 f1
    obtain ⟨g, e0, _, _⟩ := DataW.trod_int Try.underlying22 f0
    obtain ⟨A, m, c, ys, e1, hmc, hcm, hr⟩ := opens_slice sl_chgA opens_chg f1
    simp only [List.cons.injEq, and_true] at e0 e1
    subst e0; subst e1
    exact ⟨⟨g, ys⟩, A, m, c, rfl, hr⟩
set_option maxRecDepth 100000 in
theorem opens_mact : Opens Try.prog 65 MActR 5 := by
  refine ⟨by kernel_rfl, by omega, fun H enc w base spare held fuel cs x hl hx => ?_⟩
  obtain ⟨xs, n, _, _, hlen, hxl, hf⟩ := DataW.trod_struct Try.underlying65 hx
  match cs, hl with
  | [c0, c1, c2, c3, c4], _ =>
    have f0 := hf 0 _ rfl
    have f1 := hf 1 _ rfl
    have f2 := hf 2 _ rfl
    have f3 := hf 3 _ rfl
    have k1 : Try.prog.cellsOf 3 = 1 := by kernel_rfl
    have k2 : Try.prog.cellsOf 63 = 2 := by kernel_rfl
    have k3 : Try.prog.cellsOf 9 = 1 := by kernel_rfl
    have k4 : Try.prog.cellsOf 38 = 1 := by kernel_rfl
    have hx3 : xs.length = 4 := hxl
    simp only [List.getElem_toArray, List.getElem_cons_zero, List.getElem_cons_succ, k1, k2, k3, k4, List.drop_zero, List.drop_succ_cons, List.take_succ_cons, List.take_zero] at f0 f1 f2 f3
    rw [List.getElem?_eq_getElem (by omega)] at f0 f1 f2 f3
    obtain ⟨g, e0, _, _⟩ := DataW.trod_int Try.underlying3 f0
    obtain ⟨y, A, m, c, e1, hr⟩ := opens_rec.2.2 _ _ _ _ _ _ _ _ _ rfl f1
    obtain ⟨s, e2, _, _⟩ := DataW.trod_string Try.underlying9 f2
    obtain ⟨B, n2, d2, zs, e3, _, _, hr2⟩ := opens_slice Try.underlying38 (opens_u64 Try.underlying22 (by kernel_rfl)) f3
    simp only [List.cons.injEq, and_true] at e0 e1 e2 e3
    obtain ⟨rfl, rfl⟩ := e1
    subst e0; subst e2; subst e3
    exact ⟨⟨g, y.stamp, y.chs, s, zs⟩, A, m, c, B, n2, d2, rfl, hr, hr2⟩
set_option maxRecDepth 100000 in
/-- A span among the arguments. -/
theorem open_span {H : Type} {enc : TypeId × Value → H} {w : World} {base b0 : Nat} {spare : Nat → Bool} {held : Bool} {r : Reach} {v : Value} {d : DataW H} {ps : List MemPlace}
    (hval : Value.okWide Try.prog w r b0 56 v) (h : DataW.Trod enc Try.prog w base spare held 56 v d ps) : ∃ f t : ByteArray, v = .agg #[.string f, .string t] := by
  obtain ⟨cs, rfl, hsz⟩ := okWide_struct Try.underlying56 hval
  obtain ⟨fuel, hx⟩ := h
  have h5 : cs.size = 2 := hsz.trans (by kernel_rfl)
  have hl : (Value.agg cs).cells.toList.length = 2 := by simpa [Value.cells] using h5
  obtain ⟨xs, n, _, _, hlen, hxl, hf⟩ := DataW.trod_struct Try.underlying56 hx
  have e0 : (Value.agg cs).cells.toList = cs.toList := rfl
  rw [e0] at hf hl
  match hc : cs.toList, hl with
  | [c0, c1], _ =>
    rw [hc] at hf
    have f0 := hf 0 _ rfl
    have f1 := hf 1 _ rfl
    have k1 : Try.prog.cellsOf 9 = 1 := by kernel_rfl
    have hx3 : xs.length = 2 := hxl
    simp only [List.getElem_toArray, List.getElem_cons_zero, List.getElem_cons_succ, k1, List.drop_zero, List.drop_succ_cons, List.take_succ_cons, List.take_zero] at f0 f1
    rw [List.getElem?_eq_getElem (by omega)] at f0 f1
    obtain ⟨s, e1, _, _⟩ := DataW.trod_string Try.underlying9 f0
    obtain ⟨t, e2, _, _⟩ := DataW.trod_string Try.underlying9 f1
    simp only [List.cons.injEq, and_true] at e1 e2
    subst e1; subst e2
    refine ⟨s, t, ?_⟩
    rw [show cs = cs.toList.toArray by simp, hc]
end Go.Proofs.Ytpibaahiboajhaa
