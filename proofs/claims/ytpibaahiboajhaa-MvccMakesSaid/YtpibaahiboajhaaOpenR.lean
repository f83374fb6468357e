/-
  Rows among the arguments, within the form's own reach.
-/
import Derived.Test.YtpibaahiboajhaaOpenS
import Derived.Test.YtpibaahiboajhaaOpenVer
import Derived.Test.YtpibaahiboajhaaTre1
import Derived.Test.YtpibaahiboajhaaChain2
set_option linter.unusedSimpArgs false
set_option linter.unusedVariables false
namespace Go.Proofs.Ytpibaahiboajhaa
open Go.RowKit Go.Cib
attribute [local go_sem] cell_set Later.cell Later.frozen Grw.cell Grw.frozen
open Go.ChangeShapes Go.WideShapes Go.ChangeAt Go.Deep

theorem u64_bounds {z : Int} (h : (Lit.int .u64 z).wf = true) : 0 ≤ z ∧ z < 18446744073709551616 := by
  simp [Lit.wf, IntKind.min, IntKind.max, IntKind.bits, IntKind.signed] at h
  omega
theorem struct_w {H : Type} {P : Program} {t : TypeId} {fs : Array Field} (ht : P.underlying t = some (.struct fs)) {xs : List (DataW H × List MemPlace)} {j : Nat} {f : Field} {y : DataW H × List MemPlace} (hf : fs.toList[j]? = some f) (hy : xs[j]? = some y)
    (hk : ∀ k ∈ (DataW.agg (xs.map (·.1))).weights P t, k ≤ reachBytes) : ∀ k ∈ y.1.weights P f.type, k ≤ reachBytes := fun k h => hk k (by
  simp only [DataW.weights, ht]
  exact DataW.weights_mem_each (j := j) (by simp [hf]) (by simp [hy]) k h)
def BlobQ (y : Blob) : Prop := y.places.length ≤ 17592186043904
def VerQ (v : Ver) : Prop := v.blob.places.length ≤ 17592186043904 ∧ 0 ≤ v.stamp
def RowQ (y : Ent) : Prop := Small y.vers ∧ ∀ v ∈ y.vers, 0 ≤ v.stamp
set_option maxRecDepth 100000 in
theorem opens_blobS : OpensS Try.prog 75 BlobR 3 BlobQ := by
  refine ⟨by kernel_rfl, by omega, fun H enc w base spare held fuel cs x hl hx => ?_⟩
  obtain ⟨xs, n, _, hxe, hlen, hxl, hf⟩ := DataW.trod_struct Try.underlying75 hx
  match cs, hl with
  | [c0, c1, c2], _ =>
    have f0 := hf 0 _ rfl
    have f1 := hf 1 _ rfl
    have f2 := hf 2 _ rfl
    have k1 : Try.prog.cellsOf 73 = 1 := by kernel_rfl
    have k2 : Try.prog.cellsOf 22 = 1 := by kernel_rfl
    have k3 : Try.prog.cellsOf 3 = 1 := by kernel_rfl
    have k8 : Try.prog.bytesOf 3 = 8 := by kernel_rfl
    have hx3 : xs.length = 3 := hxl
    simp only [List.getElem_toArray, List.getElem_cons_zero, List.getElem_cons_succ, k1, k2, k3, List.drop_zero, List.drop_succ_cons, List.take_succ_cons, List.take_zero] at f0 f1 f2
    have y0 : xs[0]? = some xs[0] := List.getElem?_eq_getElem (by omega)
    rw [List.getElem?_eq_getElem (by omega)] at f0 f1 f2
    obtain ⟨A, m, c, ys, e, hmc, hcm, hr, hq⟩ := opens_sliceS sl_int.und (OpensS.of (opens_int Try.underlying3 k3)) f0
    obtain ⟨g, e1, _, _⟩ := DataW.trod_int Try.underlying22 f1
    obtain ⟨z, e2, _, _⟩ := DataW.trod_int Try.underlying3 f2
    simp only [List.cons.injEq, and_true] at e e1 e2
    subst e; subst e1; subst e2
    refine ⟨⟨ys, g, z⟩, ⟨A, m, c, rfl, hmc, hr⟩, fun hk => ?_⟩
    rw [hxe] at hk
    have := (hq (struct_w Try.underlying75 rfl y0 hk)).1
    rw [k8] at this
    have hl := hr.1
    unfold BlobQ
    show ys.length ≤ _
    unfold reachBytes at this
    omega
set_option maxRecDepth 100000 in
theorem opens_verS : OpensS Try.prog 77 VerR 5 VerQ := by
  refine ⟨by kernel_rfl, by omega, fun H enc w base spare held fuel cs x hl hx => ?_⟩
  obtain ⟨xs, n, _, hxe, hlen, hxl, hf⟩ := DataW.trod_struct Try.underlying77 hx
  match cs, hl with
  | [c0, c1, c2, c3, c4], _ =>
    have f0 := hf 0 _ rfl
    have f1 := hf 1 _ rfl
    have f2 := hf 2 _ rfl
    have k1 : Try.prog.cellsOf 75 = 3 := by kernel_rfl
    have k2 : Try.prog.cellsOf 22 = 1 := by kernel_rfl
    have k3 : Try.prog.cellsOf 4 = 1 := by kernel_rfl
    have hx3 : xs.length = 3 := hxl
    simp only [List.getElem_toArray, List.getElem_cons_zero, List.getElem_cons_succ, k1, k2, k3, List.drop_zero, List.drop_succ_cons, List.take_succ_cons, List.take_zero] at f0 f1 f2
    have y2 : xs[2]? = some xs[2] := List.getElem?_eq_getElem (by omega)
    rw [List.getElem?_eq_getElem (by omega)] at f0 f1 f2
    obtain ⟨s, e0, _, ws⟩ := DataW.trod_int Try.underlying22 f0
    obtain ⟨d, e1, _⟩ := DataW.trod_bool Try.underlying4 f1
    obtain ⟨y, ⟨A, m, c, e2, hmc, hr⟩, hq⟩ := opens_blobS.2.2 _ _ _ _ _ _ _ _ _ rfl f2
    simp only [List.cons.injEq, and_true] at e0 e1 e2
    obtain ⟨rfl, rfl, rfl⟩ := e2
    subst e0; subst e1
    refine ⟨⟨s, d, y⟩, ⟨A, m, c, rfl, hmc, hr⟩, fun hk => ?_⟩
    rw [hxe] at hk
    exact ⟨hq (struct_w Try.underlying77 rfl y2 hk), (u64_bounds ws).1⟩
theorem sl_rowA : Try.prog.underlying 68 = some (.slice 72) := by kernel_rfl
set_option maxRecDepth 100000 in
theorem opens_rowS : OpensS Try.prog 72 EntR 2 RowQ := by
  refine ⟨by kernel_rfl, by omega, fun H enc w base spare held fuel cs x hl hx => ?_⟩
  obtain ⟨xs, n, _, hxe, hlen, hxl, hf⟩ := DataW.trod_struct Try.underlying72 hx
  match cs, hl with
  | [c0, c1], _ =>
    have f0 := hf 0 _ rfl
    have f1 := hf 1 _ rfl
    have k1 : Try.prog.cellsOf 9 = 1 := by kernel_rfl
    have k2 : Try.prog.cellsOf 70 = 1 := by kernel_rfl
    have hx3 : xs.length = 2 := hxl
    simp only [List.getElem_toArray, List.getElem_cons_zero, List.getElem_cons_succ, k1, k2, List.drop_zero, List.drop_succ_cons, List.take_succ_cons, List.take_zero] at f0 f1
    have y1 : xs[1]? = some xs[1] := List.getElem?_eq_getElem (by omega)
    rw [List.getElem?_eq_getElem (by omega)] at f0 f1
    obtain ⟨s, e0, _, _⟩ := DataW.trod_string Try.underlying9 f0
    obtain ⟨A, m, c, ys, e1, hmc, hcm, hr, hq⟩ := opens_sliceS sl_ver.und opens_verS f1
    simp only [List.cons.injEq, and_true] at e0 e1
    subst e0; subst e1
    refine ⟨⟨s, ys⟩, ⟨A, m, c, rfl, hmc, hr⟩, fun hk => ?_⟩
    rw [hxe] at hk
    have := (hq (struct_w Try.underlying72 rfl y1 hk)).2
    exact ⟨fun v hv => (this v hv).1, fun v hv => (this v hv).2⟩
end Go.Proofs.Ytpibaahiboajhaa
