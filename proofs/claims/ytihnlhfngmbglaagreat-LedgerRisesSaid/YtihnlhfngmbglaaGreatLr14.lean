/-
  A geometry among the arguments; bounds of whole numbers.
  Law 30: LedgerGets: the walk.
  Law 30's stripes, faults and names among the arguments.
-/
import Derived.Test.YtihnlhfngmbglaaGreatLr4
import Derived.Test.YtihnlhfngmbglaaGreatLr3
import Derived.Test.YtihnlhfngmbglaaGreatLr13
set_option linter.unusedSimpArgs false
set_option linter.unusedVariables false
namespace Go.Proofs.YtihnlhfngmbglaaGreat
open Go.RowKit Go.Cib
attribute [local go_sem] cell_set Later.cell Later.frozen Grw.cell Grw.frozen
section
open Go.ChangeShapes Go.WideShapes Go.ChangeAt Go.Deep
theorem opens_by : Opens Tryz.prog 5 ByR 1 :=
  ⟨by kernel_rfl, by omega, fun H enc w base spare held fuel cs x _ hx => by
    obtain ⟨n, rfl, _, hw⟩ := DataW.trod_int Tryz.underlying5 hx
    have h2 : 0 ≤ n ∧ n ≤ 255 := by
      simp [Lit.wf, IntKind.min, IntKind.max, IntKind.signed, IntKind.bits] at hw
      omega
    exact ⟨n.toNat, by omega, by rw [show ((n.toNat : Nat) : Int) = n by omega]⟩⟩
theorem u64_bounds {z : Int} (h : (Lit.int .u64 z).wf = true) : 0 ≤ z ∧ z < 18446744073709551616 := by
  simp [Lit.wf, IntKind.min, IntKind.max, IntKind.bits, IntKind.signed] at h
  omega
set_option maxRecDepth 100000 in
theorem open_geo {H : Type} {enc : TypeId × Value → H} {w : World} {base b0 : Nat} {spare : Nat → Bool} {held : Bool} {r : Reach} {v : Value} {d : DataW H} {ps : List MemPlace}
    (hval : Value.okWide Tryz.prog w r b0 23 v) (h : DataW.Trod enc Tryz.prog w base spare held 23 v d ps) : ∃ k m s : Int, v = .agg #[.int .i64 k, .int .i64 m, .int .i64 s] := by
  obtain ⟨cs, rfl, hsz⟩ := okWide_struct Tryz.underlying23 hval
  obtain ⟨fuel, hx⟩ := h
  have h5 : cs.size = 3 := hsz.trans (by kernel_rfl)
  have hl : (Value.agg cs).cells.toList.length = 3 := by simpa [Value.cells] using h5
  obtain ⟨xs, n, _, _, hlen, hxl, hf⟩ := DataW.trod_struct Tryz.underlying23 hx
  have e0 : (Value.agg cs).cells.toList = cs.toList := rfl
  rw [e0] at hf hl
  match hc : cs.toList, hl with
  | [c0, c1, c2], _ =>
    rw [hc] at hf
    have f0 := hf 0 _ rfl
    have f1 := hf 1 _ rfl
    have f2 := hf 2 _ rfl
    have k1 : Tryz.prog.cellsOf 3 = 1 := by kernel_rfl
    have hx3 : xs.length = 3 := hxl
    simp only [List.getElem_toArray, List.getElem_cons_zero, List.getElem_cons_succ, k1, List.drop_zero, List.drop_succ_cons, List.take_succ_cons, List.take_zero] at f0 f1 f2
    rw [List.getElem?_eq_getElem (by omega)] at f0 f1 f2
    obtain ⟨s, e1, _, _⟩ := DataW.trod_int Tryz.underlying3 f0
    obtain ⟨t, e2, _, _⟩ := DataW.trod_int Tryz.underlying3 f1
    obtain ⟨u, e3, _, _⟩ := DataW.trod_int Tryz.underlying3 f2
    simp only [List.cons.injEq, and_true] at e1 e2 e3
    subst e1; subst e2; subst e3
    refine ⟨s, t, u, ?_⟩
    rw [show cs = cs.toList.toArray by simp, hc]
end
section
abbrev Nm := Nat × Int × Nat
end
section
open Go.ChangeShapes Go.WideShapes Go.ChangeAt Go.Deep
theorem sl_pt30 : Tryz.prog.underlying 24 = some (.slice 108) := by kernel_rfl
theorem sl_ht30 : Tryz.prog.underlying 25 = some (.slice 110) := by kernel_rfl
theorem u8_bnd {z : Int} (h : (Lit.int .u8 z).wf = true) : 0 ≤ z ∧ z < 256 := by
  simp [Lit.wf, IntKind.min, IntKind.max, IntKind.signed, IntKind.bits] at h
  omega
def NmR (_ : Nat → Prop) (_ : World) (cs : List Value) (x : Nm) : Prop := cs = [.int .u8 (x.1 : Int), .int .i64 x.2.1, .int .u64 (x.2.2 : Int)] ∧ x.1 < 256 ∧ x.2.2 < 2 ^ 64
set_option maxRecDepth 100000 in
theorem opens_nm : Opens Tryz.prog 38 NmR 3 := by
  refine ⟨by kernel_rfl, by omega, fun H enc w base spare held fuel cs x hl hx => ?_⟩
  obtain ⟨xs, n, _, _, hlen, hxl, hf⟩ := DataW.trod_struct Tryz.underlying38 hx
  match cs, hl with
  | [c0, c1, c2], _ =>
    have f0 := hf 0 _ rfl
    have f1 := hf 1 _ rfl
    have f2 := hf 2 _ rfl
    have k1 : Tryz.prog.cellsOf 5 = 1 := by kernel_rfl
    have k2 : Tryz.prog.cellsOf 3 = 1 := by kernel_rfl
    have k3 : Tryz.prog.cellsOf 36 = 1 := by kernel_rfl
    have hx3 : xs.length = 3 := hxl
    simp only [List.getElem_toArray, List.getElem_cons_zero, List.getElem_cons_succ, k1, k2, k3, List.drop_zero, List.drop_succ_cons, List.take_succ_cons, List.take_zero] at f0 f1 f2
    rw [List.getElem?_eq_getElem (by omega)] at f0 f1 f2
    obtain ⟨a, e0, _, wa⟩ := DataW.trod_int Tryz.underlying5 f0
    obtain ⟨z, e1, _, _⟩ := DataW.trod_int Tryz.underlying3 f1
    obtain ⟨g, e2, _, wg⟩ := DataW.trod_int Tryz.underlying36 f2
    simp only [List.cons.injEq, and_true] at e0 e1 e2
    subst e0; subst e1; subst e2
    obtain ⟨h0, h1⟩ := u8_bnd wa
    obtain ⟨h2, h3⟩ := u64_bounds wg
    exact ⟨(a.toNat, z, g.toNat), by show [_, _, _] = [Value.int .u8 ((a.toNat : Nat) : Int), .int .i64 z, Value.int .u64 ((g.toNat : Nat) : Int)]; rw [show ((a.toNat : Nat) : Int) = a by omega, show ((g.toNat : Nat) : Int) = g by omega], by show a.toNat < 256; omega, by show g.toNat < 2 ^ 64; omega⟩
set_option maxRecDepth 100000 in
theorem opens_pt30 : Opens Tryz.prog 108 LPtR 4 := by
  refine ⟨by kernel_rfl, by omega, fun H enc w base spare held fuel cs x hl hx => ?_⟩
  obtain ⟨xs, n, _, _, hlen, hxl, hf⟩ := DataW.trod_struct Tryz.underlying108 hx
  match cs, hl with
  | [c0, c1, c2, c3], _ =>
    have f0 := hf 0 _ rfl
    have f1 := hf 1 _ rfl
    have k1 : Tryz.prog.cellsOf 38 = 3 := by kernel_rfl
    have k2 : Tryz.prog.cellsOf 68 = 1 := by kernel_rfl
    have hx3 : xs.length = 2 := hxl
    simp only [List.getElem_toArray, List.getElem_cons_zero, List.getElem_cons_succ, k1, k2, List.drop_zero, List.drop_succ_cons, List.take_succ_cons, List.take_zero] at f0 f1
    rw [List.getElem?_eq_getElem (by omega)] at f0 f1
    obtain ⟨y, e1, hy1, hy2⟩ := opens_nm.2.2 _ _ _ _ _ _ _ _ _ rfl f0
    obtain ⟨A, n2, c, ys, e2, hnc, _, hr⟩ := opens_slice sl_by.und opens_by f1
    simp only [List.cons.injEq, and_true] at e1 e2
    obtain ⟨rfl, rfl, rfl⟩ := e1
    subst e2
    exact ⟨⟨y.1, y.2.1, y.2.2, ys⟩, A, n2, c, rfl, hnc, hr, hy1, hy2⟩
set_option maxRecDepth 100000 in
theorem opens_ht30 : Opens Tryz.prog 110 HrtR 3 := by
  refine ⟨by kernel_rfl, by omega, fun H enc w base spare held fuel cs x hl hx => ?_⟩
  obtain ⟨xs, n, _, _, hlen, hxl, hf⟩ := DataW.trod_struct Tryz.underlying110 hx
  match cs, hl with
  | [c0, c1, c2], _ =>
    have f0 := hf 0 _ rfl
    have f1 := hf 1 _ rfl
    have f2 := hf 2 _ rfl
    have k2 : Tryz.prog.cellsOf 3 = 1 := by kernel_rfl
    have hx3 : xs.length = 3 := hxl
    simp only [List.getElem_toArray, List.getElem_cons_zero, List.getElem_cons_succ, k2, List.drop_zero, List.drop_succ_cons, List.take_succ_cons, List.take_zero] at f0 f1 f2
    rw [List.getElem?_eq_getElem (by omega)] at f0 f1 f2
    obtain ⟨a, e0, _, _⟩ := DataW.trod_int Tryz.underlying3 f0
    obtain ⟨z, e1, _, _⟩ := DataW.trod_int Tryz.underlying3 f1
    obtain ⟨g, e2, _, _⟩ := DataW.trod_int Tryz.underlying3 f2
    simp only [List.cons.injEq, and_true] at e0 e1 e2
    subst e0; subst e1; subst e2
    exact ⟨⟨a, z, g⟩, rfl⟩
set_option maxRecDepth 100000 in
/-- A name among the arguments. -/
theorem open_nm {H : Type} {enc : TypeId × Value → H} {w : World} {base b0 : Nat} {spare : Nat → Bool} {held : Bool} {r : Reach} {v : Value} {d : DataW H} {ps : List MemPlace}
    (hval : Value.okWide Tryz.prog w r b0 38 v) (h : DataW.Trod enc Tryz.prog w base spare held 38 v d ps) :
    ∃ (a g : Nat) (z : Int), v = .agg #[.int .u8 (a : Int), .int .i64 z, .int .u64 (g : Int)] ∧ a < 256 ∧ g < 2 ^ 64 := by
  obtain ⟨cs, rfl, hsz⟩ := okWide_struct Tryz.underlying38 hval
  obtain ⟨fuel, hf⟩ := h
  have h5 : cs.size = 3 := hsz.trans opens_nm.1
  have hl : (Value.agg cs).cells.toList.length = 3 := by simpa [Value.cells] using h5
  obtain ⟨y, e, h1, h2⟩ := opens_nm.2.2 _ _ _ _ _ _ _ _ _ hl hf
  refine ⟨y.1, y.2.2, y.2.1, ?_, h1, h2⟩
  have e2 : cs.toList = _ := e
  rw [← e2]
end
end Go.Proofs.YtihnlhfngmbglaaGreat
