/-
  The page's example.
-/
import Derived.Test.YtpibaahiboajhaaBuf13
import Derived.Lib.SlBytesConst
set_option linter.unusedSimpArgs false
set_option linter.unusedVariables false
namespace Go.Proofs.Ytpibaahiboajhaa
open Go.RowKit Go.Cib
attribute [local go_sem] cell_set Later.cell Later.frozen Grw.cell Grw.frozen

def tA : ByteArray := ⟨#[97]⟩
def tB : ByteArray := ⟨#[98]⟩
def tC : ByteArray := ⟨#[99]⟩
def tD : ByteArray := ⟨#[100]⟩
def tE : ByteArray := ⟨#[]⟩
def exW : List Wr := [⟨tB, false, [120]⟩, ⟨tC, true, []⟩]
def exF : List Fd := [⟨tA, false, [], [], 0, 0⟩, ⟨tC, false, [], [], 0, 0⟩, ⟨tD, false, [], [], 0, 0⟩]
def exS : List Fd := [⟨tA, false, [], [], 0, 0⟩, ⟨tB, true, [120], [], 0, 0⟩, ⟨tD, false, [], [], 0, 0⟩]
theorem ex_e1 : wrE [] ⟨tB, false, [120]⟩ = 0 := by decide +kernel
theorem ex_w1 : wrW [] ⟨tB, false, [120]⟩ = [⟨tB, false, [120]⟩] := by unfold wrW; rw [if_pos ex_e1]; rfl
theorem ex_e2 : wrE [⟨tB, false, [120]⟩] ⟨tC, true, []⟩ = 0 := by decide +kernel
theorem ex_w2 : wrW [⟨tB, false, [120]⟩] ⟨tC, true, []⟩ = exW := by unfold wrW; rw [if_pos ex_e2]; kernel_rfl
theorem ex_s : seenL exW tE tE exF 9 = exS := by kernel_rfl
theorem BoxAt.fd3 {S : Nat → Prop} {w : World} {b : Nat} {k1 k2 k3 : ByteArray} (h : BoxAt w b #[.string k1, .bool false, .slice none 0 0, .slice none 0 0, .int .u64 0, .int .i64 0, .string k2, .bool false, .slice none 0 0, .slice none 0 0, .int .u64 0, .int .i64 0, .string k3, .bool false, .slice none 0 0, .slice none 0 0, .int .u64 0, .int .i64 0]) (hS : S b) :
    RdL FdR 6 S w (some ⟨b, 0, none⟩) 3 [⟨k1, false, [], [], 0, 0⟩, ⟨k2, false, [], [], 0, 0⟩, ⟨k3, false, [], [], 0, 0⟩] := by
  have one : ∀ k : ByteArray, FdR S w [.string k, .bool false, .slice none 0 0, .slice none 0 0, .int .u64 0, .int .i64 0] ⟨k, false, [], [], 0, 0⟩ := fun k => ⟨none, 0, 0, none, 0, 0, rfl, RdL.nil, RdL.nil⟩
  refine ⟨rfl, fun _ => ⟨b, 0, rfl, hS, h.lt, fun i x hx => ?_⟩⟩
  match i, hx with
  | 0, hx =>
    cases hx
    refine ⟨_, rfl, one k1, fun j v hj => ?_⟩
    match j, hj with
    | 0, hj => cases hj; exact h.cell 0
    | 1, hj => cases hj; exact h.cell 1
    | 2, hj => cases hj; exact h.cell 2
    | 3, hj => cases hj; exact h.cell 3
    | 4, hj => cases hj; exact h.cell 4
    | 5, hj => cases hj; exact h.cell 5
  | 1, hx =>
    cases hx
    refine ⟨_, rfl, one k2, fun j v hj => ?_⟩
    match j, hj with
    | 0, hj => cases hj; exact h.cell 6
    | 1, hj => cases hj; exact h.cell 7
    | 2, hj => cases hj; exact h.cell 8
    | 3, hj => cases hj; exact h.cell 9
    | 4, hj => cases hj; exact h.cell 10
    | 5, hj => cases hj; exact h.cell 11
  | 2, hx =>
    cases hx
    refine ⟨_, rfl, one k3, fun j v hj => ?_⟩
    match j, hj with
    | 0, hj => cases hj; exact h.cell 12
    | 1, hj => cases hj; exact h.cell 13
    | 2, hj => cases hj; exact h.cell 14
    | 3, hj => cases hj; exact h.cell 15
    | 4, hj => cases hj; exact h.cell 16
    | 5, hj => cases hj; exact h.cell 17
theorem one_byte (w : World) (n : Int) : RdL U8R 1 (fun _ => True) (w.alloc (.cells #[.int .u8 n] 5 (1, 2))) (some ⟨w.heap.size, 0, none⟩) 1 [n] := by
  refine ⟨rfl, fun _ => ⟨w.heap.size, 0, rfl, trivial, by simp, fun i x hx => ?_⟩⟩
  match i, hx with
  | 0, hx =>
    cases hx
    refine ⟨[.int .u8 n], rfl, rfl, fun j v hj => ?_⟩
    match j, hj with
    | 0, hj => cases hj; rw [cell_of_row _ w.heap.size _ #[.int .u8 n] _ (1, 2) (heap_alloc_new w _)]; rfl
set_option maxRecDepth 100000 in
set_option maxHeartbeats 4000000 in
theorem overlays_any (w : World) : Calls Try.prog 48 #[] w fun e w' => e = .returned (.bool true) ∧ Below w.heap.size w w' := by
  go_enter Try.func48, Try.ntmps48
  go_wp2_with fail
  refine (bnew_any w).mono ?_
  rintro e w1 ⟨b, bb, rfl, hbw, hbbw, hbl, hbbl, h1, t1⟩
  have H1 := Lib.hid h1
  have T1 := Lib.hid t1
  have tb : Below w1.heap.size w1 (w1.alloc (.cells #[.int .u8 120] 5 (1, 2))) := (Below.refl _ _).alloc (Nat.le_refl _) _
  have RX : Hid (RdL U8R 1 (fun _ => True) (w1.alloc (.cells #[.int .u8 120] 5 (1, 2))) (some ⟨w1.heap.size, 0, none⟩) 1 [120]) := Lib.hid (one_byte w1 120)
  have hp := put_ok (k := tB) (c := 1) (Lib.hid (H1.out.below tb)) RX (by omega)
  rw [ex_e1, ex_w1] at hp
  have TB := Lib.hid (below_then tb T1.out)
  have kc := Lib.run_convert_bytes_const (P := Try.prog) w1 80 5 #[.int .u8 120] 1 1 (by kernel_rfl) (by kernel_rfl)
  clear h1 t1 tb
  unfold tB at hp
  go_wp2_with fail
  refine hp.mono ?_
  rintro e w2 ⟨rfl, h2, k2⟩
  have H2 := Lib.hid h2
  have K2 := Lib.hid k2
  have hd := del_ok (k := tC) H2
  rw [show ([⟨⟨#[98]⟩, false, [120]⟩] : List Wr) = [⟨tB, false, [120]⟩] from rfl, ex_e2, ex_w2] at hd
  clear h2 k2 hp kc
  unfold tC at hd
  go_wp2_with fail
  refine hd.mono ?_
  rintro e w3 ⟨rfl, h3, k3⟩
  have H3 := Lib.hid h3
  have T3 : Hid (Below w.heap.size w w3) := Lib.hid ((((Keep.of_below (F := (· = bb)) TB.out).trans (G := (· = bb)) K2.out (fun q h _ => h)).trans (G := (· = bb)) k3 (fun q h _ => h)).below (Nat.le_refl _) (fun q h => by rw [h]; exact hbbw))
  have X3 := BoxAt.new w3 #[.string ⟨#[97]⟩, .bool false, .slice none 0 0, .slice none 0 0, .int .u64 0, .int .i64 0, .string ⟨#[99]⟩, .bool false, .slice none 0 0, .slice none 0 0, .int .u64 0, .int .i64 0, .string ⟨#[100]⟩, .bool false, .slice none 0 0, .slice none 0 0, .int .u64 0, .int .i64 0] 82
  have t4 : Below w3.heap.size w3 (w3.alloc (.cells #[.string ⟨#[97]⟩, .bool false, .slice none 0 0, .slice none 0 0, .int .u64 0, .int .i64 0, .string ⟨#[99]⟩, .bool false, .slice none 0 0, .slice none 0 0, .int .u64 0, .int .i64 0, .string ⟨#[100]⟩, .bool false, .slice none 0 0, .slice none 0 0, .int .u64 0, .int .i64 0] 82)) := (Below.refl _ _).alloc (Nat.le_refl _) _
  have R3 := Lib.hid (BoxAt.fd3 (S := fun _ => True) X3 trivial)
  have H4 := Lib.hid (H3.out.below t4)
  have T4 := Lib.hid (below_then t4 T3.out)
  have ho := over_any (Lib.hid (Or.inl ⟨b, bb, rfl, H4.out⟩)) tE tE 9 (c := 3) R3 (by omega) (fun x hx => by
    simp only [List.mem_cons, List.not_mem_nil, or_false] at hx
    rcases hx with rfl | rfl | rfl <;> exact ⟨by decide +kernel, by simp, by simp⟩)
  rw [show ([⟨⟨#[97]⟩, false, [], [], 0, 0⟩, ⟨⟨#[99]⟩, false, [], [], 0, 0⟩, ⟨⟨#[100]⟩, false, [], [], 0, 0⟩] : List Fd) = exF from rfl, ex_s] at ho
  unfold tE at ho
  clear h3 k3 X3 t4 hd
  go_wp2_with fail
  refine ho.mono ?_
  rintro e w5 ⟨A5, c5, rfl, r5, t5⟩
  have H5 := Lib.hid (H4.out.below t5)
  have T5 := Lib.hid (below_then t5 T4.out)
  have hl5 : exS.length = 3 := rfl
  rw [hl5] at r5 ⊢
  obtain ⟨b0, o0, x0, _, _, _, _, _, _, rfl, hx0, _, _, _, _, k0, _⟩ := fd_at r5 (i := 0) (by omega)
  obtain ⟨b1, o1, x1, V1, m1, c1, _, _, _, e1, hx1, _, _, hr1, _, k1, k11, k12, _⟩ := fd_at r5 (i := 1) (by omega)
  obtain ⟨b2, o2, x2, _, _, _, _, _, _, e2, hx2, _, _, _, _, k22, _⟩ := fd_at r5 (i := 2) (by omega)
  injection e1 with e1; injection e1 with e1 e1b; subst e1; subst e1b
  injection e2 with e2; injection e2 with e2 e2b; subst e2; subst e2b
  cases hx0; cases hx1; cases hx2
  have hv : (convert 80 9 (.slice V1 m1 c1)).run Try.prog w5 = .ok (.string ⟨#[120]⟩) w5 := bytes_str hr1
  have hlen := blen_ok H5
  rw [show exW.length = 2 from rfl] at hlen
  clear r5 t5 ho hr1
  simp only [Nat.zero_mul, Nat.add_zero, Nat.one_mul] at k0 k1 k11 k12 k22
  unfold tA at k0
  unfold tB at k1
  unfold tD at k22
  go_wp2_with fail
  refine hlen.mono ?_
  rintro e w6 ⟨rfl, h6⟩
  replace h6 := h6.symm
  subst h6
  go_wp2_with fail
  go_ret
  exact ⟨rfl, T5.out⟩
end Go.Proofs.Ytpibaahiboajhaa
