/-
  The document's buffer: Put, Delete, Find; the same write?
-/
import Derived.Test.YtpibaahiboajhaaBuf8
set_option linter.unusedSimpArgs false
set_option linter.unusedVariables false
namespace Go.Proofs.Ytpibaahiboajhaa
open Go.RowKit Go.Cib
attribute [local go_sem] cell_set Later.cell Later.frozen Grw.cell Grw.frozen

set_option maxRecDepth 100000 in
theorem rput_any {S T : Nat → Prop} {w : World} {x : Nat} {L : List Wr} {k : ByteArray} {A : Option Addr} {m c : Nat} {xs : List Int} (h : Hid (RBufB S w x L)) (hok : Hid (WOk L)) (R : Hid (RdL U8R 1 T w A m xs)) (hm : m ≤ 1000000) (hSx : ¬ S x) (hSn : ∀ b, w.heap.size ≤ b → S b) :
    Calls Try.prog 90 #[.pointer (some ⟨x, 0, none⟩), .string k, .slice A m c] w fun e w' => e = .returned (.int .i64 (wrE L ⟨k, false, xs⟩)) ∧ RBufB S w' x (wrW L ⟨k, false, xs⟩) ∧ Keep (· = x) w w' := by
  have hA := Lib.hid (R.out.alloc U8R.stable (.cells #[] 5))
  go_enter Try.func90, Try.ntmps90
  go_wp2_with (at_builtin; refine wpList_appL U8R.stable U8R.one sl_u8 rfl (by exact rfl) (base := w.heap.size) (S := fun _ => True) (n := 0) (xs := []) (by exact rfl) (OwnL.made #[] 0 (Nat.le_refl _) (by unfold maxLen; omega) rfl) (by exact rfl) hA.out (fun _ _ h => h) (by unfold maxLen; omega) (by omega) (by simp only [World.size_alloc]; omega) ?_; intro A' c' w' hc hown hg hat; have hb : Below w.heap.size w w' := ((Below.refl _ _).alloc (Nat.le_refl _) _).grown hg (by simp only [World.size_alloc]; omega) (fun k hk => by simp only [Value.ownBlock, Option.some.injEq] at hk; omega))
  rw [Nat.zero_add, List.nil_append] at hown
  obtain ⟨A2, c2, hv, hc2, hrd⟩ := hown.rd (S' := fun b => w.heap.size ≤ b) (fun b hb => hb) (fun cs x hx => hx)
  simp only [Value.slice.injEq] at hv
  obtain ⟨rfl, _, rfl⟩ := hv
  have H1 := Lib.hid (h.out.below hb)
  have R1 : Hid (RdL U8R 1 S w' A' m xs) := Lib.hid (hrd.weaken U8R.stable hSn)
  have B1 := Lib.hid hb
  have hw := rwrite_any (k := k) (d := false) (c := c') H1 hok R1 hSx (fun b hb2 => hSn b (Nat.le_trans B1.out.size hb2))
  clear hA hown hg hat hrd hb
  go_wp2_with fail
  refine hw.mono ?_
  rintro e w2 ⟨rfl, h2, k2⟩
  have H2 := Lib.hid h2
  have K2 := Lib.hid ((Keep.of_below (F := (· = x)) B1.out).trans (G := (· = x)) k2 (fun k h _ => h))
  clear h2 k2 hw
  go_wp2_with fail
  go_ret
  exact ⟨rfl, H2.out, K2.out⟩
set_option maxRecDepth 100000 in
theorem rdel_any {S : Nat → Prop} {w : World} {x : Nat} {L : List Wr} {k : ByteArray} (h : Hid (RBufB S w x L)) (hok : Hid (WOk L)) (hSx : ¬ S x) (hSn : ∀ b, w.heap.size ≤ b → S b) :
    Calls Try.prog 89 #[.pointer (some ⟨x, 0, none⟩), .string k] w fun e w' => e = .returned (.int .i64 (wrE L ⟨k, true, []⟩)) ∧ RBufB S w' x (wrW L ⟨k, true, []⟩) ∧ Keep (· = x) w w' := by
  have hw := rwrite_any (k := k) (d := true) (c := 0) h hok (Lib.hid (RdL.nil (R := U8R) (s := 1) (S := S) (w := w) (A := none))) hSx hSn
  go_enter Try.func89, Try.ntmps89
  go_wp2_with fail
  refine hw.mono ?_
  rintro e w2 ⟨rfl, h2, k2⟩
  have H2 := Lib.hid h2
  have K2 := Lib.hid k2
  clear h2 k2 hw
  go_wp2_with fail
  go_ret
  exact ⟨rfl, H2.out, K2.out⟩
def RFindE (S : Nat → Prop) (w : World) (L : List Wr) (k : ByteArray) (e : Ending) (w' : World) : Prop := ∃ A m c, e = .returned (.tuple #[.agg #[.string ((findW L k).getD w0).key, .bool ((findW L k).getD w0).dead, .slice A m c], .bool (findW L k).isSome]) ∧ RdL U8R 1 S w' A m ((findW L k).getD w0).val ∧ Below w.heap.size w w'
set_option maxRecDepth 100000 in
set_option maxHeartbeats 4000000 in
theorem rfind_any {S : Nat → Prop} {w : World} {x : Nat} {L : List Wr} (k : ByteArray) (h : Hid (RBufB S w x L)) (hok : Hid (WOk L)) :
    Calls Try.prog 53 #[.pointer (some ⟨x, 0, none⟩), .string k] w fun e w' => RFindE S w L k e w' := by
  have hL := hok.out.len
  have wB : Below w.heap.size w (w.alloc (.cells #[.string ⟨#[]⟩, .bool false, .slice none 0 0] 102)) := (by repeat (first | (with_reducible exact Below.refl _ _) | (with_reducible assumption) | (with_reducible refine Below.drew ?_) | (with_reducible refine Below.setCell ?_ ?_ _) | (with_reducible refine Below.alloc ?_ ?_ _) | (with_reducible refine Below.later ?_ ?_ _) | (first | (with_reducible exact Nat.le_refl _) | omega | (simp only [World.size_alloc, World.size_setCell, World.size_drew] <;> omega))))
  have X1 := BoxAt.new w #[.string ⟨#[]⟩, .bool false, .slice none 0 0] 102
  obtain ⟨w1, hw1⟩ : ∃ w1, w.alloc (.cells #[.string ⟨#[]⟩, .bool false, .slice none 0 0] 102) = w1 := ⟨_, rfl⟩
  rw [hw1] at wB X1
  have hpl := place_any (Lib.hid (h.out.below wB)) (Lib.hid hok.out.rises) k (by omega)
  have HX1 := Lib.hid X1
  have WB := Lib.hid wB
  clear X1 wB
  go_enter Try.func53, Try.ntmps53
  go_wp2_with fail
  refine hpl.mono ?_
  rintro e w2 ⟨rfl, t2⟩
  have T2 := Lib.hid (below_then t2 WB.out)
  have Y1 := HX1.out.below t2
  have j0 := Y1.cell 0; have j1 := Y1.cell 1; have j2 := Y1.cell 2
  have g0 := Y1.frozen 0; have g1 := Y1.frozen 1; have g2 := Y1.frozen 2
  have l1 := Y1.lt
  clear hpl t2 hw1
  cases hf : findW L k with
  | none =>
    have HF := Lib.hid hf
    obtain ⟨i, hi⟩ : ∃ i, posW L k = i := ⟨_, rfl⟩
    rw [hi]
    clear hf hi
    go_wp2_with fail
    refine bodyPost_ret (v := .tuple #[.agg #[.string ⟨#[]⟩, .bool false, .slice none 0 0], .bool false]) (by simp [results, Try.results53, go_sem, *]) rfl ?_
    unfold RFindE
    rw [HF.out]
    have T2' := T2.out
    refine ⟨none, 0, 0, rfl, RdL.nil, (by repeat (first | (with_reducible exact Below.refl _ _) | (with_reducible assumption) | (with_reducible refine Below.drew ?_) | (with_reducible refine Below.setCell ?_ ?_ _) | (with_reducible refine Below.alloc ?_ ?_ _) | (with_reducible refine Below.later ?_ ?_ _) | (first | (with_reducible exact Nat.le_refl _) | omega | (simp only [World.size_alloc, World.size_setCell, World.size_drew] <;> omega))))⟩
  | some z =>
    have hzi := find_pos hok.out.rises hf
    have HF := Lib.hid hf
    obtain ⟨i, hi⟩ : ∃ i, posW L k = i := ⟨_, rfl⟩
    rw [hi] at hzi ⊢
    have hil : i < L.length := (List.getElem?_eq_some_iff.1 hzi).1
    obtain ⟨AL, cL, hXL0, hcL, RL0⟩ := h.out
    have hXL := hXL0.below T2.out
    have RL := (RL0.stable (S' := fun b => S b ∧ b < w.heap.size) WrR.stable (fun b hb hlt => ⟨⟨hb, hlt⟩, rfl⟩)).below WrR.stable T2.out
    have p0 := hXL.cell 0
    obtain ⟨g, og, y, VA, vm, vc, rfl, hy, hg, hSg, hr, k0, k1, k2⟩ := wr_at RL hil
    obtain rfl : z = y := by rw [hzi] at hy; injection hy
    have q1 : (i : Int) < (L.length : Int) := by omega
    have q2 : (0 : Int) ≤ (i : Int) := Int.natCast_nonneg _
    have HR := Lib.hid hr
    clear hf hi hzi hy RL hXL RL0 hXL0 hr
    go_wp2_with fail
    refine bodyPost_ret (v := .tuple #[.agg #[.string z.key, .bool z.dead, .slice VA vm vc], .bool true]) (by simp [results, Try.results53, go_sem, *]) rfl ?_
    unfold RFindE
    rw [HF.out]
    have T2' := T2.out
    refine ⟨VA, vm, vc, rfl, HR.out.stable U8R.stable (fun b hb hlt => ⟨hb.1, ?_⟩), (by repeat (first | (with_reducible exact Below.refl _ _) | (with_reducible assumption) | (with_reducible refine Below.drew ?_) | (with_reducible refine Below.setCell ?_ ?_ _) | (with_reducible refine Below.alloc ?_ ?_ _) | (with_reducible refine Below.later ?_ ?_ _) | (first | (with_reducible exact Nat.le_refl _) | omega | (simp only [World.size_alloc, World.size_setCell, World.size_drew] <;> omega))))⟩
    have n1 : b ≠ w.heap.size := by have := hb.2; omega
    have q1 : ∀ (W : World) (o : Nat) (v : Value), (W.setCell ⟨w.heap.size, o, none⟩ v).heap[b]? = W.heap[b]? := fun W o v => Below.heap_setCell W ⟨w.heap.size, o, none⟩ v b n1
    simp only [q1]
end Go.Proofs.Ytpibaahiboajhaa
