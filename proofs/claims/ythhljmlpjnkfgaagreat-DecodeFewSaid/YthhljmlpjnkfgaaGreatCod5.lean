/-
  Data and parity.
-/
import Derived.Test.YthhljmlpjnkfgaaGreatCod4
import Derived.Test.YthhljmlpjnkfgaaGreatMat5
set_option linter.unusedSimpArgs false
set_option linter.unusedVariables false
namespace Go.Proofs.YthhljmlpjnkfgaaGreat
open Go.RowKit Go.Cib
attribute [local go_sem] cell_set Later.cell Later.frozen Grw.cell Grw.frozen

def encU (k : Nat) (ss : Rws) (n i : Nat) : Rws := (List.range i).map fun j => combF (rowF k (k + j)) ss (List.replicate n 0)
theorem encU_next (k : Nat) (ss : Rws) (n i : Nat) : encU k ss n (i + 1) = encU k ss n i ++ [combF (rowF k (k + i)) ss (List.replicate n 0)] := by unfold encU; rw [List.range_succ, List.map_append]; rfl
def lenF0 (ss : Rws) : Nat := (ra ss 0).length
def goodB (k N : Nat) (ss : Rws) : Bool := decide (N = k) && evB ss
def EncE (w : World) (k m N : Nat) (ss : Rws) (e : Ending) (w' : World) : Prop := Below w.heap.size w w' ∧
  ((goodB k N ss = false ∧ e = .returned (.tuple #[.slice none 0 0, .int .i64 2])) ∨
   (goodB k N ss = true ∧ ∃ A c, e = .returned (.tuple #[.slice A m c, .int .i64 0]) ∧ RdL RowR 1 (fun j => w.heap.size ≤ j) w' A m (encU k ss (lenF0 ss) m)))
theorem evB_all {ss : Rws} (h : evB ss = true) : ∀ r ∈ ss, r.length = (ra ss 0).length := fun r hr => by
  unfold evB at h
  rw [List.all_eq_true] at h
  simpa using h r hr
set_option maxRecDepth 100000 in
set_option maxHeartbeats 8000000 in
theorem encode_any {w : World} {cb b k m N cs : Nat} {As : Option Addr} {S : Nat → Prop} {ss : Rws} (H : CodAt w cb b k m) (R : RdL RowR 1 S w As N ss) (hN : N ≤ 1000) (hlen : (ra ss 0).length ≤ 1000000) :
    Calls Tryz.prog 41 #[.pointer (some ⟨cb, 0, none⟩), .slice As N cs] w fun e w' => EncE w k m N ss e w' := by
  have HC := Lib.hid H
  have HR := Lib.hid R
  have hk1 := H.k1
  have hm1 := H.m1
  have hkm := H.km
  have hNo := none_any H
  have hRi := right2_any (c := cs) H R hN
  have q0 : (0 : Int) ≤ (m : Int) := Int.natCast_nonneg _
  have q1 : (m : Int) ≤ 255 := by omega
  have q2 : (k : Int) ≤ 255 := by omega
  have q3 : (0 : Int) ≤ (k : Int) := Int.natCast_nonneg _
  obtain ⟨A0, c0, hbx, _⟩ := H.box
  have k0 := hbx.cell 0
  have k1 := hbx.cell 1
  have hcl := hbx.lt
  clear H R hbx
  go_enter Tryz.func41, Tryz.ntmps41
  go_wp2_with (go_at_call 43; refine hNo.mono ?_; rintro e w9 ⟨rfl, hw9⟩; rw [hw9]; clear hw9 hNo)
  obtain ⟨B, hB⟩ : ∃ B, B = (decide (N = k) && evB ss) := ⟨_, rfl⟩
  rw [← hB] at hRi
  refine hRi.mono ?_
  rintro e w9 ⟨rfl, hw9⟩
  rw [hw9]
  clear hw9 hRi
  have HB := Lib.hid hB
  cases B with
  | false =>
    clear hB
    go_wp2_with fail
    go_ret2
    exact ⟨Below.refl _ _, .inl ⟨HB.out.symm, rfl⟩⟩
  | true =>
    have hNk : N = k ∧ evB ss = true := by
      have h := hB.symm
      rw [Bool.and_eq_true] at h
      exact ⟨by simpa using h.1, h.2⟩
    obtain ⟨hNk, hev⟩ := hNk
    subst hNk
    have hall := evB_all hev
    have HALL := Lib.hid hall
    have HGO : Hid (goodB N N ss = true) := Lib.hid (by unfold goodB; rw [decide_eq_true rfl, hev]; rfl)
    clear hB hev hall HB
    go_wp2_with (at_make; refine wpList_make0 RowR (fun j => w.heap.size ≤ j) sl_rows rfl rfl (base := w.heap.size) rfl rfl m (by omega) (by omega) (by unfold maxLen; omega) (by (first | (with_reducible exact Nat.le_refl _) | omega | (simp only [World.size_alloc, World.size_setCell, World.size_drew] <;> omega))) ?_; intro y hys hown; have c1 := (y.cell (o := 1) hcl).trans k1; have HO := Lib.hid hown; have HY := Lib.hid (show Below w.heap.size w y.to from y.ok); clear hown hys)
    go_loopw [6, 28] (fun vs vi wr => ∃ (i : Nat) (A : Option Addr) (c : Nat), i ≤ m ∧ vi = .int .i64 i ∧ vs = .slice A i c ∧ i ≤ c ∧ Hid (OwnL RowR 29 1 w.heap.size (fun j => w.heap.size ≤ j) wr (.slice A i c) i (encU N ss (lenF0 ss) i)) ∧ Hid (Below w.heap.size w wr)) (fun _ vi _ => m - (intOf vi).toNat)
    case atStart => exact ⟨0, _, _, Nat.zero_le _, rfl, rfl, Nat.zero_le _, HO, HY⟩
    case round =>
      clear HO HY c1
      obtain ⟨i, A, c, hi, rfl, rfl, hc, HO, HY⟩ := hrel
      have p0 : (0 : Int) ≤ (i : Int) := Int.natCast_nonneg _
      by_cases hlt : i < m
      · have p1 : (i : Int) < (m : Int) := by omega
        have c0' := (HY.out.cell (p := ⟨cb, 0, none⟩) hcl).trans k0
        have hrow := crow_any (HC.out.below HY.out) (i := N + i) (by omega)
        rw [Int.natCast_add] at hrow
        have hnx := encU_next N ss (lenF0 ss) i
        have HNX := Lib.hid hnx
        have hsz := HY.out.size
        clear hnx
        go_wp2_with fail
        refine hrow.mono ?_
        rintro e w2 ⟨g, rfl, hr2, hb2⟩
        have hb02 := HY.out.trans (hb2.mono hsz)
        have hsum := sum_any (cs := cs) (cl := N) (HC.out.below hb02) (HR.out.below RowR.stable hb02) hr2 HALL.out hlen
        have HO2 := Lib.hid (HO.out.keep RowR.stable hb2)
        have hs2 := hb2.size
        have HB02 := Lib.hid hb02
        clear hrow hr2 hb2 hb02
        go_wp2_with fail
        refine hsum.mono ?_
        rintro e w3 ⟨A3, c3, rfl, hc3, hr3, hb3⟩
        have HB3 := Lib.hid (HB02.out.trans (hb3.mono HB02.out.size))
        have HO3 := Lib.hid (HO2.out.keep RowR.stable hb3)
        have hy3 : RowR (Go.Cib.Rest (fun j => w.heap.size ≤ j) (.slice A i c)) w3 [.slice A3 (lenF0 ss) c3] (combF (rowF N (N + i)) ss (List.replicate (lenF0 ss) 0)) := ⟨A3, _, c3, rfl, hc3, hr3.weaken ByR.stable fun j hj => ⟨by have h9 : w2.heap.size ≤ j := hj; show _ ≤ j; omega, fun e => by have h9 : w2.heap.size ≤ j := hj; have := (HO2.out.lt _ e.symm).2; omega⟩⟩
        have hs3 := HB3.out.size
        clear hsum hr3 hb3
        go_wp2_with (at_builtin; go_must (refine wpList_push1 RowR.stable RowR.one sl_rows (by rfl) (by rfl) (base := w.heap.size) (S := fun j => w.heap.size ≤ j) (cs := #[.slice A3 (lenF0 ss) c3]) (y := combF (rowF N (N + i)) ss (List.replicate (lenF0 ss) 0)) (by rfl) (by rfl) HO3.out (by rfl) hy3 (by unfold maxLen; omega) (by omega) hs3 ?_); intro A8 c8 ug hc8 own9 hlt8 hb8 hat8; rw [← HNX.out] at own9; have HO9 := Lib.hid own9; have HB9 := Lib.hid (HB3.out.trans hb8); clear own9 hb8 hlt8 hat8)
        exact ⟨⟨i + 1, A8, c8, by omega, by go_num, rfl, hc8, HO9, HB9⟩, by simp [intOf]; omega⟩
      · have p1 : ¬ (i : Int) < (m : Int) := by omega
        obtain rfl : i = m := by omega
        go_wp2_with fail
        go_ret2
        obtain ⟨A', c', e, _, hr⟩ := HO.out.rd (S' := fun j => w.heap.size ≤ j) (fun _ hk => hk) (fun cs x hx => RowR.stable _ _ _ _ _ _ hx fun b hb _ => ⟨hb.1, rfl⟩)
        injection e with e1 _ e2
        subst e1; subst e2
        exact ⟨HY.out, .inr ⟨HGO.out, A, c, rfl, hr⟩⟩
end Go.Proofs.YthhljmlpjnkfgaaGreat
