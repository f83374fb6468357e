/-
  What a base keeps: those in a span that have no write.
-/
import Derived.Test.YtpibaahiboajhaaBuf5
set_option linter.unusedSimpArgs false
set_option linter.unusedVariables false
namespace Go.Proofs.Ytpibaahiboajhaa
open Go.RowKit Go.Cib
attribute [local go_sem] cell_set Later.cell Later.frozen Grw.cell Grw.frozen

def leftL (L : List Wr) (f t : ByteArray) (xs : List Fd) : List Fd := xs.filter fun x => (findW L x.key).isNone && inB f t x.key
theorem left_snoc {L : List Wr} {f t : ByteArray} {xs : List Fd} {i : Nat} {x : Fd} (h : xs[i]? = some x) : leftL L f t (xs.take (i + 1)) = leftL L f t (xs.take i) ++ (if ((findW L x.key).isNone && inB f t x.key) = true then [x] else []) := by
  rw [take_snoc h]
  unfold leftL
  rw [List.filter_append, List.filter_cons]
  split <;> simp
theorem left_len (L : List Wr) (f t : ByteArray) (xs : List Fd) : (leftL L f t xs).length ≤ xs.length := List.length_filter_le _ _

set_option maxRecDepth 100000 in
set_option maxHeartbeats 4000000 in
theorem left_any {S : Nat → Prop} {w : World} {p : Option Addr} {L : List Wr} (h : Hid (BufP w p L)) (f t : ByteArray) {A : Option Addr} {m c : Nat} {xs : List Fd} (R : Hid (RdL FdR 6 S w A m xs)) (hm : m ≤ 1000)
    (hx : ∀ x ∈ xs, x.val.length ≤ 1000000 ∧ x.places.length ≤ 1000000) :
    Calls Try.prog 99 #[.pointer p, .slice A m c, .agg #[.string f, .string t]] w fun e w' => ∃ A' c', e = .returned (.slice A' (leftL L f t xs).length c') ∧ RdL FdR 6 (w.heap.size ≤ ·) w' A' (leftL L f t xs).length (leftL L f t xs) ∧ Below w.heap.size w w' := by
  have wA : Below w.heap.size w (w.alloc (.cells #[.string f, .string t] 56)) := (by repeat (first | (with_reducible exact Below.refl _ _) | (with_reducible assumption) | (with_reducible refine Below.drew ?_) | (with_reducible refine Below.setCell ?_ ?_ _) | (with_reducible refine Below.alloc ?_ ?_ _) | (with_reducible refine Below.later ?_ ?_ _) | (first | (with_reducible exact Nat.le_refl _) | omega | (simp only [World.size_alloc, World.size_setCell, World.size_drew] <;> omega))))
  have X0 := BoxAt.new w #[.string f, .string t] 56
  obtain ⟨wx, hw1⟩ : ∃ w1, w.alloc (.cells #[.string f, .string t] 56) = w1 := ⟨_, rfl⟩
  rw [hw1] at wA X0
  have HP0 := Lib.hid (h.out.below wA)
  have HR0 := Lib.hid (R.out.below FdR.stable wA)
  have HX0 := Lib.hid X0
  have WA := Lib.hid wA
  have hlen : xs.length = m := R.out.1
  have HXS := Lib.hid hx
  clear X0 wA hx
  go_enter Try.func99, Try.ntmps99
  go_wp2_with fail
  go_loopw [7, 14] (fun out vi wr => ∃ i : Nat, i ≤ m ∧ vi = .int .i64 i ∧ Hid (OwnL FdR 82 6 wx.heap.size (wx.heap.size ≤ ·) wr out (leftL L f t (xs.take i)).length (leftL L f t (xs.take i))) ∧ Hid (Below wx.heap.size wx wr)) (fun _ vi _ => m - (intOf vi).toNat)
  case atStart => exact ⟨0, Nat.zero_le _, rfl, Lib.hid OwnL.nil_, Lib.hid (Below.refl _ _)⟩
  case round =>
    obtain ⟨wo, rfl⟩ : ∃ wo, wo = wr := ⟨_, rfl⟩
    obtain ⟨i, hi, rfl, HO, HT⟩ := hrel
    obtain ⟨Ao, co, rfl⟩ := ownL_form HO.out
    by_cases hlt : i < m
    · have q1 : (i : Int) < (m : Int) := by omega
      have q2 : (0 : Int) ≤ (i : Int) := Int.natCast_nonneg _
      obtain ⟨g, og, x, A1, m1, c1, B1, n1, d1, rfl, hx, hg, _, hr, hr2, p0, p1, p2, p3, p4, p5⟩ := fd_at (HR0.out.below FdR.stable HT.out) hlt
      have hxm := HXS.out x (List.mem_of_getElem? hx)
      have hm1 : m1 ≤ 1000000 := by rw [← hr.1]; exact hxm.1
      have hn1 : n1 ≤ 1000000 := by rw [← hr2.1]; exact hxm.2
      have hsn := left_snoc (L := L) (f := f) (t := t) hx
      have HSN := Lib.hid hsn
      have hln : (leftL L f t (xs.take i)).length ≤ 1000 := Nat.le_trans (left_len _ _ _ _) (by rw [List.length_take]; omega)
      obtain ⟨n, hn⟩ : ∃ n, (leftL L f t (xs.take i)).length = n := ⟨_, rfl⟩
      have HO1 := HO.out
      rw [hn] at HO1 hln ⊢
      have HN := Lib.hid hn
      obtain ⟨k, own, val, pl, gen, size⟩ := x
      dsimp only at p0 p1 p2 p3 p4 p5 hr hr2
      have wB : Below wo.heap.size wo (wo.alloc (.cells #[.string k, .bool own, .slice A1 m1 c1, .slice B1 n1 d1, .int .u64 gen, .int .i64 size] 82)) := (by repeat (first | (with_reducible exact Below.refl _ _) | (with_reducible assumption) | (with_reducible refine Below.drew ?_) | (with_reducible refine Below.setCell ?_ ?_ _) | (with_reducible refine Below.alloc ?_ ?_ _) | (with_reducible refine Below.later ?_ ?_ _) | (first | (with_reducible exact Nat.le_refl _) | omega | (simp only [World.size_alloc, World.size_setCell, World.size_drew] <;> omega))))
      have X2 := BoxAt.new wo #[.string k, .bool own, .slice A1 m1 c1, .slice B1 n1 d1, .int .u64 gen, .int .i64 size] 82
      obtain ⟨w2, hw2⟩ : ∃ w2, wo.alloc (.cells #[.string k, .bool own, .slice A1 m1 c1, .slice B1 n1 d1, .int .u64 gen, .int .i64 size] 82) = w2 := ⟨_, rfl⟩
      rw [hw2] at wB X2
      have HP2 := Lib.hid ((HP0.out.below HT.out).below wB)
      have s0 := X2.cell 0
      have WB := Lib.hid wB
      have X2h := Lib.hid X2
      have hf := bfind_any k HP2
      clear hsn hn hx X2 wB hxm
      go_wp2_with fail
      refine hf.mono ?_
      rintro e w3 ⟨A2, m2, c2, rfl, _, t3⟩
      have X3 := X2h.out.below t3
      have T3 := below_then t3 WB.out
      obtain ⟨k2, hk2⟩ : ∃ k2, ((findW L k).getD w0).key = k2 := ⟨_, rfl⟩
      obtain ⟨d2, hd2⟩ : ∃ d2, ((findW L k).getD w0).dead = d2 := ⟨_, rfl⟩
      obtain ⟨B, hB⟩ : ∃ B, (findW L k).isSome = B := ⟨_, rfl⟩
      rw [hk2, hd2, hB]
      have HB := Lib.hid (show (findW L k).isNone = !B by rw [← hB]; cases findW L k <;> rfl)
      have wC : Below w3.heap.size w3 (w3.alloc (.cells #[.string k2, .bool d2, .slice A2 m2 c2] 102)) := (by repeat (first | (with_reducible exact Below.refl _ _) | (with_reducible assumption) | (with_reducible refine Below.drew ?_) | (with_reducible refine Below.setCell ?_ ?_ _) | (with_reducible refine Below.alloc ?_ ?_ _) | (with_reducible refine Below.later ?_ ?_ _) | (first | (with_reducible exact Nat.le_refl _) | omega | (simp only [World.size_alloc, World.size_setCell, World.size_drew] <;> omega))))
      obtain ⟨w4, hw4⟩ : ∃ w4, w3.alloc (.cells #[.string k2, .bool d2, .slice A2 m2 c2] 102) = w4 := ⟨_, rfl⟩
      rw [hw4] at wC
      have T4 := Lib.hid (below_then wC T3)
      have X4 := Lib.hid (X3.below wC)
      clear hk2 hd2 hB X3 T3 hf s0 X2h hw2 t3 wC
      cases B with
      | true =>
        go_wp2_with fail
        refine ⟨⟨i + 1, by omega, by go_num, ?_, Lib.hid (below_then T4.out HT.out)⟩, by simp [intOf]; omega⟩
        rw [HSN.out, HB.out]
        simp only [Bool.not_true, Bool.false_and, Bool.false_eq_true, if_false, List.append_nil]
        rw [HN.out]
        exact Lib.hid (HO1.keep FdR.stable T4.out)
      | false =>
        have hin := in_any f t k w4
        obtain ⟨B, hBB⟩ : ∃ B, inB f t k = B := ⟨_, rfl⟩
        rw [hBB] at hin
        have HBB := Lib.hid hBB
        have Y0 := (HX0.out.below HT.out).below T4.out
        have s0 := Y0.cell 0; have s1 := Y0.cell 1
        have k0 := X4.out.cell 0
        clear hBB Y0
        go_wp2_with fail
        refine hin.mono ?_
        rintro e w5 ⟨rfl, t5⟩
        have T5 := Lib.hid (below_then t5 T4.out)
        have X5 := Lib.hid (X4.out.below t5)
        have HO5 := HO1.keep FdR.stable T5.out
        have HV5 := Lib.hid (hr.below U8R.stable T5.out)
        clear t5 hin s0 s1 k0 hw4
        cases B with
        | false =>
          go_wp2_with fail
          refine ⟨⟨i + 1, by omega, by go_num, ?_, Lib.hid (below_then T5.out HT.out)⟩, by simp [intOf]; omega⟩
          rw [HSN.out, HB.out, HBB.out]
          simp only [Bool.and_false, Bool.false_eq_true, if_false, List.append_nil]
          rw [HN.out]
          exact Lib.hid HO5
        | true =>
          have k2 := X5.out.cell 2
          go_wp2_with fail
          refine (clone8_any HV5 hm1).mono ?_
          rintro e w6 ⟨A6, c6, rfl, r6, t6⟩
          have X6 := X5.out.below t6
          have T6 := below_then t6 T5.out
          have hbx : wo.heap.size < w6.heap.size := X6.lt
          obtain ⟨w7, hw7⟩ : ∃ w7, w6.setCell ⟨wo.heap.size, 2, none⟩ (.slice A6 m1 c6) = w7 := ⟨_, rfl⟩
          have X7 := X6.set 2 (.slice A6 m1 c6)
          have T7 := Below.setCell T6 (p := ⟨wo.heap.size, 2, none⟩) (Nat.le_refl _) (.slice A6 m1 c6)
          have r7 := RdL.setCell (S := fun b => wo.heap.size < b) U8R.stable (r6.weaken U8R.stable (fun b hb => by have := X5.out.lt; have hb2 : w5.heap.size ≤ b := hb; show wo.heap.size < b; omega)) (p := ⟨wo.heap.size, 2, none⟩) (Nat.lt_irrefl _) (.slice A6 m1 c6)
          rw [hw7] at X7 T7 r7
          have T7h := Lib.hid T7
          have HP7 := Lib.hid (hr2.below IntR.stable T7)
          have k3 : w7.cell? ⟨wo.heap.size, 3, none⟩ = some (.slice B1 n1 d1) := X7.cell 3
          have k2 := X6.cell 2
          have f2 := X6.frozen 2
          have X7h := Lib.hid X7
          have R7 := Lib.hid r7
          clear X6 T6 X7 T7 r7 r6 t6 HV5 p0 p1 p2 p3 p4 p5
          go_wp2_with fail
          refine (cloneI_any HP7 hn1).mono ?_
          rintro e w8 ⟨A8, c8, rfl, r8, t8⟩
          have X8 := X7h.out.below t8
          have T8 := below_then t8 T7h.out
          obtain ⟨w9, hw9⟩ : ∃ w9, w8.setCell ⟨wo.heap.size, 3, none⟩ (.slice A8 n1 c8) = w9 := ⟨_, rfl⟩
          have X9 := X8.set 3 (.slice A8 n1 c8)
          have T9 := Below.setCell T8 (p := ⟨wo.heap.size, 3, none⟩) (Nat.le_refl _) (.slice A8 n1 c8)
          have r9 := RdL.setCell (S := fun b => wo.heap.size < b) U8R.stable (R7.out.below U8R.stable t8) (p := ⟨wo.heap.size, 3, none⟩) (Nat.lt_irrefl _) (.slice A8 n1 c8)
          have rp9 := RdL.setCell (S := fun b => wo.heap.size < b) IntR.stable (r8.weaken IntR.stable (fun b hb => by have := X7h.out.lt; have hb2 : w7.heap.size ≤ b := hb; show wo.heap.size < b; omega)) (p := ⟨wo.heap.size, 3, none⟩) (Nat.lt_irrefl _) (.slice A8 n1 c8)
          rw [hw9] at X9 T9 r9 rp9
          have k3 := X8.cell 3
          have f3 := X8.frozen 3
          have j0 : w9.cell? ⟨wo.heap.size, 0, none⟩ = some (.string k) := X9.cell 0
          have j1 : w9.cell? ⟨wo.heap.size, 1, none⟩ = some (.bool own) := X9.cell 1
          have j2 : w9.cell? ⟨wo.heap.size, 2, none⟩ = some (.slice A6 m1 c6) := X9.cell 2
          have j3 : w9.cell? ⟨wo.heap.size, 3, none⟩ = some (.slice A8 n1 c8) := X9.cell 3
          have j4 : w9.cell? ⟨wo.heap.size, 4, none⟩ = some (.int .u64 gen) := X9.cell 4
          have j5 : w9.cell? ⟨wo.heap.size, 5, none⟩ = some (.int .i64 size) := X9.cell 5
          have HO9 := HO1.keep FdR.stable T9
          have hs2 := T9.size
          have hs3 := HT.out.size
          have hrest : ∀ bq, wo.heap.size < bq → Go.Cib.Rest (wx.heap.size ≤ ·) (.slice Ao n co) bq := fun bq hb => HO1.rest (b := bq) (show wx.heap.size ≤ bq by omega) (by omega)
          have RV := Lib.hid (r9.weaken U8R.stable hrest)
          have RP := Lib.hid (rp9.weaken IntR.stable hrest)
          have T9h := Lib.hid (below_then T9 HT.out)
          clear X8 T8 X9 T9 r9 rp9 r8 t8 R7 HP7 hrest
          go_wp2_with (at_builtin; refine wpList_push1 FdR.stable FdR.one sl_fd rfl (by exact rfl) (by exact rfl) (by exact rfl) HO9 (y := ⟨k, own, val, pl, gen, size⟩) rfl ⟨A6, m1, c6, A8, n1, c8, rfl, RV.out, RP.out⟩ (by unfold maxLen; omega) (by omega) (by omega) ?_; intro A3 c3 u hc3 hown3 hus hub hat)
          refine ⟨⟨i + 1, by omega, by go_num, ?_, Lib.hid (T9h.out.trans hub)⟩, by simp [intOf]; omega⟩
          rw [HSN.out, HB.out, HBB.out]
          simp only [Bool.not_false, Bool.true_and, if_true, List.length_append, List.length_singleton]
          rw [HN.out]
          exact Lib.hid hown3
    · obtain rfl : i = m := by omega
      have q1 : ¬ (i : Int) < (i : Int) := by omega
      obtain ⟨A9, c9, hv, hc, hrd⟩ := HO.out.rd (S' := (w.heap.size ≤ ·)) (fun b hb => Nat.le_trans WA.out.size hb) (fun cs x hx => FdR.stable _ _ _ _ _ _ hx fun b hb _ => ⟨Nat.le_trans WA.out.size hb.1, rfl⟩)
      simp only [Value.slice.injEq] at hv
      obtain ⟨rfl, _, rfl⟩ := hv
      rw [List.take_of_length_le (by omega)] at hrd hc
      rw [List.take_of_length_le (by omega : xs.length ≤ i)]
      have HR := Lib.hid hrd
      have HC := Lib.hid hc
      clear hrd hc
      go_wp2_with fail
      go_ret
      exact ⟨Ao, ⟨co, rfl⟩, HR.out, below_then HT.out WA.out⟩
end Go.Proofs.Ytpibaahiboajhaa
