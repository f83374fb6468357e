/-
  The page's example of a store of versions, walked.
-/
import Derived.Test.YtpibaahiboajhaaMw1
set_option linter.unusedSimpArgs false
set_option linter.unusedVariables false
namespace Go.Proofs.Ytpibaahiboajhaa
open Go.RowKit Go.Cib
attribute [local go_sem] cell_set Later.cell Later.frozen Grw.cell Grw.frozen

theorem ex_ok1 : OkL 1 1 exL1 := by
  have h := (apply_ok (nb := 0) (last := 0) (st := 1) (L := []) (chs := [exC1]) (fun e he => by cases he) (Int.le_refl _) (by simp [exC1])).1
  rw [ex_apply1] at h; exact h
theorem ex_ok2 : OkL 2 2 exL2 := by
  have h := (apply_ok (nb := 1) (last := 1) (st := 2) (L := exL1) (chs := [exC2]) ex_ok1 (by decide) (by simp [exC2])).1
  rw [ex_apply2] at h; exact h
theorem MvM.next {w w' : World} {base s : Nat} {L L' : List Ent} {last last' : Int} {F F' : Nat → Prop} (h : MvM w base s L last F) (hk : Keep F w w') (B : Nat) (hB : B ≤ base) (hBw : B ≤ w.heap.size) : Below B w w' := hk.below hBw (fun q hq => Nat.le_trans hB (h.lt hq).1)
set_option maxRecDepth 100000 in
set_option maxHeartbeats 8000000 in
theorem holds24_any (w : World) : Calls Try.prog 34 #[] w fun e w' => e = .returned (.bool true) ∧ Below w.heap.size w w' := by
  have hnew := mvnew_any w
  have ea : (⟨#[97]⟩ : ByteArray) = exA := rfl
  go_enter Try.func34, Try.ntmps34
  go_wp2_with fail
  refine hnew.mono ?_
  rintro e w1 ⟨s, F1, rfl, hM1, hb1⟩
  -- the first record
  have hal1 : Below w1.heap.size w1 (w1.alloc (.cells #[.string exA, .bool false, .slice none 0 0, .int .u64 0, .int .i64 4] 129)) := (Below.refl _ _).alloc (Nat.le_refl _) _
  have R1 : RdL ChgR 5 (fun _ => True) (w1.alloc (.cells #[.string exA, .bool false, .slice none 0 0, .int .u64 0, .int .i64 4] 129)) (some ⟨w1.heap.size, 0, none⟩) 1 [exC1] := RdL.one ChgR.stable rfl (S := fun _ => True) ⟨none, 0, 0, rfl, Nat.le_refl _, RdL.nil⟩
  have hM1' := Lib.hid (hM1.below hal1)
  have hap1 := apply_any (st := 1) (cc := 1) hM1' (Lib.hid (show OkL 0 0 [] from fun e he => by cases he)) (by omega) (by simp) (Lib.hid R1) (by omega) (Lib.hid (by simp [exC1]))
  have HB1 := Lib.hid (hb1.trans (hal1.mono hb1.size))
  clear hM1 hal1 R1 hb1 hnew
  go_wp2_with fail
  refine hap1.mono ?_
  unfold ApplyP
  rw [ex_apply1]
  rintro e w2 ⟨rfl, F2, hM2, hk2, hF2⟩
  have hbk2 := hM1'.out.next (L' := []) (last' := 0) (F' := F1) hk2 w.heap.size (Nat.le_refl _) HB1.out.size
  have HB2 := Lib.hid (HB1.out.trans hbk2)
  -- the second record
  have hal2 : Below w2.heap.size w2 (w2.alloc (.cells #[.string exA, .bool true, .slice none 0 0, .int .u64 0, .int .i64 0] 129)) := (Below.refl _ _).alloc (Nat.le_refl _) _
  have R2 : RdL ChgR 5 (fun _ => True) (w2.alloc (.cells #[.string exA, .bool true, .slice none 0 0, .int .u64 0, .int .i64 0] 129)) (some ⟨w2.heap.size, 0, none⟩) 1 [exC2] := RdL.one ChgR.stable rfl (S := fun _ => True) ⟨none, 0, 0, rfl, Nat.le_refl _, RdL.nil⟩
  have hM2' := Lib.hid (hM2.below hal2)
  have hap2 := apply_any (st := 2) (cc := 1) hM2' (Lib.hid ex_ok1) (by omega) (by simp [exL1]) (Lib.hid R2) (by omega) (Lib.hid (by simp [exC2]))
  have HB3 := Lib.hid (HB2.out.trans (hal2.mono HB2.out.size))
  clear hM2 hal2 R2 hk2 hF2 hbk2 hap1 hM1'
  go_wp2_with fail
  refine hap2.mono ?_
  unfold ApplyP
  simp only [Option.isSome_some, if_true, Option.getD_some]
  rw [ex_apply2]
  rintro e w3 ⟨rfl, F3, hM3, hk3, hF3⟩
  have hbk3 := hM2'.out.next (L' := []) (last' := 0) (F' := F2) hk3 w.heap.size (Nat.le_refl _) HB3.out.size
  have HB4 := Lib.hid (HB3.out.trans hbk3)
  simp only [Option.isSome_some, if_true, Option.getD_some] at hM3
  -- the third
  have hM3' := Lib.hid hM3
  have hap3 := apply_any (st := 2) (cc := 0) (CA := none) (CN := 0) (S2 := fun _ => True) (chs := []) hM3' (Lib.hid ex_ok2) (by omega) (by simp [exL2]) (Lib.hid RdL.nil) (by omega) (Lib.hid (by simp))
  clear hM3 hk3 hF3 hbk3 hap2 hM2'
  go_wp2_with fail
  refine hap3.mono ?_
  unfold ApplyP
  rw [ex_apply3]
  rintro e w4 ⟨rfl, F4, hM4, hk4, hF4⟩
  have hbk4 := hM3'.out.next (L' := []) (last' := 0) (F' := F3) hk4 w.heap.size (Nat.le_refl _) HB4.out.size
  have HB5 := Lib.hid (HB4.out.trans hbk4)
  have hM4' := Lib.hid (by simpa using hM4 : MvM w4 w.heap.size s exL2 2 F4)
  clear hM4 hk4 hF4 hbk4 hap3 hM3'
  go_wp2_with fail
  have hrd := mvread_any hM4' (Lib.hid ex_ok2) (by omega) exA 1
  rw [ex_at] at hrd
  refine hrd.mono ?_
  rintro e w5 ⟨v, rfl, ⟨PA, pn, pc, rfl, hpc, hPR⟩, hb5⟩
  have bx := BoxAt.new w5 #[.int .u64 0, .bool false, .slice none 0 0, .int .u64 0, .int .i64 0] 77
  have hal : Below w5.heap.size w5 (w5.alloc (.cells #[.int .u64 0, .bool false, .slice none 0 0, .int .u64 0, .int .i64 0] 77)) := (Below.refl _ _).alloc (Nat.le_refl _) _
  obtain ⟨vb, hvb⟩ : ∃ vb, w5.heap.size = vb := ⟨_, rfl⟩
  obtain ⟨w6, hw6⟩ : ∃ w6, w5.alloc (.cells #[.int .u64 0, .bool false, .slice none 0 0, .int .u64 0, .int .i64 0] 77) = w6 := ⟨_, rfl⟩
  rw [hw6] at bx hal
  rw [hvb] at bx
  have c0 := bx.cell 0; have c1 := bx.cell 1; have c2 := bx.cell 2; have c3 := bx.cell 3; have c4 := bx.cell 4
  have f0 := bx.frozen 0; have f1 := bx.frozen 1; have f2 := bx.frozen 2; have f3 := bx.frozen 3; have f4 := bx.frozen 4
  have hb7 : Below w5.heap.size w5 (((((w6.setCell ⟨vb, 0, none⟩ (.int .u64 1)).setCell ⟨vb, 1, none⟩ (.bool false)).setCell ⟨vb, 2, none⟩ (.slice PA pn pc)).setCell ⟨vb, 3, none⟩ (.int .u64 0)).setCell ⟨vb, 4, none⟩ (.int .i64 4)) :=
    ((((hal.setCell (p := ⟨vb, 0, none⟩) (by show _ ≤ vb; omega) _).setCell (p := ⟨vb, 1, none⟩) (by show _ ≤ vb; omega) _).setCell (p := ⟨vb, 2, none⟩) (by show _ ≤ vb; omega) _).setCell (p := ⟨vb, 3, none⟩) (by show _ ≤ vb; omega) _).setCell (p := ⟨vb, 4, none⟩) (by show _ ≤ vb; omega) _
  have bx7 := ((((bx.set 0 (.int .u64 1)).set 1 (.bool false)).set 2 (.slice PA pn pc)).set 3 (.int .u64 0)).set 4 (.int .i64 4)
  obtain ⟨w7, hw7⟩ : ∃ w7, ((((w6.setCell ⟨vb, 0, none⟩ (.int .u64 1)).setCell ⟨vb, 1, none⟩ (.bool false)).setCell ⟨vb, 2, none⟩ (.slice PA pn pc)).setCell ⟨vb, 3, none⟩ (.int .u64 0)).setCell ⟨vb, 4, none⟩ (.int .i64 4) = w7 := ⟨_, rfl⟩
  rw [hw7] at hb7 bx7
  have g4 := bx7.cell 4
  have hb47 := hb5.trans (hb7.mono hb5.size)
  have hM7 := Lib.hid (hM4'.out.below hb47)
  have HB7 := Lib.hid (HB5.out.trans (hb47.mono HB5.out.size))
  have hlive := live_any hM7 (Lib.hid ex_ok2) (by omega) (by simp [exL2])
  rw [ex_live] at hlive
  clear hM4' hPR hb5 bx hal hb7 bx7 hb47 hrd
  go_wp2_with fail
  refine hlive.mono ?_
  rintro e w8 ⟨rfl, hb8⟩
  have hM8 := Lib.hid (hM7.out.below hb8)
  have HB8 := Lib.hid (HB7.out.trans (hb8.mono HB7.out.size))
  have hvers := versions_any hM8 (Lib.hid ex_ok2) (by omega) (by simp [exL2])
  rw [ex_vers] at hvers
  clear hb8 hM7 hlive
  go_wp2_with fail
  refine hvers.mono ?_
  rintro e w9 ⟨rfl, hb9⟩
  have hM9 := Lib.hid (hM8.out.below hb9)
  have HB9 := Lib.hid (HB8.out.trans (hb9.mono HB8.out.size))
  have hlast := mvlast_any hM9
  have hsc1 := scan_any hM9 (Lib.hid ex_ok2) (by omega) (by simp [exL2]) ⟨#[]⟩ ⟨#[]⟩ 1 9
  rw [ex_scan1] at hsc1
  clear hb9 hM8 hvers
  go_wp2_with fail
  refine hlast.mono ?_
  rintro e w10 ⟨rfl, hw10⟩
  replace hw10 := hw10.symm
  subst hw10
  go_wp2_with fail
  refine hsc1.mono ?_
  rintro e w11 ⟨v1, rfl, ho1, hb11⟩
  obtain ⟨A1, C1, rfl, _⟩ := OwnL.form ho1
  have hM11 := Lib.hid (hM9.out.below hb11)
  have HB11 := Lib.hid (HB9.out.trans (hb11.mono HB9.out.size))
  have hsc2 := scan_any hM11 (Lib.hid ex_ok2) (by omega) (by simp [exL2]) ⟨#[]⟩ ⟨#[]⟩ 2 9
  rw [ex_scan2] at hsc2
  clear hb11 ho1 hM9 hsc1 hlast
  go_wp2_with fail
  refine hsc2.mono ?_
  rintro e w12 ⟨v2, rfl, ho2, hb12⟩
  obtain ⟨A2, C2, rfl, _⟩ := OwnL.form ho2
  have HB12 := Lib.hid (HB11.out.trans (hb12.mono HB11.out.size))
  clear hb12 ho2 hM11 hsc2
  go_wp2_with fail
  go_ret
  exact ⟨rfl, HB12.out⟩
end Go.Proofs.Ytpibaahiboajhaa
