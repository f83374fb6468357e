/-
  ChainGrows: the walk.
-/
import Derived.Test.YtnceaimhhfjmdaaPlain22b
set_option linter.unusedSimpArgs false
set_option linter.unusedVariables false
namespace Go.Proofs.Ytnceaimhhfjmdaa
open Go.RowKit Go.Cib
attribute [local go_sem] cell_set Later.cell Later.frozen Grw.cell Grw.frozen

set_option maxRecDepth 100000 in
set_option maxHeartbeats 2000000 in
theorem chainGrows_any {l : List Ver} {x : Ver} {s : Int} (A A0 : Option Addr) (n c n0 c0 : Nat) (w : World) (hn : n ≤ 9223372036854775807) (hr : Hid (RdL VerR 5 (fun _ => True) w A n l)) (hnc : n0 ≤ c0) (hr0 : Hid (RdL IntR 1 (fun _ => True) w A0 n0 x.blob.places)) :
    Calls Try.prog 9 #[.slice A n c, .agg #[.int .u64 x.stamp, .bool x.dead, .slice A0 n0 c0, .int .u64 x.blob.gen, .int .i64 x.blob.size], .int .u64 s] w fun e w' => e = .returned (.bool true) ∧ Below w.heap.size w w' := by
  have b1 : Below w.heap.size w (w.alloc (.cells #[.int .u64 x.stamp, .bool x.dead, .slice A0 n0 c0, .int .u64 x.blob.gen, .int .i64 x.blob.size] 46)) := (by repeat (first | (with_reducible exact Below.refl _ _) | (with_reducible assumption) | (with_reducible refine Below.drew ?_) | (with_reducible refine Below.setCell ?_ ?_ _) | (with_reducible refine Below.alloc ?_ ?_ _) | (with_reducible refine Below.later ?_ ?_ _) | (first | (with_reducible exact Nat.le_refl _) | omega | (simp only [World.size_alloc, World.size_setCell, World.size_drew] <;> omega))))
  have B0 := BoxAt.new w #[.int .u64 x.stamp, .bool x.dead, .slice A0 n0 c0, .int .u64 x.blob.gen, .int .i64 x.blob.size] 46
  have R0 := Lib.hid (hr.out.alloc VerR.stable (.cells #[.int .u64 x.stamp, .bool x.dead, .slice A0 n0 c0, .int .u64 x.blob.gen, .int .i64 x.blob.size] 46))
  have P0 := Lib.hid (hr0.out.alloc IntR.stable (.cells #[.int .u64 x.stamp, .bool x.dead, .slice A0 n0 c0, .int .u64 x.blob.gen, .int .i64 x.blob.size] 46))
  go_enter Try.func9, Try.ntmps9
  go_wp2_with fail
  refine (few_any 0 A n c _ hn R0).mono ?_
  rintro e w1 ⟨b, rfl, hb, h1⟩
  have HB := Lib.hid hb; clear hb
  have t1 := b1.trans (h1.mono b1.size)
  have R1 := Lib.hid (R0.out.below VerR.stable h1)
  have P1 := Lib.hid (P0.out.below IntR.stable h1)
  have B1 := B0.below h1
  clear b1 h1 R0 P0 B0
  cases b
  · go_wp2_with (go_at_call 21; refine (chains_any _).mono ?_; rintro e w2 ⟨rfl, h2⟩)
    go_ret
    exact ⟨rfl, t1.trans (h2.mono t1.size)⟩
  obtain ⟨hn60, hsm⟩ := HB.out rfl
  have HS := Lib.hid hsm; clear hsm HB
  have k0 := B1.cell 0; have k1 := B1.cell 1; have k2 := B1.cell 2; have k3 := B1.cell 3; have k4 := B1.cell 4
  simp only [List.getElem?_toArray, List.getElem?_cons_zero, List.getElem?_cons_succ] at k0 k1 k2 k3 k4
  have k5 := B1.lt
  go_wp2_with fail
  refine (few_any (l := [x]) 0 (some ⟨w1.heap.size, 0, none⟩) 1 1 _ (by omega) (Lib.hid (RdL.one VerR.stable rfl ⟨A0, n0, c0, rfl, hnc, P1.out⟩))).mono ?_
  rintro e w2 ⟨b, rfl, hb, h2⟩
  have HB := Lib.hid hb; clear hb
  have hq : Below w1.heap.size w1 (w1.alloc (.cells #[.int .u64 x.stamp, .bool x.dead, .slice A0 n0 c0, .int .u64 x.blob.gen, .int .i64 x.blob.size] 46)) := (by repeat (first | (with_reducible exact Below.refl _ _) | (with_reducible assumption) | (with_reducible refine Below.drew ?_) | (with_reducible refine Below.setCell ?_ ?_ _) | (with_reducible refine Below.alloc ?_ ?_ _) | (with_reducible refine Below.later ?_ ?_ _) | (first | (with_reducible exact Nat.le_refl _) | omega | (simp only [World.size_alloc, World.size_setCell, World.size_drew] <;> omega))))
  have t2 := t1.trans ((hq.trans (h2.mono hq.size)).mono t1.size)
  have R2 := Lib.hid ((R1.out.alloc VerR.stable _).below VerR.stable h2)
  have P2 := Lib.hid ((P1.out.alloc IntR.stable _).below IntR.stable h2)
  have B2 := (B1.alloc _).below h2
  clear t1 h2 hq R1 P1 B1 k0 k1 k2 k3 k4 k5
  cases b
  · go_wp2_with (go_at_call 21; refine (chains_any _).mono ?_; rintro e w3 ⟨rfl, h3⟩)
    go_ret
    exact ⟨rfl, t2.trans (h3.mono t2.size)⟩
  obtain ⟨_, hsx⟩ := HB.out rfl
  have HS1 := Lib.hid hsx; clear hsx HB
  have hn0 : n0 ≤ 65536 := by rw [← P2.out.1]; exact HS1.out x (by simp)
  have k0 := B2.cell 0; have k1 := B2.cell 1; have k2 := B2.cell 2; have k3 := B2.cell 3; have k4 := B2.cell 4
  simp only [List.getElem?_toArray, List.getElem?_cons_zero, List.getElem?_cons_succ] at k0 k1 k2 k3 k4
  have k5 := B2.lt
  go_wp2_with fail
  refine (add_any A A0 n c n0 c0 _ (by omega) R2 HS.out P2 hn0).mono ?_
  rintro e w3 ⟨A3, n3, c3, rfl, r3, hnc3, h3⟩
  have t3 := t2.trans (h3.mono t2.size)
  have R3 := Lib.hid (R2.out.below VerR.stable h3)
  have P3 := Lib.hid (P2.out.below IntR.stable h3)
  have B3 := B2.below h3
  clear t2 h3 R2 P2 B2 k0 k1 k2 k3 k4 k5
  cases hright : rightL (x :: l)
  · rw [addL_no hright] at r3
    obtain rfl : n3 = 0 := r3.1.symm
    rw [addE_no hright]
    clear hright r3
    go_wp2_with (go_at_call 21; refine (chains_any _).mono ?_; rintro e w4 ⟨rfl, h4⟩)
    go_ret
    exact ⟨rfl, t3.trans (h4.mono t3.size)⟩
  rw [addL_yes hright] at r3
  obtain rfl : n3 = n + 1 := by rw [← r3.1, Option.getD_some, List.length_cons, R3.out.1]
  rw [addE_yes hright]
  simp only [Option.getD_some] at r3
  have M3 := Lib.hid r3
  have HR := Lib.hid hright
  clear r3 hright
  go_wp2_with fail
  refine (at_any A n c s _ (by omega) R3 HS.out).mono ?_
  rintro e w4 ⟨v4, rfl, ⟨A4, n4, c4, rfl, hnc4, r4⟩, h4⟩
  have t4 := t3.trans (h4.mono t3.size)
  have M4 := Lib.hid (M3.out.below VerR.stable h4)
  have P4 := Lib.hid (P3.out.below IntR.stable h4)
  have B4 := B3.below h4
  have V4 := Lib.hid r4
  clear t3 h4 R3 M3 P3 B3 r4
  generalize hg : (atL l s).isSome = g4
  have hg4 := Lib.hid hg; clear hg
  generalize hx : (atL l s).getD .none_ = x4 at V4 ⊢
  have hx4 := Lib.hid hx; clear hx
  go_wp2_with fail
  have hq : Below w4.heap.size w4 (w4.alloc (.cells #[.int .u64 x4.stamp, .bool x4.dead, .slice A4 n4 c4, .int .u64 x4.blob.gen, .int .i64 x4.blob.size] 46)) := (by repeat (first | (with_reducible exact Below.refl _ _) | (with_reducible assumption) | (with_reducible refine Below.drew ?_) | (with_reducible refine Below.setCell ?_ ?_ _) | (with_reducible refine Below.alloc ?_ ?_ _) | (with_reducible refine Below.later ?_ ?_ _) | (first | (with_reducible exact Nat.le_refl _) | omega | (simp only [World.size_alloc, World.size_setCell, World.size_drew] <;> omega))))
  have hsml := small_cons HS.out HS1.out
  refine (at_any A3 (n + 1) c3 s _ (by omega) (Lib.hid (M4.out.alloc VerR.stable _)) hsml).mono ?_
  rintro e w5 ⟨v5, rfl, ⟨A5, n5, c5, rfl, hnc5, r5⟩, h5⟩
  have t5 := t4.trans ((hq.trans (h5.mono hq.size)).mono t4.size)
  have P5 := Lib.hid ((P4.out.alloc IntR.stable _).below IntR.stable h5)
  have B5 := (B4.alloc _).below h5
  have C5 := (BoxAt.new w4 #[.int .u64 x4.stamp, .bool x4.dead, .slice A4 n4 c4, .int .u64 x4.blob.gen, .int .i64 x4.blob.size] 46).below h5
  have V5 := Lib.hid ((V4.out.alloc IntR.stable _).below IntR.stable h5)
  have N5 := Lib.hid r5
  clear t4 hq h5 M4 P4 B4 V4 r5
  by_cases hst : x.stamp ≤ s
  · rw [at_new HR.out hst] at N5 ⊢
    simp only [Option.isSome_some, Option.getD_some] at N5 ⊢
    have k0 := B5.cell 0; have k1 := B5.cell 1; have k2 := B5.cell 2; have k3 := B5.cell 3; have k4 := B5.cell 4
    simp only [List.getElem?_toArray, List.getElem?_cons_zero, List.getElem?_cons_succ] at k0 k1 k2 k3 k4
    have k5 := B5.lt
    have hq : Below w5.heap.size w5 (w5.alloc (.cells #[.int .u64 x.stamp, .bool x.dead, .slice A5 n5 c5, .int .u64 x.blob.gen, .int .i64 x.blob.size] 46)) := (by repeat (first | (with_reducible exact Below.refl _ _) | (with_reducible assumption) | (with_reducible refine Below.drew ?_) | (with_reducible refine Below.setCell ?_ ?_ _) | (with_reducible refine Below.alloc ?_ ?_ _) | (with_reducible refine Below.later ?_ ?_ _) | (first | (with_reducible exact Nat.le_refl _) | omega | (simp only [World.size_alloc, World.size_setCell, World.size_drew] <;> omega))))
    go_wp2_with fail
    refine (verSame_any (x := x) (y := x) (v := true) A5 A0 n5 c5 n0 c0 _ (by have := N5.out.1; have := P5.out.1; omega) (Lib.hid (N5.out.alloc IntR.stable _)) (Lib.hid (P5.out.alloc IntR.stable _)) (Lib.hid (ver_same_refl x))).mono ?_
    rintro e w6 ⟨rfl, h6⟩
    have t6 := t5.trans ((hq.trans (h6.mono hq.size)).mono t5.size)
    clear k0 k1 k2 k3 k4 k5 hq t5
    go_wp2_with (go_at_call 21; refine (chains_any _).mono ?_; rintro e w7 ⟨rfl, h7⟩)
    go_ret
    exact ⟨rfl, t6.trans (h7.mono t6.size)⟩
  · rw [at_old HR.out hst] at N5 ⊢
    rw [hg4.out]
    rw [hx4.out] at N5 ⊢
    have hq : Below w5.heap.size w5 (w5.alloc (.cells #[.int .u64 x4.stamp, .bool x4.dead, .slice A5 n5 c5, .int .u64 x4.blob.gen, .int .i64 x4.blob.size] 46)) := (by repeat (first | (with_reducible exact Below.refl _ _) | (with_reducible assumption) | (with_reducible refine Below.drew ?_) | (with_reducible refine Below.setCell ?_ ?_ _) | (with_reducible refine Below.alloc ?_ ?_ _) | (with_reducible refine Below.later ?_ ?_ _) | (first | (with_reducible exact Nat.le_refl _) | omega | (simp only [World.size_alloc, World.size_setCell, World.size_drew] <;> omega))))
    have k6 := B5.cell 0
    have k0 := C5.cell 0; have k1 := C5.cell 1; have k2 := C5.cell 2; have k3 := C5.cell 3; have k4 := C5.cell 4
    simp only [List.getElem?_toArray, List.getElem?_cons_zero, List.getElem?_cons_succ] at k0 k1 k2 k3 k4 k6
    have k5 := C5.lt; have k7 := B5.lt
    go_wp2_with fail
    refine (verSame_any (x := x4) (y := x4) (v := true) A4 A5 n4 c4 n5 c5 _ (by have := V5.out.1; have h := small_at HS.out s; rw [hx4.out] at h; omega) (Lib.hid (V5.out.alloc IntR.stable _)) (Lib.hid (N5.out.alloc IntR.stable _)) (Lib.hid (ver_same_refl x4))).mono ?_
    rintro e w6 ⟨rfl, h6⟩
    have t6 := t5.trans ((hq.trans (h6.mono hq.size)).mono t5.size)
    clear k0 k1 k2 k3 k4 k5 k6 k7 hq t5
    go_wp2_with (go_at_call 21; refine (chains_any _).mono ?_; rintro e w7 ⟨rfl, h7⟩)
    go_ret
    exact ⟨rfl, t6.trans (h7.mono t6.size)⟩
end Go.Proofs.Ytnceaimhhfjmdaa
