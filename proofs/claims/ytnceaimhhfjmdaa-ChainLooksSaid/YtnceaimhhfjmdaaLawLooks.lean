/-
  ChainLooks: the walk.
-/
import Derived.Test.YtnceaimhhfjmdaaPlain22b
set_option linter.unusedSimpArgs false
set_option linter.unusedVariables false
namespace Go.Proofs.Ytnceaimhhfjmdaa
open Go.RowKit Go.Cib
attribute [local go_sem] cell_set Later.cell Later.frozen Grw.cell Grw.frozen

theorem value_facts (l : List Ver) (s : Int) : ((valueL l s).isSome = true ∧ (atL l s).isSome = true ∧ ((atL l s).getD .none_).dead = false ∧ (valueL l s).getD .none_ = ((atL l s).getD .none_).blob) ∨
    ((valueL l s).isSome = false ∧ (valueL l s).getD .none_ = .none_ ∧ ((atL l s).isSome = false ∨ ((atL l s).isSome = true ∧ ((atL l s).getD .none_).dead = true))) := by
  rw [valueL]
  cases atL l s with
  | none => simp
  | some v => cases hd : v.dead <;> simp [hd]
theorem small_add {l : List Ver} {x : Ver} (h : Small (x :: l)) : Small ((addL l x).getD []) := by
  rw [addL]; split
  · exact h
  · intro v hv; simp at hv
theorem len_add {l : List Ver} {x : Ver} : ((addL l x).getD []).length ≤ l.length + 1 := by
  rw [addL]; split <;> simp

set_option maxRecDepth 100000 in
set_option maxHeartbeats 2000000 in
theorem chainLooks_any {l : List Ver} {x : Ver} {s : Int} (A A0 : Option Addr) (n c n0 c0 : Nat) (w : World) (hn : n ≤ 9223372036854775807) (hr : Hid (RdL VerR 5 (fun _ => True) w A n l)) (hnc : n0 ≤ c0) (hr0 : Hid (RdL IntR 1 (fun _ => True) w A0 n0 x.blob.places)) :
    Calls Try.prog 5 #[.slice A n c, .agg #[.int .u64 x.stamp, .bool x.dead, .slice A0 n0 c0, .int .u64 x.blob.gen, .int .i64 x.blob.size], .int .u64 s] w fun e w' => e = .returned (.bool true) ∧ Below w.heap.size w w' := by
  have b1 : Below w.heap.size w (w.alloc (.cells #[.int .u64 x.stamp, .bool x.dead, .slice A0 n0 c0, .int .u64 x.blob.gen, .int .i64 x.blob.size] 46)) := (by repeat (first | (with_reducible exact Below.refl _ _) | (with_reducible assumption) | (with_reducible refine Below.drew ?_) | (with_reducible refine Below.setCell ?_ ?_ _) | (with_reducible refine Below.alloc ?_ ?_ _) | (with_reducible refine Below.later ?_ ?_ _) | (first | (with_reducible exact Nat.le_refl _) | omega | (simp only [World.size_alloc, World.size_setCell, World.size_drew] <;> omega))))
  have B0 := BoxAt.new w #[.int .u64 x.stamp, .bool x.dead, .slice A0 n0 c0, .int .u64 x.blob.gen, .int .i64 x.blob.size] 46
  have R0 := Lib.hid (hr.out.alloc VerR.stable (.cells #[.int .u64 x.stamp, .bool x.dead, .slice A0 n0 c0, .int .u64 x.blob.gen, .int .i64 x.blob.size] 46))
  have P0 := Lib.hid (hr0.out.alloc IntR.stable (.cells #[.int .u64 x.stamp, .bool x.dead, .slice A0 n0 c0, .int .u64 x.blob.gen, .int .i64 x.blob.size] 46))
  go_enter Try.func5, Try.ntmps5
  go_wp2_with fail
  refine (few_any 0 A n c _ hn R0).mono ?_
  rintro e w1 ⟨b, rfl, hb, h1⟩
  have HB := Lib.hid hb; clear hb
  have t1 := b1.trans (h1.mono b1.size)
  have R1 := Lib.hid (R0.out.below VerR.stable h1)
  have P1 := Lib.hid (P0.out.below IntR.stable h1)
  have B1 := B0.below h1
  clear b1 h1 R0 P0 B0
  cases b
  · go_wp2_with (go_at_call 21; refine (chains_any _).mono ?_; rintro e w2 ⟨rfl, h2⟩)
    go_ret
    exact ⟨rfl, t1.trans (h2.mono t1.size)⟩
  obtain ⟨hn60, hsm⟩ := HB.out rfl
  have HS := Lib.hid hsm; clear hsm HB
  have k0 := B1.cell 0; have k1 := B1.cell 1; have k2 := B1.cell 2; have k3 := B1.cell 3; have k4 := B1.cell 4
  simp only [List.getElem?_toArray, List.getElem?_cons_zero, List.getElem?_cons_succ] at k0 k1 k2 k3 k4
  have k5 := B1.lt
  go_wp2_with fail
  refine (few_any (l := [x]) 0 (some ⟨w1.heap.size, 0, none⟩) 1 1 _ (by omega) (Lib.hid (RdL.one VerR.stable rfl ⟨A0, n0, c0, rfl, hnc, P1.out⟩))).mono ?_
  rintro e w2 ⟨b, rfl, hb, h2⟩
  have HB := Lib.hid hb; clear hb
  have hq : Below w1.heap.size w1 (w1.alloc (.cells #[.int .u64 x.stamp, .bool x.dead, .slice A0 n0 c0, .int .u64 x.blob.gen, .int .i64 x.blob.size] 46)) := (by repeat (first | (with_reducible exact Below.refl _ _) | (with_reducible assumption) | (with_reducible refine Below.drew ?_) | (with_reducible refine Below.setCell ?_ ?_ _) | (with_reducible refine Below.alloc ?_ ?_ _) | (with_reducible refine Below.later ?_ ?_ _) | (first | (with_reducible exact Nat.le_refl _) | omega | (simp only [World.size_alloc, World.size_setCell, World.size_drew] <;> omega))))
  have t2 := t1.trans ((hq.trans (h2.mono hq.size)).mono t1.size)
  have R2 := Lib.hid ((R1.out.alloc VerR.stable _).below VerR.stable h2)
  have P2 := Lib.hid ((P1.out.alloc IntR.stable _).below IntR.stable h2)
  have B2 := (B1.alloc _).below h2
  clear t1 h2 hq R1 P1 B1 k0 k1 k2 k3 k4 k5
  cases b
  · go_wp2_with (go_at_call 21; refine (chains_any _).mono ?_; rintro e w3 ⟨rfl, h3⟩)
    go_ret
    exact ⟨rfl, t2.trans (h3.mono t2.size)⟩
  obtain ⟨_, hsx⟩ := HB.out rfl
  have HS1 := Lib.hid hsx; clear hsx HB
  have hn0 : n0 ≤ 65536 := by rw [← P2.out.1]; exact HS1.out x (by simp)
  have hsml := Lib.hid (small_cons HS.out HS1.out)
  have k0 := B2.cell 0; have k1 := B2.cell 1; have k2 := B2.cell 2; have k3 := B2.cell 3; have k4 := B2.cell 4
  simp only [List.getElem?_toArray, List.getElem?_cons_zero, List.getElem?_cons_succ] at k0 k1 k2 k3 k4
  have k5 := B2.lt
  go_wp2_with fail
  refine (add_any A A0 n c n0 c0 _ (by omega) R2 HS.out P2 hn0).mono ?_
  rintro e w3 ⟨A3, n3, c3, rfl, r3, hnc3, h3⟩
  have t3 := t2.trans (h3.mono t2.size)
  have R3 := Lib.hid (R2.out.below VerR.stable h3)
  have P3 := Lib.hid (P2.out.below IntR.stable h3)
  have M3 := Lib.hid r3
  have B3 := B2.below h3
  clear t2 h3 R2 P2 B2 r3
  clear k0 k1 k2 k3 k4 k5
  have k0 := B3.cell 0; have k1 := B3.cell 1; have k2 := B3.cell 2; have k3 := B3.cell 3; have k4 := B3.cell 4
  simp only [List.getElem?_toArray, List.getElem?_cons_zero, List.getElem?_cons_succ] at k0 k1 k2 k3 k4
  have k5 := B3.lt
  go_wp2_with fail
  refine (refAdd_any A A0 n c n0 c0 _ (by omega) R3 hsml.out hnc P3).mono ?_
  rintro e w4 ⟨A4, n4, c4, rfl, r4, h4⟩
  have t4 := t3.trans (h4.mono t3.size)
  have R4 := Lib.hid (R3.out.below VerR.stable h4)
  have M4 := Lib.hid (M3.out.below VerR.stable h4)
  have N4 := Lib.hid r4
  clear t3 h4 R3 P3 B3 r4 M3
  clear k0 k1 k2 k3 k4 k5
  have hn3 : n3 ≤ 65536 := by rw [← M4.out.1]; have h1 := R4.out.1; have h2 := len_add (l := l) (x := x); omega
  have hn4 : n4 ≤ 65536 := by rw [← N4.out.1]; have h1 := R4.out.1; have h2 := len_add (l := l) (x := x); omega
  go_wp2_with fail
  refine (right_any A n c _ (by omega) R4).mono ?_
  rintro e w5 ⟨rfl, h5⟩
  go_wp2_with fail
  refine (refRight_any A n c _ (by omega) (Lib.hid (R4.out.below VerR.stable h5)) HS.out).mono ?_
  rintro e w6 ⟨rfl, h6⟩
  have h46 := h5.trans (h6.mono h5.size)
  have t6 := t4.trans (h46.mono t4.size)
  have R6 := Lib.hid (R4.out.below VerR.stable h46)
  have M6 := Lib.hid (M4.out.below VerR.stable h46)
  have N6 := Lib.hid (N4.out.below VerR.stable h46)
  clear t4 h5 h6 h46 R4 M4 N4
  go_wp2_with fail
  refine (sameAll_any (v := true) A3 A4 n3 c3 n4 c4 _ hn3 M6 N6 (small_add hsml.out) (Lib.hid (sameAll_iff.2 rfl))).mono ?_
  rintro e w7 ⟨rfl, h7⟩
  have t7 := t6.trans (h7.mono t6.size)
  have R7 := Lib.hid (R6.out.below VerR.stable h7)
  clear t6 h7 R6 M6 N6
  go_wp2_with fail
  refine (at_any A n c s _ (by omega) R7 HS.out).mono ?_
  rintro e w8 ⟨v8, rfl, ⟨A8, n8, c8, rfl, hnc8, r8⟩, h8⟩
  have t8 := t7.trans (h8.mono t7.size)
  have R8 := Lib.hid (R7.out.below VerR.stable h8)
  have V8 := Lib.hid r8
  clear t7 h8 R7 r8
  go_wp2_with fail
  have HF := Lib.hid (value_facts l s)
  obtain ⟨y, hy⟩ : ∃ y, (atL l s).getD .none_ = y := ⟨_, rfl⟩
  obtain ⟨g, hg⟩ : ∃ g, (atL l s).isSome = g := ⟨_, rfl⟩
  obtain ⟨b, hb⟩ : ∃ b, (valueL l s).getD .none_ = b := ⟨_, rfl⟩
  obtain ⟨i, hi⟩ : ∃ i, (valueL l s).isSome = i := ⟨_, rfl⟩
  have SY := Lib.hid (small_at HS.out s)
  have SB := Lib.hid (small_value HS.out s)
  rw [hy] at V8 SY HF ⊢
  rw [hg] at HF ⊢
  rw [hb] at HF SB
  rw [hi] at HF
  have HY := Lib.hid hy; have HG := Lib.hid hg; have HB := Lib.hid hb; have HI := Lib.hid hi
  clear hy hg hb hi
  go_wp2_with fail
  have hq : Below w8.heap.size w8 (w8.alloc (.cells #[.int .u64 y.stamp, .bool y.dead, .slice A8 n8 c8, .int .u64 y.blob.gen, .int .i64 y.blob.size] 46)) := (by repeat (first | (with_reducible exact Below.refl _ _) | (with_reducible assumption) | (with_reducible refine Below.drew ?_) | (with_reducible refine Below.setCell ?_ ?_ _) | (with_reducible refine Below.alloc ?_ ?_ _) | (with_reducible refine Below.later ?_ ?_ _) | (first | (with_reducible exact Nat.le_refl _) | omega | (simp only [World.size_alloc, World.size_setCell, World.size_drew] <;> omega))))
  refine (refAt_any A n c s _ (by omega) (Lib.hid (R8.out.alloc VerR.stable _)) HS.out).mono ?_
  rw [HY.out, HG.out]
  rintro e w9 ⟨v9, rfl, ⟨A9, n9, c9, rfl, hnc9, r9⟩, h9⟩
  have t9 := t8.trans ((hq.trans (h9.mono hq.size)).mono t8.size)
  have R9 := Lib.hid ((R8.out.alloc VerR.stable _).below VerR.stable h9)
  have V89 := Lib.hid ((V8.out.alloc IntR.stable _).below IntR.stable h9)
  have C8 := (BoxAt.new w8 #[.int .u64 y.stamp, .bool y.dead, .slice A8 n8 c8, .int .u64 y.blob.gen, .int .i64 y.blob.size] 46).below h9
  have V9 := Lib.hid r9
  clear t8 hq h9 R8 V8 r9
  go_wp2_with fail
  have hq : Below w9.heap.size w9 (w9.alloc (.cells #[.int .u64 y.stamp, .bool y.dead, .slice A9 n9 c9, .int .u64 y.blob.gen, .int .i64 y.blob.size] 46)) := (by repeat (first | (with_reducible exact Below.refl _ _) | (with_reducible assumption) | (with_reducible refine Below.drew ?_) | (with_reducible refine Below.setCell ?_ ?_ _) | (with_reducible refine Below.alloc ?_ ?_ _) | (with_reducible refine Below.later ?_ ?_ _) | (first | (with_reducible exact Nat.le_refl _) | omega | (simp only [World.size_alloc, World.size_setCell, World.size_drew] <;> omega))))
  refine (value_any A n c s _ (by omega) (Lib.hid (R9.out.alloc VerR.stable _)) HS.out).mono ?_
  rw [HB.out, HI.out]
  rintro e w10 ⟨v10, rfl, ⟨A10, n10, c10, rfl, hnc10, r10⟩, h10⟩
  have t10 := t9.trans ((hq.trans (h10.mono hq.size)).mono t9.size)
  have V810 := Lib.hid ((V89.out.alloc IntR.stable _).below IntR.stable h10)
  have V910 := Lib.hid ((V9.out.alloc IntR.stable _).below IntR.stable h10)
  have C810 := (C8.alloc _).below h10
  have C910 := (BoxAt.new w9 #[.int .u64 y.stamp, .bool y.dead, .slice A9 n9 c9, .int .u64 y.blob.gen, .int .i64 y.blob.size] 46).below h10
  have V10 := Lib.hid r10
  clear t9 hq h10 R9 V89 V9 C8 r10 HY HG HB HI
  have hq : Below w10.heap.size w10 (w10.alloc (.cells #[.slice A10 n10 c10, .int .u64 b.gen, .int .i64 b.size] 44)) := (by repeat (first | (with_reducible exact Below.refl _ _) | (with_reducible assumption) | (with_reducible refine Below.drew ?_) | (with_reducible refine Below.setCell ?_ ?_ _) | (with_reducible refine Below.alloc ?_ ?_ _) | (with_reducible refine Below.later ?_ ?_ _) | (first | (with_reducible exact Nat.le_refl _) | omega | (simp only [World.size_alloc, World.size_setCell, World.size_drew] <;> omega))))
  have hn8 : n8 ≤ 65536 := by rw [← V810.out.1]; exact SY.out
  have hn10 : n10 ≤ 65536 := by rw [← V10.out.1]; exact SB.out
  have V811 := Lib.hid (V810.out.alloc IntR.stable (.cells #[.slice A10 n10 c10, .int .u64 b.gen, .int .i64 b.size] 44))
  have V911 := Lib.hid (V910.out.alloc IntR.stable (.cells #[.slice A10 n10 c10, .int .u64 b.gen, .int .i64 b.size] 44))
  have V1011 := Lib.hid (V10.out.alloc IntR.stable (.cells #[.slice A10 n10 c10, .int .u64 b.gen, .int .i64 b.size] 44))
  have k0 := C810.cell 0; have k1 := C810.cell 1; have k2 := C810.cell 2; have k3 := C810.cell 3; have k4 := C810.cell 4
  have j0 := C910.cell 0; have j1 := C910.cell 1; have j2 := C910.cell 2; have j3 := C910.cell 3; have j4 := C910.cell 4
  have k5 := C810.lt; have j5 := C910.lt
  obtain ⟨st, dd, bl⟩ := y
  simp only [List.getElem?_toArray, List.getElem?_cons_zero, List.getElem?_cons_succ] at k0 k1 k2 k3 k4 j0 j1 j2 j3 j4
  rcases HF.out with ⟨e1, e2, e3, e4⟩ | ⟨e1, e2, e3 | ⟨e3, e4⟩⟩
  · simp only at e3 e4
    subst e1; subst e2; subst e3; subst e4
    clear HF
    go_wp2_with fail
    refine (verSame_any (x := ⟨st, false, b⟩) (y := ⟨st, false, b⟩) (v := true) A8 A9 n8 c8 n9 c9 _ hn8 V811 V911 (Lib.hid (ver_same_refl _))).mono ?_
    rintro e w11 ⟨rfl, h11⟩
    have t11 := t10.trans ((hq.trans (h11.mono hq.size)).mono t10.size)
    have V812 := Lib.hid (V811.out.below IntR.stable h11)
    have V912 := Lib.hid (V911.out.below IntR.stable h11)
    have V1012 := Lib.hid (V1011.out.below IntR.stable h11)
    have C11 := (BoxAt.new w10 _ 44).below h11
    have C9 := (C910.alloc _).below h11
    have C8 := (C810.alloc _).below h11
    clear t10 k0 k1 k2 k3 k4 k5 j0 j1 j2 j3 j4 j5 C810 C910
    have k0 := C8.cell 0; have k1 := C8.cell 1; have k2 := C8.cell 2; have k3 := C8.cell 3; have k4 := C8.cell 4
    have j0 := C9.cell 0; have j1 := C9.cell 1; have j2 := C9.cell 2; have j3 := C9.cell 3; have j4 := C9.cell 4
    have i0 := C11.cell 0; have i1 := C11.cell 1; have i2 := C11.cell 2
    have k5 := C8.lt; have j5 := C9.lt; have i5 := C11.lt
    simp only [List.getElem?_toArray, List.getElem?_cons_zero, List.getElem?_cons_succ] at k0 k1 k2 k3 k4 j0 j1 j2 j3 j4 i0 i1 i2
    go_wp2_with fail
    refine (blobSame_any (x := b) (y := b) (v := true) A10 A9 n10 c10 n9 c9 _ hn10 V1012 V912 (Lib.hid (blob_same_refl _))).mono ?_
    rintro e w12 ⟨rfl, h12⟩
    have t12 := t11.trans (h12.mono t11.size)
    clear t11 h12 k0 k1 k2 k3 k4 k5 j0 j1 j2 j3 j4 j5 i0 i1 i2 i5
    go_wp2_with (go_at_call 21; refine (chains_any _).mono ?_; rintro e w13 ⟨rfl, h13⟩)
    go_ret
    exact ⟨rfl, t12.trans (h13.mono t12.size)⟩
  · subst e1; subst e2; subst e3
    clear HF
    go_wp2_with fail
    refine (verSame_any (x := ⟨st, dd, bl⟩) (y := ⟨st, dd, bl⟩) (v := true) A8 A9 n8 c8 n9 c9 _ hn8 V811 V911 (Lib.hid (ver_same_refl _))).mono ?_
    rintro e w11 ⟨rfl, h11⟩
    have t11 := t10.trans ((hq.trans (h11.mono hq.size)).mono t10.size)
    have V812 := Lib.hid (V811.out.below IntR.stable h11)
    have V912 := Lib.hid (V911.out.below IntR.stable h11)
    have V1012 := Lib.hid (V1011.out.below IntR.stable h11)
    have C11 := (BoxAt.new w10 _ 44).below h11
    have C9 := (C910.alloc _).below h11
    have C8 := (C810.alloc _).below h11
    clear t10 k0 k1 k2 k3 k4 k5 j0 j1 j2 j3 j4 j5 C810 C910
    have k0 := C8.cell 0; have k1 := C8.cell 1; have k2 := C8.cell 2; have k3 := C8.cell 3; have k4 := C8.cell 4
    have j0 := C9.cell 0; have j1 := C9.cell 1; have j2 := C9.cell 2; have j3 := C9.cell 3; have j4 := C9.cell 4
    have i0 := C11.cell 0; have i1 := C11.cell 1; have i2 := C11.cell 2
    have k5 := C8.lt; have j5 := C9.lt; have i5 := C11.lt
    simp only [List.getElem?_toArray, List.getElem?_cons_zero, List.getElem?_cons_succ] at k0 k1 k2 k3 k4 j0 j1 j2 j3 j4 i0 i1 i2
    go_wp2_with fail
    refine (blobSame_any (x := .none_) (y := .none_) (v := true) A10 none n10 c10 0 0 _ hn10 V1012 (Lib.hid (RdL.nil (S := fun _ => True))) (Lib.hid (blob_same_refl _))).mono ?_
    rintro e w12 ⟨rfl, h12⟩
    have t12 := t11.trans (h12.mono t11.size)
    clear t11 h12 k0 k1 k2 k3 k4 k5 j0 j1 j2 j3 j4 j5 i0 i1 i2 i5
    go_wp2_with (go_at_call 21; refine (chains_any _).mono ?_; rintro e w13 ⟨rfl, h13⟩)
    go_ret
    exact ⟨rfl, t12.trans (h13.mono t12.size)⟩
  · simp only at e4
    subst e1; subst e2; subst e3; subst e4
    clear HF
    go_wp2_with fail
    refine (verSame_any (x := ⟨st, true, bl⟩) (y := ⟨st, true, bl⟩) (v := true) A8 A9 n8 c8 n9 c9 _ hn8 V811 V911 (Lib.hid (ver_same_refl _))).mono ?_
    rintro e w11 ⟨rfl, h11⟩
    have t11 := t10.trans ((hq.trans (h11.mono hq.size)).mono t10.size)
    have V812 := Lib.hid (V811.out.below IntR.stable h11)
    have V912 := Lib.hid (V911.out.below IntR.stable h11)
    have V1012 := Lib.hid (V1011.out.below IntR.stable h11)
    have C11 := (BoxAt.new w10 _ 44).below h11
    have C9 := (C910.alloc _).below h11
    have C8 := (C810.alloc _).below h11
    clear t10 k0 k1 k2 k3 k4 k5 j0 j1 j2 j3 j4 j5 C810 C910
    have k0 := C8.cell 0; have k1 := C8.cell 1; have k2 := C8.cell 2; have k3 := C8.cell 3; have k4 := C8.cell 4
    have j0 := C9.cell 0; have j1 := C9.cell 1; have j2 := C9.cell 2; have j3 := C9.cell 3; have j4 := C9.cell 4
    have i0 := C11.cell 0; have i1 := C11.cell 1; have i2 := C11.cell 2
    have k5 := C8.lt; have j5 := C9.lt; have i5 := C11.lt
    simp only [List.getElem?_toArray, List.getElem?_cons_zero, List.getElem?_cons_succ] at k0 k1 k2 k3 k4 j0 j1 j2 j3 j4 i0 i1 i2
    go_wp2_with fail
    refine (blobSame_any (x := .none_) (y := .none_) (v := true) A10 none n10 c10 0 0 _ hn10 V1012 (Lib.hid (RdL.nil (S := fun _ => True))) (Lib.hid (blob_same_refl _))).mono ?_
    rintro e w12 ⟨rfl, h12⟩
    have t12 := t11.trans (h12.mono t11.size)
    clear t11 h12 k0 k1 k2 k3 k4 k5 j0 j1 j2 j3 j4 j5 i0 i1 i2 i5
    go_wp2_with (go_at_call 21; refine (chains_any _).mono ?_; rintro e w13 ⟨rfl, h13⟩)
    go_ret
    exact ⟨rfl, t12.trans (h13.mono t12.size)⟩
end Go.Proofs.Ytnceaimhhfjmdaa
