/-
  Law 16's page's example.
  ScrollCounts, walked.
  A geometry among the arguments; bounds of whole numbers.
  A base and a blob among the arguments.
  A scroll among the arguments.
-/
import Derived.Test.YtcliejdiaohamaaGreatSl14
import Derived.Test.YtcliejdiaohamaaGreatSl12
import Derived.Test.YtcliejdiaohamaaGreatSl13
import Derived.Test.YtcliejdiaohamaaGreatSl3
import Derived.Test.YtcliejdiaohamaaGreatSl2
import Derived.Test.YtcliejdiaohamaaGreatSl6
set_option linter.unusedSimpArgs false
set_option linter.unusedVariables false
namespace Go.Proofs.YtcliejdiaohamaaGreat
open Go.RowKit Go.Cib
attribute [local go_sem] cell_set Later.cell Later.frozen Grw.cell Grw.frozen
def xR : List Nat := (List.replicate 70 0).set 69 7
theorem xR_len : xR.length = 70 := by unfold xR; simp
theorem BoxAt.ints {w : World} {b : Nat} {xs : List Int} (h : BoxAt w b (xs.map (Value.int .i64)).toArray) {S : Nat → Prop} (hS : S b) : RdL IntR 1 S w (some ⟨b, 0, none⟩) xs.length xs :=
  ⟨rfl, fun _ => ⟨b, 0, rfl, hS, h.lt, fun i x hx => ⟨[.int .i64 x], rfl, rfl, fun j v hj => by
    have hj0 : j = 0 := by
      have := (List.getElem?_eq_some_iff.1 hj).1
      simp at this; exact this
    subst hj0
    simp at hj
    subst hj
    rw [show 0 + i * 1 + 0 = i by omega, h.cell i]
    simp [hx]⟩⟩⟩
set_option maxRecDepth 100000 in
set_option maxHeartbeats 16000000 in
theorem rolls_any {w : World} : Calls Tryz.prog 43 #[] w fun e w' => e = .returned (.bool true) ∧ Below w.heap.size w w' := by
  have hmd := bmade_any (w0 := w) (w := w) (k := 1) (m := 1) (f := 2) (c := 5) (Below.refl _ _) (by omega) (by omega) (by omega) (by omega) (by omega) (by omega)
  have e0 : baseC ((1 : Nat) : Int) ((1 : Nat) : Int) ((2 : Nat) : Int) ((5 : Nat) : Int) = #[.int .i64 1, .int .i64 1, .int .i64 2, .int .i64 5] := rfl
  rw [e0] at hmd
  clear e0
  go_enter Tryz.func43, Tryz.ntmps43
  go_wp2_with fail
  refine hmd.mono ?_
  clear hmd
  rintro e w1 ⟨a, cb, bf, p, o, l, go, gl, rfl, hM, hP, hb1⟩
  have hM1 : MidP (PoolB p o l go gl) (fun j => j < w.heap.size) w w1 a cb bf 1 1 7 (newS 7 2) := hM
  have hP1 : PoolT w1 p o l go gl 0 2 5 0 := PoolT.new hP
  have hmk := makeBy 70 (by omega) w1
  rw [show ((70 : Nat) : Int) = 70 from rfl] at hmk
  have hr1 := (RowIn.made w1 70 5).set (i := 69) (x := 7) (by simp) (by omega)
  have hbx : Below w1.heap.size w1 (w1.alloc (.cells (Array.replicate 70 (.int .u8 0)) 5)) := (Below.refl _ _).alloc (Nat.le_refl _) _
  have hM2 := hM1.below hbx
  have hP2 := hP1.below hbx
  have bx := BoxAt.new w1 (Array.replicate 70 (.int .u8 0)) 5
  obtain ⟨wx, hwx⟩ : ∃ wx, w1.alloc (.cells (Array.replicate 70 (.int .u8 0)) 5) = wx := ⟨_, rfl⟩
  obtain ⟨qx, hqx⟩ : ∃ qx, w1.heap.size = qx := ⟨_, rfl⟩
  have hsx : wx.heap.size = qx + 1 := by rw [← hwx, ← hqx, World.size_alloc]
  have hs1 := hb1.size
  rw [hwx] at hr1 hM2 hP2 bx
  rw [hqx] at hr1 bx hM2
  have kx := bx.cell 69
  rw [show (Array.replicate 70 (Value.int .u8 0))[69]? = some (Value.int .u8 0) by simp] at kx
  have zx := bx.frozen 69
  have hKx : Keep (fun j => j = qx) wx (wx.setCell ⟨qx, 69, none⟩ (.int .u8 7)) := (Keep.refl (fun j => j = qx) wx).setCell (p := ⟨qx, 69, none⟩) (fun _ => rfl) _
  have hPB1 : ∀ j, PoolB p o l go gl j → j < w1.heap.size := fun j hj => hM1.ltP hj
  have hM3 := hM2.own hKx (fun j hj => by subst hj; exact ⟨.inr (by omega), by omega⟩)
  have hP3 := hP2.keep hKx (fun j hj e => by have := hPB1 j hj; omega)
  obtain ⟨w2, hw2⟩ : ∃ w2, wx.setCell ⟨qx, 69, none⟩ (.int .u8 7) = w2 := ⟨_, rfl⟩
  have hr2 : RdL ByR 1 (fun j => j = qx) w2 (some ⟨qx, 0, none⟩) 70 xR := by
    rw [← hw2]
    have h := hr1.rd (S := fun j => j = qx) rfl
    rw [show ((List.replicate 70 0).set 69 7).length = 70 by simp] at h
    exact h
  rw [hw2] at hM3 hP3
  have hc3 : scN 1 70 = 3 := by decide
  have hpu := scp_any hM3 hP3 (fun j hj => hj) hr2 (fun j hj => .inr (by omega)) (Nat.le_refl _) (by omega) (by rw [hc3]; omega) (by rw [hc3]; omega) (by omega) (fun st hst => by
    obtain ⟨d, hd, rfl⟩ := List.mem_iff_getElem.1 hst
    rw [(newS_at (List.getElem?_eq_getElem hd)).1]; decide) (by rw [hc3]; omega)
  rw [hc3] at hpu
  have HR2 := Lib.hid hr2
  have HX2 := Lib.hid (show ∀ j, j = qx → j < w.heap.size ∨ qx ≤ j ∧ j < wx.heap.size from fun j hj => .inr (by omega))
  have HPU := Lib.hid hpu
  have HB1 := Lib.hid hb1
  clear hM hP hM1 hP1 hbx hM2 hP2 bx hM3 hP3 hr1 hb1 hKx hc3 hpu hr2
  go_wp2_with fail
  refine HPU.out.mono ?_
  clear HPU hwx hqx hw2 kx zx hsx hs1 hPB1 hmk
  rintro e w3 ⟨A3, c3, S3, rfl, hc3, hr3, hS3, hP3, hM3, hK3⟩
  have hxb := by_byt HR2.out
  have hvw := putC_new (n := 7) (k := 1) (N := 1 + 1) (M := 3) (rf := scRf (2 + 0) 0) (tx := scTx 1 (2 + 0) 0 3 xR) (Alv.new 7 2) (fun i hi => scRf_ok (by omega)) (fun i => scTx_byt hxb i) (fun i j h1 h2 => by show 2 + 0 + j ≠ 2 + 0 + i; omega) 3 (Nat.le_refl _)
  have e1 : scC ((2 + 0 : Nat) : Int) ((0 : Nat) : Int) ((3 : Nat) : Int) ((70 : Nat) : Int) = #[.int .i64 2, .int .u64 0, .int .i64 3, .int .i64 70] := rfl
  rw [e1]
  have hXb := BoxAt.new w3 #[.int .i64 2, .int .u64 0, .int .i64 3, .int .i64 70] 24
  have hb4 : Below w3.heap.size w3 (w3.alloc (.cells #[.int .i64 2, .int .u64 0, .int .i64 3, .int .i64 70] 24)) := (Below.refl _ _).alloc (Nat.le_refl _) _
  have hM4 := hM3.below hb4
  obtain ⟨w4, hw4⟩ : ∃ w4, w3.alloc (.cells #[.int .i64 2, .int .u64 0, .int .i64 3, .int .i64 70] 24) = w4 := ⟨_, rfl⟩
  obtain ⟨q, hq⟩ : ∃ q, w3.heap.size = q := ⟨_, rfl⟩
  rw [hw4] at hXb hb4 hM4
  rw [hq] at hXb
  have hc3' : scN 1 70 = 3 := by decide
  have hgt := scg_any (aa := 2 + 0) (G := 0) (size := 70) (xs := xR) (gs := fun _ _ => true) hM4.x.mid (by omega) (by omega) (by rw [hc3']; omega) (by rw [hc3']; omega) (Lib.hid (by rw [hc3']; decide)) hxb xR_len (by rw [hc3']; exact hvw)
  rw [hc3', e1] at hgt
  have HGT := Lib.hid hgt
  have HR3 := Lib.hid (hr3.below IntR.stable hb4)
  have HR24 := Lib.hid ((hK3.rd ByR.stable HR2.out HX2.out).below ByR.stable hb4)
  have HM4 := Lib.hid hM4
  have BB4 := Lib.hid hXb
  have c4 : w4.cell? ⟨q, 0, none⟩ = some (.int .i64 2) ∧ w4.cell? ⟨q, 1, none⟩ = some (.int .u64 0) ∧ w4.cell? ⟨q, 2, none⟩ = some (.int .i64 3) ∧ w4.cell? ⟨q, 3, none⟩ = some (.int .i64 70) := ⟨hXb.cell 0, hXb.cell 1, hXb.cell 2, hXb.cell 3⟩
  clear hc3 hr3 hS3 hP3 hM3 hK3 hXb hb4 hM4 hgt HR2 HX2 hvw hxb e1 hc3'
  go_wp2_with fail
  refine HGT.out.mono ?_
  clear HGT hw4 hq c4
  rintro e w5 ⟨hb5, ⟨⟨i, _, hlo⟩, _⟩ | ⟨_, A5, c5, A6, c6, rfl, hc5, hr5, hc6, hr6⟩⟩
  · exact absurd (show cntP (fun _ => true) 2 < 1 from hlo) (by decide)
  have bB5 := BB4.out.below hb5
  have k0 : w5.cell? ⟨q, 0, none⟩ = some (.int .i64 2) := bB5.cell 0
  have k2 : w5.cell? ⟨q, 2, none⟩ = some (.int .i64 3) := bB5.cell 2
  have k3 : w5.cell? ⟨q, 3, none⟩ = some (.int .i64 70) := bB5.cell 3
  have HR35 := Lib.hid (HR3.out.below IntR.stable hb5)
  have HR25 := Lib.hid (HR24.out.below ByR.stable hb5)
  have HR5 := Lib.hid hr5
  have HR6 := Lib.hid hr6
  have HM5 := Lib.hid (HM4.out.below' hb5)
  have hbi : Below w5.heap.size w5 (w5.alloc (.cells #[.int .i64 2, .int .i64 3, .int .i64 4] 3)) := (Below.refl _ _).alloc (Nat.le_refl _) _
  have hli := BoxAt.ints (xs := [2, 3, 4]) (BoxAt.new w5 #[.int .i64 2, .int .i64 3, .int .i64 4] 3) (S := fun _ => True) trivial
  have hi7 := ints7_same (c1 := c3) (c2 := 3) (HR35.out.below IntR.stable hbi) (show RdL IntR 1 (fun _ => True) _ _ 3 (plL (2 + 0) 3) from hli) (by omega)
  have HBI := Lib.hid hbi
  clear hr5 hr6 hb5 HM4 HR3 HR24 BB4 bB5 hli hbi
  go_wp2_with fail
  refine hi7.mono ?_
  clear hi7 k0 k2 k3
  rintro e w7 ⟨rfl, hb7⟩
  have HB7 := Lib.hid (HBI.out.trans (hb7.mono HBI.out.size))
  obtain ⟨T, hT⟩ : ∃ T, textB xR = T := ⟨_, rfl⟩
  have t1 := text_run (c := c5) (HR5.out.below ByR.stable HB7.out)
  have t2 := text_run (c := 70) (HR25.out.below ByR.stable HB7.out)
  rw [hT] at t1 t2
  have hi7 := ints7_same (c1 := c6) (c2 := c3) (HR6.out.below IntR.stable HB7.out) (HR35.out.below IntR.stable HB7.out) (by omega)
  clear hb7
  go_wp2_with fail
  refine hi7.mono ?_
  clear hi7 t1 t2 hT
  rintro e w8 ⟨rfl, hb8⟩
  have HB8 := Lib.hid (HB7.out.trans (hb8.mono HB7.out.size))
  have hc34 := scnt_any (HM5.out.cod.below HB8.out) (size := 34) (Lib.hid (by decide))
  rw [show scI 1 34 = 1 by decide] at hc34
  clear hb8
  go_wp2_with fail
  refine hc34.mono ?_
  clear hc34
  rintro e w9 ⟨rfl, hb9⟩
  have HB9 := Lib.hid (HB8.out.trans (hb9.mono HB8.out.size))
  have hc35 := scnt_any (HM5.out.cod.below HB9.out) (size := 35) (Lib.hid (by decide))
  rw [show scI 1 35 = 2 by decide] at hc35
  clear hb9
  go_wp2_with fail
  refine hc35.mono ?_
  clear hc35
  rintro e w10 ⟨rfl, hb10⟩
  have HB10 := Lib.hid (HB9.out.trans (hb10.mono HB9.out.size))
  have hpb := spb_any (c := 0) (p := 258) (ct := 2) (sz := 3) (g := 1) (xs := []) (RdL.nil (A := none) (S := fun _ => True) (w := w10)) (by omega) (Lib.hid (by decide))
  rw [show ([] : List Nat) ++ nmB 258 1 2 3 = [2, 1, 1, 0, 0, 0, 0, 0, 0, 0, 2, 0, 3, 0, 0, 0] by decide +kernel] at hpb
  unfold scC at hpb
  rw [show ((1 : Nat) : Int) = 1 from rfl] at hpb
  clear hb10
  go_wp2_with fail
  refine hpb.mono ?_
  clear hpb
  rintro e w11 ⟨A11, c11, rfl, hc11, hr11, hb11⟩
  have t1 := text_run (c := c11) hr11
  rw [show textB [2, 1, 1, 0, 0, 0, 0, 0, 0, 0, 2, 0, 3, 0, 0, 0] = ⟨#[2, 1, 1, 0, 0, 0, 0, 0, 0, 0, 2, 0, 3, 0, 0, 0]⟩ by decide +kernel] at t1
  have HB11 := Lib.hid (HM5.out.bel.trans ((HB10.out.trans (hb11.mono HB10.out.size)).mono HM5.out.bel.size))
  clear hr11 hb11
  go_wp2_with fail
  go_ret
  exact ⟨rfl, HB11.out⟩
end Go.Proofs.YtcliejdiaohamaaGreat

set_option linter.unusedSimpArgs false
set_option linter.unusedVariables false
namespace Go.Proofs.YtcliejdiaohamaaGreat
open Go.RowKit Go.Cib
attribute [local go_sem] cell_set Later.cell Later.frozen Grw.cell Grw.frozen
set_option maxRecDepth 100000 in
set_option maxHeartbeats 32000000 in
theorem scounts_any {w : World} {k size x1 x2 x3 x4 : Int} :
    Calls Tryz.prog 8 #[.int .i64 k, .int .i64 size, .agg (scC x1 x2 x3 x4)] w fun e w' => e = .returned (.bool true) ∧ Below w.heap.size w w' := by
  have hb0 : Below w.heap.size w (w.alloc (.cells (scC x1 x2 x3 x4) 24)) := (Below.refl _ _).alloc (Nat.le_refl _) _
  have bB := BoxAt.new w (scC x1 x2 x3 x4) 24
  unfold scC at hb0 bB ⊢
  go_enter Tryz.func8, Tryz.ntmps8
  go_wp2_with fail
  obtain ⟨wA, hwA⟩ : ∃ wA, w.alloc (.cells #[.int .i64 x1, .int .u64 x2, .int .i64 x3, .int .i64 x4] 24) = wA := ⟨_, rfl⟩
  obtain ⟨q, hq⟩ : ∃ q, w.heap.size = q := ⟨_, rfl⟩
  rw [hwA] at hb0 bB ⊢
  rw [hq] at bB ⊢
  have HB0 := Lib.hid hb0
  have BB := Lib.hid bB
  clear hwA hq hb0 bB
  refine fldnew_any.mono ?_
  rintro e w1 ⟨rfl, hF, hb1⟩
  have HF := Lib.hid hF
  have hqA : q < wA.heap.size := BB.out.lt
  have HB1 := Lib.hid (HB0.out.trans (hb1.mono HB0.out.size))
  have BB1 := Lib.hid (BB.out.below hb1)
  have hs1 := hb1.size
  have hsw := HB0.out.size
  clear hF BB
  have hma := fun w => may_any (w := w) k 1
  cases hm : mayB k 1 with
  | false =>
    have hbad := new_bad (w := w1) (f := .pointer (some ⟨wA.heap.size, 0, none⟩)) (k := k) (m := 1) (fun h => by have : mayB k 1 = true := decide_eq_true h; rw [hm] at this; cases this)
    rw [hm] at hma
    clear hm hb1
    go_wp2_with fail
    refine hbad.mono ?_
    rintro e w2 ⟨rfl, hw2⟩
    rw [hw2]
    clear hw2 hbad
    go_wp2_with fail
    refine (hma _).mono ?_
    rintro e w2 ⟨rfl, hw2⟩
    rw [hw2]
    clear hw2 hma
    go_wp2_with fail
    refine rolls_any.mono ?_
    rintro e wz ⟨rfl, hbz⟩
    go_wp2_with fail
    go_ret
    exact ⟨rfl, HB1.out.trans (hbz.mono HB1.out.size)⟩
  | true =>
    have hk : 1 ≤ k ∧ k ≤ 254 := by have := of_decide_eq_true hm; omega
    obtain ⟨k, rfl⟩ : ∃ k' : Nat, k = (k' : Int) := ⟨k.toNat, by omega⟩
    have k1 : 1 ≤ k := by omega
    have k2 : k ≤ 254 := by omega
    rw [hm] at hma
    have hnew := new_any (k := k) (m := 1) HF.out k1 (by omega) (by omega)
    clear hm hk
    push_cast at hnew
    go_wp2_with fail
    refine hnew.mono ?_
    clear hnew
    rintro e w2 ⟨cb2, rfl, hC, hkp⟩
    have hb2 : Below wA.heap.size wA w2 := hb1.trans (Keep.below hkp hb1.size (fun k hk => by rw [hk]; exact Nat.le_refl _))
    have HB2 := Lib.hid (HB0.out.trans (hb2.mono HB0.out.size))
    have HC := Lib.hid hC
    have BB2 := Lib.hid (BB1.out.keeps hkp (fun e => by omega))
    clear hb1 hkp hC BB1 HF HB1 hb2 hqA hs1 hsw
    go_wp2_with fail
    refine (hma _).mono ?_
    rintro e w3 ⟨rfl, hw3⟩
    rw [hw3]
    clear hw3 hma
    by_cases g0 : size > 1000000
    · go_wp2_with fail
      refine rolls_any.mono ?_
      rintro e wz ⟨rfl, hbz⟩
      go_wp2_with fail
      go_ret
      exact ⟨rfl, HB2.out.trans (hbz.mono HB2.out.size)⟩
    have g9 : size ≤ 1000000 := by omega
    have hmd := bmade_any (w0 := w2) (w := w2) (k := 1) (m := 1) (f := 1) (c := 4) (Below.refl _ _) (by omega) (by omega) (by omega) (by omega) (by omega) (by omega)
    have e0 : baseC ((1 : Nat) : Int) ((1 : Nat) : Int) ((1 : Nat) : Int) ((4 : Nat) : Int) = #[.int .i64 1, .int .i64 1, .int .i64 1, .int .i64 4] := rfl
    rw [e0] at hmd
    clear e0
    go_wp2_with fail
    refine hmd.mono ?_
    clear hmd
    rintro e w3 ⟨a, cb, bf, p, o, l, go, gl, rfl, hM, hP, hb3⟩
    have hM1 : MidP (PoolB p o l go gl) (fun j => j < w2.heap.size) w2 w3 a cb bf 1 1 5 (newS 5 2) := hM
    have hP1 : PoolT w3 p o l go gl 0 1 4 0 := PoolT.new hP
    have HALL : Hid (∀ w', Below w3.heap.size w3 w' → MidP (PoolB p o l go gl) (fun j => j < w2.heap.size) w2 w' a cb bf 1 1 5 (newS 5 2) ∧ PoolT w' p o l go gl 0 1 4 0 ∧ CodAt w' cb2 _ k 1 ∧ (w'.cell? ⟨q, 0, none⟩ = some (.int .i64 x1) ∧ w'.cell? ⟨q, 1, none⟩ = some (.int .u64 x2) ∧ w'.cell? ⟨q, 2, none⟩ = some (.int .i64 x3) ∧ w'.cell? ⟨q, 3, none⟩ = some (.int .i64 x4))) := Lib.hid fun w' hb => by
      have bB := (BB2.out.below hb3).below hb
      exact ⟨hM1.below' hb, hP1.below hb, (HC.out.below hb3).below hb, bB.cell 0, bB.cell 1, bB.cell 2, bB.cell 3⟩
    have HB3 := Lib.hid (HB2.out.trans (hb3.mono HB2.out.size))
    have HQ3 := Lib.hid (show q < w3.heap.size from (BB2.out.below hb3).lt)
    have H1 := Lib.hid (Below.refl w3.heap.size w3)
    clear hM hP hM1 hP1 hb3
    go_wp2_with fail
    refine scp_na.mono ?_
    rintro e w4 ⟨rfl, hb⟩
    have H2 := Lib.hid (H1.out.trans (hb.mono H1.out.size))
    clear hb H1
    have hb := (Below.refl w4.heap.size w4).alloc (Nat.le_refl _) (.cells #[.int .i64 0, .int .u64 0, .int .i64 0, .int .i64 0] 24)
    have H3 := Lib.hid (H2.out.trans (hb.mono H2.out.size))
    have hc := scp_nc (vp := .pointer (some ⟨p, 0, none⟩)) (A := none) (l := 0) (c := 0) (HALL.out _ H3.out).1
    clear hb H2
    unfold scr0
    go_wp2_with fail
    refine hc.mono ?_
    clear hc
    rintro e w5 ⟨rfl, hb⟩
    have H4 := Lib.hid (H3.out.trans (hb.mono H3.out.size))
    clear hb H3
    have hb := (Below.refl w5.heap.size w5).alloc (Nat.le_refl _) (.cells #[.int .i64 0, .int .u64 0, .int .i64 0, .int .i64 0] 24)
    have H5 := Lib.hid (H4.out.trans (hb.mono H4.out.size))
    have hc := scp_np (A := none) (l := 0) (c := 0) (HALL.out _ H5.out).1
    clear hb H4
    unfold scr0
    go_wp2_with fail
    refine hc.mono ?_
    clear hc
    rintro e w6 ⟨rfl, hb⟩
    have H6 := Lib.hid (H5.out.trans (hb.mono H5.out.size))
    clear hb H5
    have hb := (Below.refl w6.heap.size w6).alloc (Nat.le_refl _) (.cells #[.int .i64 0, .int .u64 0, .int .i64 0, .int .i64 0] 24)
    have H7 := Lib.hid (H6.out.trans (hb.mono H6.out.size))
    have hmk := makeBy 13601 (by omega) (w6.alloc (.cells #[.int .i64 0, .int .u64 0, .int .i64 0, .int .i64 0] 24))
    rw [show ((13601 : Nat) : Int) = 13601 from rfl, World.size_alloc] at hmk
    have hbm := (Below.refl _ (w6.alloc (.cells #[.int .i64 0, .int .u64 0, .int .i64 0, .int .i64 0] 24))).alloc (Nat.le_refl _) (.cells (Array.replicate 13601 (.int .u8 0)) 5)
    have H8 := Lib.hid (H7.out.trans (hbm.mono H7.out.size))
    obtain ⟨w8, hw8⟩ : ∃ w8, (w6.alloc (.cells #[.int .i64 0, .int .u64 0, .int .i64 0, .int .i64 0] 24)).alloc (.cells (Array.replicate 13601 (.int .u8 0)) 5) = w8 := ⟨_, rfl⟩
    rw [hw8] at H8 hmk
    have hc := scp_large (A := some ⟨w6.heap.size + 1, 0, none⟩) (c := 13601) (HALL.out _ H8.out).1 (HALL.out _ H8.out).2.1 (size := 13601) (by omega) (by decide)
    clear hb H6 H7 hbm
    unfold scr0
    go_wp2_with fail
    refine hc.mono ?_
    clear hc hw8 hmk
    rintro e w9 ⟨rfl, hb⟩
    have H9 := Lib.hid (H8.out.trans (hb.mono H8.out.size))
    clear hb H8
    have hb := (Below.refl w9.heap.size w9).alloc (Nat.le_refl _) (.cells #[.int .i64 0, .int .u64 0, .int .i64 0, .int .i64 0] 24)
    have H10 := Lib.hid (H9.out.trans (hb.mono H9.out.size))
    have c9 := (HALL.out _ H9.out).2.2.2
    have hq9 : q < w9.heap.size := by have h1 := H9.out.size; have h2 := HQ3.out; omega
    have hc := scg_na (w := w9.alloc (.cells #[.int .i64 0, .int .u64 0, .int .i64 0, .int .i64 0] 24)) (vc := .pointer (some ⟨cb, 0, none⟩)) (x1 := x1) (x2 := x2) (x3 := x3) (x4 := x4)
    clear hb H9
    unfold scr0
    unfold scC at hc
    go_wp2_with fail
    refine hc.mono ?_
    clear hc c9 hq9
    rintro e w11 ⟨rfl, hb⟩
    have H11 := Lib.hid (H10.out.trans (hb.mono H10.out.size))
    have c11 := (HALL.out _ H11.out).2.2.2
    have hc := scg_nc (x1 := x1) (x2 := x2) (x3 := x3) (x4 := x4) (HALL.out _ H11.out).1
    clear hb H10
    unfold scC at hc
    go_wp2_with fail
    refine hc.mono ?_
    clear hc c11
    rintro e w12 ⟨rfl, hb⟩
    have H12 := Lib.hid (H11.out.trans (hb.mono H11.out.size))
    clear hb H11
    have hmk := makeBy 137 (by omega) w12
    rw [show ((137 : Nat) : Int) = 137 from rfl] at hmk
    have hbm := (Below.refl _ w12).alloc (Nat.le_refl _) (.cells (Array.replicate 137 (.int .u8 0)) 5)
    have H13 := Lib.hid (H12.out.trans (hbm.mono H12.out.size))
    obtain ⟨w13, hw13⟩ : ∃ w13, w12.alloc (.cells (Array.replicate 137 (.int .u8 0)) 5) = w13 := ⟨_, rfl⟩
    rw [hw13] at H13 hmk
    have hc := scp_full (A := some ⟨w12.heap.size, 0, none⟩) (c := 137) (HALL.out _ H13.out).1 (HALL.out _ H13.out).2.1 (size := 137) (by omega) (by decide) (by decide)
    clear H12 hbm
    go_wp2_with fail
    refine hc.mono ?_
    clear hc hw13 hmk
    rintro e w14 ⟨rfl, hb⟩
    have H14 := Lib.hid (H13.out.trans (hb.mono H13.out.size))
    clear hb H13
    have hb := (Below.refl w14.heap.size w14).alloc (Nat.le_refl _) (.cells #[.int .i64 0, .int .u64 0, .int .i64 0, .int .i64 0] 24)
    have H15 := Lib.hid (H14.out.trans (hb.mono H14.out.size))
    have hcn := scnt_any (HALL.out _ H15.out).2.2.1 (size := size) (Lib.hid (by omega))
    have hrc := fun w => rscnt_any (w := w) k1 (by omega) g9
    obtain ⟨y, hy⟩ : ∃ y, scI k size = y := ⟨_, rfl⟩
    simp only [hy] at hcn hrc
    clear hb H14 hy
    unfold scr0
    go_wp2_with fail
    refine hcn.mono ?_
    clear hcn
    rintro e w16 ⟨rfl, hb⟩
    have H16 := Lib.hid (H15.out.trans (hb.mono H15.out.size))
    clear hb H15
    go_wp2_with (first | (go_at_call 47; refine (hrc _).mono ?_; rintro e w9 ⟨rfl, hw9⟩; rw [hw9]; clear hw9) | (go_at_call 46; refine (scnt_nil _).mono ?_; rintro e w9 ⟨rfl, hw9⟩; rw [hw9]; clear hw9))
    refine ((HALL.out _ H16.out).2.1.free).mono ?_
    rintro e w17 ⟨rfl, hb⟩
    have H17 := Lib.hid (HB3.out.trans ((H16.out.trans (hb.mono H16.out.size)).mono HB3.out.size))
    clear hb
    go_wp2_with fail
    refine rolls_any.mono ?_
    rintro e wz ⟨rfl, hbz⟩
    go_wp2_with fail
    go_ret
    exact ⟨rfl, H17.out.trans (hbz.mono H17.out.size)⟩
end Go.Proofs.YtcliejdiaohamaaGreat

set_option linter.unusedSimpArgs false
set_option linter.unusedVariables false
namespace Go.Proofs.YtcliejdiaohamaaGreat
open Go.RowKit Go.Cib
attribute [local go_sem] cell_set Later.cell Later.frozen Grw.cell Grw.frozen
open Go.ChangeShapes Go.WideShapes Go.ChangeAt Go.Deep
end Go.Proofs.YtcliejdiaohamaaGreat

set_option linter.unusedSimpArgs false
set_option linter.unusedVariables false
namespace Go.Proofs.YtcliejdiaohamaaGreat
open Go.RowKit Go.Cib
attribute [local go_sem] cell_set Later.cell Later.frozen Grw.cell Grw.frozen
open Go.ChangeShapes Go.WideShapes Go.ChangeAt Go.Deep
end Go.Proofs.YtcliejdiaohamaaGreat

set_option linter.unusedSimpArgs false
set_option linter.unusedVariables false
namespace Go.Proofs.YtcliejdiaohamaaGreat
open Go.RowKit Go.Cib
attribute [local go_sem] cell_set Later.cell Later.frozen Grw.cell Grw.frozen
open Go.ChangeShapes Go.WideShapes Go.ChangeAt Go.Deep
set_option maxRecDepth 100000 in
theorem open_scroll {H : Type} {enc : TypeId × Value → H} {w : World} {base b0 : Nat} {spare : Nat → Bool} {held : Bool} {r : Reach} {v : Value} {d : DataW H} {ps : List MemPlace}
    (hval : Value.okWide Tryz.prog w r b0 24 v) (h : DataW.Trod enc Tryz.prog w base spare held 24 v d ps) : ∃ k m f c : Int, v = .agg #[.int .i64 k, .int .u64 m, .int .i64 f, .int .i64 c] := by
  obtain ⟨cs, rfl, hsz⟩ := okWide_struct Tryz.underlying24 hval
  obtain ⟨fuel, hx⟩ := h
  have h5 : cs.size = 4 := hsz.trans (by kernel_rfl)
  have hl : (Value.agg cs).cells.toList.length = 4 := by simpa [Value.cells] using h5
  obtain ⟨xs, n, _, _, hlen, hxl, hf⟩ := DataW.trod_struct Tryz.underlying24 hx
  have e0 : (Value.agg cs).cells.toList = cs.toList := rfl
  rw [e0] at hf hl
  match hc : cs.toList, hl with
  | [c0, c1, c2, c3], _ =>
    rw [hc] at hf
    have f0 := hf 0 _ rfl
    have f1 := hf 1 _ rfl
    have f2 := hf 2 _ rfl
    have f3 := hf 3 _ rfl
    have k1 : Tryz.prog.cellsOf 3 = 1 := by kernel_rfl
    have k2 : Tryz.prog.cellsOf 22 = 1 := by kernel_rfl
    have hx3 : xs.length = 4 := hxl
    simp only [List.getElem_toArray, List.getElem_cons_zero, List.getElem_cons_succ, k1, k2, List.drop_zero, List.drop_succ_cons, List.take_succ_cons, List.take_zero] at f0 f1 f2 f3
    rw [List.getElem?_eq_getElem (by omega)] at f0 f1 f2 f3
    obtain ⟨s, e1, _, _⟩ := DataW.trod_int Tryz.underlying3 f0
    obtain ⟨t, e2, _, _⟩ := DataW.trod_int Tryz.underlying22 f1
    obtain ⟨u, e3, _, _⟩ := DataW.trod_int Tryz.underlying3 f2
    obtain ⟨x, e4, _, _⟩ := DataW.trod_int Tryz.underlying3 f3
    simp only [List.cons.injEq, and_true] at e1 e2 e3 e4
    subst e1; subst e2; subst e3; subst e4
    refine ⟨s, t, u, x, ?_⟩
    rw [show cs = cs.toList.toArray by simp, hc]
end Go.Proofs.YtcliejdiaohamaaGreat
