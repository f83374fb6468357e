/-
  A long text's stripes are written.
  A long text is put, or why not.
  A long text is put, or why not: scroll.Put.
  A long text isn't put: no room, too long, nothing to put it into.
  A long text's Get, without drives or a coder.
  A long text's stripes are read one by one.
  Values that were put, and what they were: two slices that grow side by side, while drives and a pool go on.
-/
import Derived.Test.YtcliejdiaohamaaGreatSo14
import Derived.Defers
import Derived.WalkMore
import Derived.Test.YtcliejdiaohamaaGreatSo9
import Derived.Test.YtcliejdiaohamaaGreatSo4
set_option linter.unusedSimpArgs false
set_option linter.unusedVariables false
namespace Go.Proofs.YtcliejdiaohamaaGreat
open Go.RowKit Go.Cib
attribute [local go_sem] cell_set Later.cell Later.frozen Grw.cell Grw.frozen
/-- An exit that is no panic. -/
def NoP (Q : Exit → Act → World → Prop) : Exit → Act → World → Prop
  | .panic _, _, _ => False
  | e, a, w => Q e a w
theorem NoP.le {Q : Exit → Act → World → Prop} : ∀ e a w, NoP Q e a w → Q e a w
  | .panic _, _, _, h => h.elim
  | .normal, _, _, h => h
  | .ret, _, _, h => h
  | .outgrown, _, _, h => h
  | .exit _, _, _, h => h
  | .goto _, _, _, h => h
theorem NoP.normal {Q : Exit → Act → World → Prop} {a : Act} {w : World} (h : Q .normal a w) : NoP Q .normal a w := h
set_option maxRecDepth 100000 in
set_option maxHeartbeats 1600000 in
/-- What is done last, where nothing went wrong: nothing. -/
theorem scw1_ok {w : World} {q10 q6 q12 q8 q9 : Nat} (u : FrameMode) (h : w.cell? ⟨q10, 0, none⟩ = some (.int .i64 0)) :
    CallsD Tryz.prog 179 #[.pointer (some ⟨q10, 0, none⟩), .pointer (some ⟨q6, 0, none⟩), .pointer (some ⟨q12, 0, none⟩), .pointer (some ⟨q8, 0, none⟩), .pointer (some ⟨q9, 0, none⟩)] u w fun e u' w' => u' = u ∧ (e = .returned (.tuple #[]) ∧ w' = w) := by
  go_enter_d Tryz.func179, Tryz.ntmps179
  go_wp2
  go_end0
  exact ⟨rfl, rfl⟩
section
variable {P X S : Nat → Prop} {w0 w w' : World} {a p o l go gl ct fs np n cb bf k m t : Nat} {sts : List DSt}
def SWrE (P X : Nat → Prop) (w0 w : World) (a cb bf k m n p o l go gl ct fs np t M : Nat) (xs : List Nat) (sts : List DSt) (A : Option Addr) (c : Nat) (w' : World) : Prop :=
  M ≤ c ∧ ∃ S', RdL IntR 1 S' w' A M (plL (fs + t) M) ∧ (∀ j, S' j → w.heap.size ≤ j ∧ j < w'.heap.size) ∧
    PoolT w' p o l go gl (ct + M) fs np (t + M) ∧ MidP P (fun j => X j ∨ S' j) w0 w' a cb bf k m n (putC n k (k + m) (scRf (fs + t) ct) (scTx k (fs + t) ct M xs) sts M) ∧ KpX X w w'
def ScwP (P X : Nat → Prop) (w0 w : World) (a cb bf k m n p o l go gl ct fs np t M : Nat) (xs : List Nat) (sts : List DSt) (e : Ending) (w' : World) : Prop :=
  ∃ A' c', e = .returned (.tuple #[.slice A' M c', .int .u64 (ct : Int), .int .i64 0]) ∧ SWrE P X w0 w a cb bf k m n p o l go gl ct fs np t M xs sts A' c' w'
set_option maxRecDepth 100000 in
set_option maxHeartbeats 32000000 in
theorem scw_any (h : MidP P X w0 w a cb bf k m n sts) (hP : PoolT w p o l go gl ct fs np t) (hPB : ∀ j, PoolB p o l go gl j → P j) {A : Option Addr} {size cx : Nat} {xs : List Nat} (R : RdL ByR 1 S w A size xs) (hSX : ∀ j, S j → X j) (hcx : size ≤ cx) (hs : size ≤ 2000) (hct : ct + scN k size ≤ 1048576) (ht : t + scN k size ≤ np) (hnp : fs + np ≤ n) (hcl : ∀ st ∈ sts, st.cache.length < 800000) :
    Calls Tryz.prog 116 #[.pointer (some ⟨a, 0, none⟩), .pointer (some ⟨cb, 0, none⟩), .pointer (some ⟨p, 0, none⟩), .slice A size cx] w fun e w' => ScwP P X w0 w a cb bf k m n p o l go gl ct fs np t (scN k size) xs sts e w' := by
  have hpos := h.pos
  have hmf : ∀ (fn : Fn) (first cap : Array Value) (w : World), (Instr.makeFunc fn first cap).run Tryz.prog w = .ok (.func fn first cap) w := fun _ _ _ _ => rfl
  obtain ⟨q, hq⟩ : ∃ q, w.heap.size = q := ⟨_, rfl⟩
  obtain ⟨q8, hq8⟩ : ∃ q8, q + 1 = q8 := ⟨_, rfl⟩
  obtain ⟨q9, hq9⟩ : ∃ q9, q8 + 1 = q9 := ⟨_, rfl⟩
  obtain ⟨q10, hq10⟩ : ∃ q10, q9 + 1 = q10 := ⟨_, rfl⟩
  have b6 := (((BoxAt.new w #[.pointer (some ⟨p, 0, none⟩)] 73).alloc (.cells #[.slice none 0 0] 46)).alloc (.cells #[.int .u64 0] 22)).alloc (.cells #[.int .i64 0] 33)
  have b8 := ((BoxAt.new (w.alloc (.cells #[.pointer (some ⟨p, 0, none⟩)] 73)) #[.slice none 0 0] 46).alloc (.cells #[.int .u64 0] 22)).alloc (.cells #[.int .i64 0] 33)
  have b9 := (BoxAt.new ((w.alloc (.cells #[.pointer (some ⟨p, 0, none⟩)] 73)).alloc (.cells #[.slice none 0 0] 46)) #[.int .u64 0] 22).alloc (.cells #[.int .i64 0] 33)
  have b10 := BoxAt.new (((w.alloc (.cells #[.pointer (some ⟨p, 0, none⟩)] 73)).alloc (.cells #[.slice none 0 0] 46)).alloc (.cells #[.int .u64 0] 22)) #[.int .i64 0] 33
  have hb0 : Below w.heap.size w ((((w.alloc (.cells #[.pointer (some ⟨p, 0, none⟩)] 73)).alloc (.cells #[.slice none 0 0] 46)).alloc (.cells #[.int .u64 0] 22)).alloc (.cells #[.int .i64 0] 33)) := (by repeat (first | (with_reducible exact Below.refl _ _) | (with_reducible assumption) | (with_reducible refine Below.drew ?_) | (with_reducible refine Below.setCell ?_ ?_ _) | (with_reducible refine Below.alloc ?_ ?_ _) | (with_reducible refine Below.later ?_ ?_ _) | (first | (with_reducible exact Nat.le_refl _) | omega | (simp only [World.size_alloc, World.size_setCell, World.size_drew] <;> omega))))
  obtain ⟨w1, hw1⟩ : ∃ w1, (((w.alloc (.cells #[.pointer (some ⟨p, 0, none⟩)] 73)).alloc (.cells #[.slice none 0 0] 46)).alloc (.cells #[.int .u64 0] 22)).alloc (.cells #[.int .i64 0] 33) = w1 := ⟨_, rfl⟩
  have hs1 : w1.heap.size = q + 4 := by rw [← hw1]; simp only [World.size_alloc]; omega
  rw [hw1] at b6 b8 b9 b10 hb0
  simp only [World.size_alloc, hq, hq8, hq9, hq10] at b6 b8 b9 b10
  have HM1 := Lib.hid (h.below hb0)
  have HP1 := Lib.hid (hP.below hb0)
  have HB0 := Lib.hid hb0
  have HH := Lib.hid h
  have HR := Lib.hid R
  have HPB := Lib.hid hPB
  have HSX := Lib.hid hSX
  have HCL := Lib.hid hcl
  have HMU := Lib.hid (fun i (hi : i < scN k size) => scN_mul hpos.1 hi)
  have hsi := scI_nat k size
  have hM1 := scN_pos k size
  have hM2 := scN_le k size
  obtain ⟨M, hM⟩ : ∃ M, scN k size = M := ⟨_, rfl⟩
  rw [hM] at hct ht hsi hM1 hM2 ⊢
  have HMM := Lib.hid hM
  have HCT := Lib.hid hct
  have HT := Lib.hid ht
  have HQ := Lib.hid (show w.heap.size = q ∧ q8 = q + 1 ∧ q9 = q + 2 ∧ q10 = q + 3 ∧ w1.heap.size = q + 4 by omega)
  have HBX := Lib.hid (show BoxAt w1 q #[.pointer (some ⟨p, 0, none⟩)] ∧ BoxAt w1 q8 #[.slice none 0 0] ∧ BoxAt w1 q9 #[.int .u64 0] ∧ BoxAt w1 q10 #[.int .i64 0] from ⟨b6, b8, b9, b10⟩)
  have hc1 := scnt_any HM1.out.cod (size := (size : Int)) (Lib.hid (by omega))
  rw [hsi] at hc1
  clear h hP hPB R hSX hcl hsi hM hb0 b6 b8 b9 b10 hct ht
  go_enter_defers Tryz.func116, Tryz.ntmps116
  go_wp2_with fail
  refine hc1.mono ?_
  clear hc1 hw1 hq hq8 hq9 hq10 hs1
  rintro e w2 ⟨rfl, hb2⟩
  have hM2' := HM1.out.below' hb2
  have hP2 := HP1.out.below hb2
  have htk := ptake_at hP2 (M := M) HT.out
  have HB2 := Lib.hid hb2
  have HBX2 := Lib.hid (show BoxAt w2 q #[.pointer (some ⟨p, 0, none⟩)] ∧ BoxAt w2 q8 #[.slice none 0 0] ∧ BoxAt w2 q9 #[.int .u64 0] ∧ BoxAt w2 q10 #[.int .i64 0] from ⟨HBX.out.1.below hb2, HBX.out.2.1.below hb2, HBX.out.2.2.1.below hb2, HBX.out.2.2.2.below hb2⟩)
  have c6 := HBX2.out.1.cell 0
  have HM2 := Lib.hid hM2'
  clear hM2' hP2 hb2
  go_wp2_with fail
  refine htk.mono ?_
  clear htk c6
  rintro e w3 ⟨A3, c3, rfl, hc3, hr3, hP3, hK3⟩
  have hKP : Keep P w2 w3 := hK3.mono (fun j hj _ => by subst hj; exact HPB.out _ (.inr (.inr (.inr (.inl rfl)))))
  have hM3 := HM2.out.poolN hKP
  have hs23 := hK3.size
  have hs12 := HB2.out.size
  have hXP : ∀ j, (j = q ∨ j = q8 ∨ j = q9 ∨ j = q10) → (X j ∨ (w.heap.size ≤ j ∧ j < w1.heap.size)) := fun j hj => .inr (by have := HQ.out; omega)
  have hKX := (HM2.out.pool hKP).2
  have b6 := hKX.box HBX2.out.1 (hXP q (.inl rfl))
  have b8 := hKX.box HBX2.out.2.1 (hXP q8 (.inr (.inl rfl)))
  have b9 := hKX.box HBX2.out.2.2.1 (hXP q9 (.inr (.inr (.inl rfl))))
  have b10 := hKX.box HBX2.out.2.2.2 (hXP q10 (.inr (.inr (.inr rfl))))
  have k8 := b8.cell 0
  have k10 := b10.cell 0
  have z8 := b8.frozen 0
  have z10 := b10.frozen 0
  have ne1 : ¬ q8 = q10 := by have := HQ.out; omega
  have ne2 : ¬ q10 = q8 := fun e => ne1 e.symm
  have hK4 : Keep (fun j => j = q8 ∨ j = q10) w3 ((w3.setCell ⟨q8, 0, none⟩ (.slice A3 M c3)).setCell ⟨q10, 0, none⟩ (.int .i64 0)) := ((Keep.refl (fun j => j = q8 ∨ j = q10) w3).setCell (p := ⟨q8, 0, none⟩) (fun _ => .inl rfl) _).setCell (p := ⟨q10, 0, none⟩) (fun _ => .inr rfl) _
  have hM4 := hM3.own hK4 (fun j hj => ⟨.inl (hXP j (by rcases hj with h | h <;> simp [h])), by have := HH.out.bel.size; have := HQ.out; omega⟩)
  have c8 : BoxAt ((w3.setCell ⟨q8, 0, none⟩ (.slice A3 M c3)).setCell ⟨q10, 0, none⟩ (.int .i64 0)) q8 #[.slice A3 M c3] := (b8.set 0 _).set_other ne1 _
  have c10 : BoxAt ((w3.setCell ⟨q8, 0, none⟩ (.slice A3 M c3)).setCell ⟨q10, 0, none⟩ (.int .i64 0)) q10 #[.int .i64 0] := (b10.set_other (p := ⟨q8, 0, none⟩) ne2 _).set 0 _
  have c6 : BoxAt ((w3.setCell ⟨q8, 0, none⟩ (.slice A3 M c3)).setCell ⟨q10, 0, none⟩ (.int .i64 0)) q #[.pointer (some ⟨p, 0, none⟩)] := b6.keeps hK4 (by have := HQ.out; omega)
  have c9 : BoxAt ((w3.setCell ⟨q8, 0, none⟩ (.slice A3 M c3)).setCell ⟨q10, 0, none⟩ (.int .i64 0)) q9 #[.int .u64 0] := b9.keeps hK4 (by have := HQ.out; omega)
  have hP4 := hP3.keep hK4 (fun j hj e => by have h1 := HH.out.ltP (HPB.out j hj); have := HQ.out; omega)
  have hr4 := ((RdL.bound1 IntR.stable hr3).keep IntR.stable hK4 (fun j hj e => by have h1 : w2.heap.size ≤ j := hj.1; have := HQ.out; omega))
  have HS3 := Lib.hid (show w2.heap.size ≤ w3.heap.size ∧ w1.heap.size ≤ w2.heap.size ∧ w.heap.size ≤ w1.heap.size from ⟨hs23, hs12, HB0.out.size⟩)
  obtain ⟨w4, hw4⟩ : ∃ w4, (w3.setCell ⟨q8, 0, none⟩ (.slice A3 M c3)).setCell ⟨q10, 0, none⟩ (.int .i64 0) = w4 := ⟨_, rfl⟩
  have hs4 : w4.heap.size = w3.heap.size := by rw [← hw4]; simp only [World.size_setCell]
  rw [hw4] at hM4 c8 c10 c6 c9 hP4 hr4
  have k4 := c8.cell 0
  have k5 := c10.cell 0
  have k6 := c6.cell 0
  have HKX4 := Lib.hid (show KpX X w w4 from ((KpX.of_below (HB0.out.trans (HB2.out.mono HB0.out.size)) (fun j hj => HH.out.lt hj)).trans (hKX.mono (fun j hj => .inl hj))).trans (by
    rw [← hw4]
    exact ⟨fun j hj => hK4.block j (by have := HH.out.lt hj; have := HQ.out; omega) (by have := HH.out.lt hj; have := HQ.out; omega), hK4.size⟩))
  clear hK4 hM3 hP3 hr3 hK3 hKP hKX b6 b8 b9 b10 hXP
  obtain ⟨X1, hX1⟩ : ∃ X1 : Nat → Prop, (fun j => (X j ∨ w.heap.size ≤ j ∧ j < w1.heap.size) ∨ w2.heap.size ≤ j ∧ j < w3.heap.size) = X1 := ⟨_, rfl⟩
  have HX1 := Lib.hid (show (∀ j, X j → X1 j) ∧ (∀ j, w2.heap.size ≤ j ∧ j < w3.heap.size → X1 j) ∧ X1 q ∧ X1 q8 ∧ X1 q9 ∧ X1 q10 by
    rw [← hX1]
    have := HQ.out
    exact ⟨fun j hj => .inl (.inl hj), fun j hj => .inr hj, .inl (.inr (by omega)), .inl (.inr (by omega)), .inl (.inr (by omega)), .inl (.inr (by omega))⟩)
  rw [hX1] at hM4
  have b12 := BoxAt.new w4 #[.slice A3 M c3] 46
  have hb5 : Below w4.heap.size w4 (w4.alloc (.cells #[.slice A3 M c3] 46)) := (Below.refl _ _).alloc (Nat.le_refl _) _
  obtain ⟨w5, hw5⟩ : ∃ w5, w4.alloc (.cells #[.slice A3 M c3] 46) = w5 := ⟨_, rfl⟩
  obtain ⟨q12, hq12⟩ : ∃ q12, w4.heap.size = q12 := ⟨_, rfl⟩
  rw [hw5] at b12 hb5
  rw [hq12] at b12
  have hM5 := hM4.below' hb5
  have hP5 := hP4.below hb5
  have hgn := gens_at hP5 HCT.out
  have HM5 := Lib.hid hM5
  have HC5 := Lib.hid (show BoxAt w5 q #[.pointer (some ⟨p, 0, none⟩)] ∧ BoxAt w5 q8 #[.slice A3 M c3] ∧ BoxAt w5 q9 #[.int .u64 0] ∧ BoxAt w5 q10 #[.int .i64 0] from ⟨c6.below hb5, c8.below hb5, c9.below hb5, c10.below hb5⟩)
  have HR5 := Lib.hid (hr4.below IntR.stable hb5)
  have HKX5 := Lib.hid (HKX4.out.trans (KpX.of_below hb5 fun j hj => hM4.lt (HX1.out.1 j hj)))
  have HS5 := Lib.hid (show w3.heap.size ≤ w5.heap.size by have := hb5.size; omega)
  have k7 := (c6.below hb5).cell 0
  clear hM4 c8 c10 c6 c9 hP4 hr4 hM5 hP5 hb5 b12 hX1 hs4 hs23 hs12
  go_wp2_with fail
  refine hgn.mono ?_
  clear hgn k4 k5 k6 k7 k8 k10 z8 z10 hw4 hw5 hq12
  rintro e w6 ⟨rfl, hP6, hK6⟩
  have hKP6 : Keep P w5 w6 := hK6.mono (fun j hj _ => by subst hj; exact HPB.out _ (.inl rfl))
  have hKX6 := (HM5.out.pool hKP6).2
  have hM6 := (HM5.out.pool hKP6).1
  have b6 := hKX6.box HC5.out.1 HX1.out.2.2.1
  have b8 := hKX6.box HC5.out.2.1 HX1.out.2.2.2.1
  have b9 := hKX6.box HC5.out.2.2.1 HX1.out.2.2.2.2.1
  have b10 := hKX6.box HC5.out.2.2.2 HX1.out.2.2.2.2.2
  have k9 := b9.cell 0
  have k10 := b10.cell 0
  have z9 := b9.frozen 0
  have z10 := b10.frozen 0
  have ne3 : ¬ q9 = q10 := by have := HQ.out; omega
  have ne4 : ¬ q10 = q9 := fun e => ne3 e.symm
  have hK7 : Keep (fun j => j = q9 ∨ j = q10) w6 ((w6.setCell ⟨q9, 0, none⟩ (.int .u64 (ct : Int))).setCell ⟨q10, 0, none⟩ (.int .i64 0)) := ((Keep.refl (fun j => j = q9 ∨ j = q10) w6).setCell (p := ⟨q9, 0, none⟩) (fun _ => .inl rfl) _).setCell (p := ⟨q10, 0, none⟩) (fun _ => .inr rfl) _
  have hwq : w0.heap.size ≤ q := by have := HH.out.bel.size; have := HQ.out; omega
  have hM7 := hM6.own hK7 (fun j hj => by
    have := HQ.out
    rcases hj with rfl | rfl
    · exact ⟨HX1.out.2.2.2.2.1, by omega⟩
    · exact ⟨HX1.out.2.2.2.2.2, by omega⟩)
  have d9 : BoxAt ((w6.setCell ⟨q9, 0, none⟩ (.int .u64 (ct : Int))).setCell ⟨q10, 0, none⟩ (.int .i64 0)) q9 #[.int .u64 (ct : Int)] := (b9.set 0 _).set_other ne3 _
  have d10 : BoxAt ((w6.setCell ⟨q9, 0, none⟩ (.int .u64 (ct : Int))).setCell ⟨q10, 0, none⟩ (.int .i64 0)) q10 #[.int .i64 0] := (b10.set_other (p := ⟨q9, 0, none⟩) ne4 _).set 0 _
  have d8 : BoxAt ((w6.setCell ⟨q9, 0, none⟩ (.int .u64 (ct : Int))).setCell ⟨q10, 0, none⟩ (.int .i64 0)) q8 #[.slice A3 M c3] := b8.keeps hK7 (by have := HQ.out; omega)
  have hP7 := hP6.keep hK7 (fun j hj e => by have h1 := HH.out.ltP (HPB.out j hj); have := HQ.out; omega)
  have hr7 := ((hKX6.rd IntR.stable HR5.out (fun j hj => HX1.out.2.1 j hj)).keep IntR.stable hK7 (fun j hj e => by have h1 : w2.heap.size ≤ j := hj.1; have := HQ.out; have := HS3.out; omega))
  have HKX7 := Lib.hid ((HKX5.out.trans (hKX6.mono fun j hj => HX1.out.1 j hj)).trans (show KpX X w6 _ from ⟨fun j hj => hK7.block j (by have := HH.out.lt hj; have := hM6.lt (HX1.out.1 j hj); omega) (by have := HH.out.lt hj; have := HQ.out; omega), hK7.size⟩))
  have hs67 := hKX6.2
  obtain ⟨w7, hw7⟩ : ∃ w7, (w6.setCell ⟨q9, 0, none⟩ (.int .u64 (ct : Int))).setCell ⟨q10, 0, none⟩ (.int .i64 0) = w7 := ⟨_, rfl⟩
  have hs7 : w7.heap.size = w6.heap.size := by rw [← hw7]; simp only [World.size_setCell]
  rw [hw7] at hM7 d9 d10 d8 hP7 hr7 HKX7
  have k4 := d8.cell 0
  have k5 := d9.cell 0
  have k6 := d10.cell 0
  have hrf := srefs_any (c := c3) (G := ct) hr7 (by omega) (Lib.hid (by have := HCT.out; omega))
  have HM7 := Lib.hid hM7
  have HP7 := Lib.hid hP7
  have HR7 := Lib.hid hr7
  have HD7 := Lib.hid (show BoxAt w7 q8 #[.slice A3 M c3] ∧ BoxAt w7 q9 #[.int .u64 (ct : Int)] ∧ BoxAt w7 q10 #[.int .i64 0] from ⟨d8, d9, d10⟩)
  have HS7 := Lib.hid (show w5.heap.size ≤ w7.heap.size by omega)
  clear hKP6 hKX6 hM6 hK7 hM7 d8 d9 d10 hP7 hr7 hK6 hP6 b6 b8 b9 b10 hs67 hs7 HM5 HC5 HR5 HKX5
  go_wp2_with fail
  refine hrf.mono ?_
  clear hrf k4 k5 k6 k9 k10 z9 z10 hw7
  rintro e w8 ⟨g, rfl, hg, hrow, hb8⟩
  have hM8 := HM7.out.below hb8
  obtain ⟨XX, hXX⟩ : ∃ XX : Nat → Prop, (fun j => X1 j ∨ w7.heap.size ≤ j ∧ j < w8.heap.size) = XX := ⟨_, rfl⟩
  have HXX := Lib.hid (show (∀ j, X1 j → XX j) ∧ XX g by rw [← hXX]; exact ⟨fun j hj => .inl hj, .inr ⟨hg, hrow.lt⟩⟩)
  rw [hXX] at hM8
  have HM8 := Lib.hid hM8
  have HROW := Lib.hid hrow
  have HP8 := Lib.hid (HP7.out.below hb8)
  have HR8 := Lib.hid (HR7.out.below IntR.stable hb8)
  have HD8 := Lib.hid (show BoxAt w8 q8 #[.slice A3 M c3] ∧ BoxAt w8 q9 #[.int .u64 (ct : Int)] ∧ BoxAt w8 q10 #[.int .i64 0] from ⟨HD7.out.1.below hb8, HD7.out.2.1.below hb8, HD7.out.2.2.below hb8⟩)
  have HKX8 := Lib.hid (HKX7.out.trans (KpX.of_below hb8 fun j hj => HM7.out.lt (HX1.out.1 j hj)))
  have HS8 := Lib.hid (show w7.heap.size ≤ w8.heap.size from hb8.size)
  clear hM8 hXX hrow hb8 HP7 HR7 HD7 HKX7 hg HM7
  go_wp2_with fail
  go_loopw [47] (fun vi wr => ∃ i : Nat, i ≤ M ∧ vi = .int .i64 (i : Int) ∧ Hid (MidP P XX w0 wr a cb bf k m n (putC n k (k + m) (scRf (fs + t) ct) (scTx k (fs + t) ct M xs) sts i)) ∧ Hid (KpX (fun j => XX j ∨ P j) w8 wr)) (fun vi _ => M - (intOf vi).toNat)
  case atStart => exact ⟨0, Nat.zero_le _, rfl, HM8, Lib.hid KpX.refl⟩
  case round =>
    clear HM8
    obtain ⟨i, hi, rfl, HM, HK⟩ := hrel
    have p0 : (0 : Int) ≤ (i : Int) := Int.natCast_nonneg _
    by_cases hlt : i < M
    · have p1 : (i : Int) < (M : Int) := by omega
      obtain ⟨pa, hpa⟩ : ∃ pa, fs + t + i = pa := ⟨_, rfl⟩
      obtain ⟨pg, hpg⟩ : ∃ pg, ct + i = pg := ⟨_, rfl⟩
      obtain ⟨kd, hkd⟩ : ∃ kd, (if i + 1 < M then 4 else 0) = kd := ⟨_, rfl⟩
      obtain ⟨nx, hnx⟩ : ∃ nx, (if i + 1 < M then fs + t + (i + 1) else 0) = nx := ⟨_, rfl⟩
      obtain ⟨ng, hng⟩ : ∃ ng, (if i + 1 < M then ct + (i + 1) else 0) = ng := ⟨_, rfl⟩
      have HTX := Lib.hid (show scTx k (fs + t) ct M xs i = lnk nx ng (scPc k xs i) by unfold scTx; rw [hnx, hng])
      have hnxl : nx < 65536 := by rw [← hnx]; have := HH.out.pos; have := HT.out; split <;> omega
      have hngl : Hid (ng < 2 ^ 64) := Lib.hid (by rw [← hng]; have := HCT.out; split <;> omega)
      have HRFC := Lib.hid (show refC (scRf (fs + t) ct i) = #[.int .u8 4, .int .i64 (pa : Int), .int .u64 (pg : Int)] by unfold refC scRf; rw [hpa, hpg]; rfl)
      have HROK := Lib.hid (show (scRf (fs + t) ct i).ok n from scRf_ok (by have := HT.out; omega))
      have HRG := Lib.hid (show (scRf (fs + t) ct i).gen < 2 ^ 64 by show ct + i < _; have := HCT.out; omega)
      have HSF : Hid (∀ w' : World, w'.heap[g]? = w8.heap[g]? → w'.cell? ⟨g, i * 3, none⟩ = some (.int .u8 4) ∧ w'.cell? ⟨g, i * 3 + 1, none⟩ = some (.int .i64 (pa : Int)) ∧ w'.cell? ⟨g, i * 3 + 2, none⟩ = some (.int .u64 (pg : Int)) ∧ w'.cell? ⟨g, (i + 1) * 3, none⟩ = some (.int .u8 (kd : Int)) ∧ w'.cell? ⟨g, (i + 1) * 3 + 1, none⟩ = some (.int .i64 (nx : Int)) ∧ w'.cell? ⟨g, (i + 1) * 3 + 2, none⟩ = some (.int .u64 (ng : Int))) := Lib.hid fun w' hw => by
        obtain ⟨a0, a1, a2⟩ := HROW.out.cells (rfK_at (a := fs + t) (n := M) (G := ct) (i := M) (j := i) (by omega))
        obtain ⟨e0, e1, e2⟩ := HROW.out.cells (rfK_at (a := fs + t) (n := M) (G := ct) (i := M) (j := i + 1) (by omega))
        rw [if_pos hlt] at a0 a1 a2
        have hc : ∀ o, w'.cell? ⟨g, o, none⟩ = w8.cell? ⟨g, o, none⟩ := fun o => World.cell?_of_block (a := ⟨g, o, none⟩) hw
        rw [hc, hc, hc, hc, hc, hc, a0, a1, a2, e0, e1, e2, ← hpa, ← hpg, ← hkd, ← hnx, ← hng]
        refine ⟨rfl, rfl, rfl, ?_, ?_, ?_⟩ <;> split <;> rfl
      have hgr : g < wr.heap.size := HM.out.lt HXX.out.2
      have hwr : wr.heap[g]? = w8.heap[g]? := HK.out.1 g (.inl HXX.out.2)
      have hd : Below wr.heap.size wr wr.drew := (Below.refl _ _).drew
      have s0 := HSF.out wr.drew ((hd.block g hgr).trans hwr)
      have hiw : IntKind.i64.wrap ((i : Int) + 1) = (i : Int) + 1 := by rw [IntKind.wrap_i64]; omega
      have l1 : (i : Int) < (M : Int) + 1 := by omega
      have l2 : (i : Int) + 1 < (M : Int) + 1 := by omega
      have l3 : (0 : Int) ≤ (i : Int) + 1 := by omega
      have hmu := HMU.out i (by rw [HMM.out]; exact hlt)
      have HMd := Lib.hid (HM.out.below' hd)
      have hKd : KpX X w wr.drew := (HKX8.out.trans (HK.out.mono fun j hj => .inl (HXX.out.1 j (HX1.out.1 j hj)))).trans (KpX.of_below hd fun j hj => HM.out.lt (HXX.out.1 j (HX1.out.1 j hj)))
      have HRX := Lib.hid (hKd.rd ByR.stable HR.out HSX.out)
      have HGR := Lib.hid hgr
      have HWR := Lib.hid hwr
      clear hpa hpg hkd hnx hng hKd hgr hwr
      go_wp2_with fail
      refine Code.wp_mono NoP.le ?_
      refine wp_region_held_drew (S := fun w' => w'.cell? ⟨g, i * 3, none⟩ = some (.int .u8 4) ∧ w'.cell? ⟨g, i * 3 + 1, none⟩ = some (.int .i64 (pa : Int)) ∧ w'.cell? ⟨g, i * 3 + 2, none⟩ = some (.int .u64 (pg : Int)) ∧ w'.cell? ⟨g, (i + 1) * 3, none⟩ = some (.int .u8 (kd : Int)) ∧ w'.cell? ⟨g, (i + 1) * 3 + 1, none⟩ = some (.int .i64 (nx : Int)) ∧ w'.cell? ⟨g, (i + 1) * 3 + 2, none⟩ = some (.int .u64 (ng : Int))) (by kernel_rfl) (by first | exact s0 | exact s11 | exact s12) (fun hHeld => ?_)
      refine wpAnyH_take (i := 0) (v := ?_) rfl (by kernel_rfl) (by kernel_rfl) (by kernel_rfl) (fun _ _ _ h => h) (Or.inl ⟨by first | kernel_rfl | rfl, ?_⟩) (by assumption) ?_
      rotate_left
      · (intro wq hSw; (try dsimp only at hSw); (try simp (maxSteps := 2000000) only [zz1, zz2, zz3]); go_simp); try with_reducible rfl
      try simp (maxSteps := 2000000) only [zz1, zz2, zz3, Act.put, zz4, zz5, zz6]
      refine wpAnyH_take (i := 1) (v := ?_) rfl (by kernel_rfl) (by kernel_rfl) (by kernel_rfl) (fun _ _ _ h => h) (Or.inl ⟨by first | kernel_rfl | rfl, ?_⟩) (by assumption) ?_
      rotate_left
      · (intro wq hSw; (try dsimp only at hSw); (try simp (maxSteps := 2000000) only [zz1, zz2, zz3]); go_simp); try with_reducible rfl
      try simp (maxSteps := 2000000) only [zz1, zz2, zz3, Act.put, zz4, zz5, zz6]
      refine wpAnyH_take (i := 2) (v := ?_) rfl (by kernel_rfl) (by kernel_rfl) (by kernel_rfl) (fun _ _ _ h => h) (Or.inl ⟨by first | kernel_rfl | rfl, ?_⟩) (by assumption) ?_
      rotate_left
      · (intro wq hSw; (try dsimp only at hSw); (try simp (maxSteps := 2000000) only [zz1, zz2, zz3]); go_simp); try with_reducible rfl
      try simp (maxSteps := 2000000) only [zz1, zz2, zz3, Act.put, zz4, zz5, zz6]
      refine wpAnyH_take (i := 3) (v := ?_) rfl (by kernel_rfl) (by kernel_rfl) (by kernel_rfl) (fun _ _ _ h => h) (Or.inl ⟨by first | kernel_rfl | rfl, ?_⟩) (by assumption) ?_
      rotate_left
      · (intro wq hSw; (try dsimp only at hSw); (try simp (maxSteps := 2000000) only [zz1, zz2, zz3]); go_simp); try with_reducible rfl
      try simp (maxSteps := 2000000) only [zz1, zz2, zz3, Act.put, zz4, zz5, zz6]
      refine wpAnyH_take (i := 4) (v := ?_) rfl (by kernel_rfl) (by kernel_rfl) (by kernel_rfl) (fun _ _ _ h => h) (Or.inl ⟨by first | kernel_rfl | rfl, ?_⟩) (by assumption) ?_
      rotate_left
      · (intro wq hSw; (try dsimp only at hSw); (try simp (maxSteps := 2000000) only [zz1, zz2, zz3]); go_simp); try with_reducible rfl
      try simp (maxSteps := 2000000) only [zz1, zz2, zz3, Act.put, zz4, zz5, zz6]
      refine wpAnyH_take (i := 5) (v := ?_) rfl (by kernel_rfl) (by kernel_rfl) (by kernel_rfl) (fun _ _ _ h => h) (Or.inl ⟨by first | kernel_rfl | rfl, ?_⟩) (by assumption) ?_
      rotate_left
      · (intro wq hSw; (try dsimp only at hSw); (try simp (maxSteps := 2000000) only [zz1, zz2, zz3]); go_simp); try with_reducible rfl
      try simp (maxSteps := 2000000) only [zz1, zz2, zz3, Act.put, zz4, zz5, zz6]
      refine wpAnyH_take (i := 6) (v := ?_) rfl (by kernel_rfl) (by kernel_rfl) (by kernel_rfl) (fun _ _ _ h => h) (Or.inl ⟨by first | kernel_rfl | rfl, ?_⟩) (by assumption) ?_
      rotate_left
      · (intro wq hSw; (try dsimp only at hSw); (try simp (maxSteps := 2000000) only [zz1, zz2, zz3]); go_simp); try with_reducible rfl
      try simp (maxSteps := 2000000) only [zz1, zz2, zz3, Act.put, zz4, zz5, zz6]
      refine wpAnyH_take (i := 7) (v := ?_) rfl (by kernel_rfl) (by kernel_rfl) (by kernel_rfl) (fun _ _ _ h => h) (Or.inl ⟨by first | kernel_rfl | rfl, ?_⟩) (by assumption) ?_
      rotate_left
      · (intro wq hSw; (try dsimp only at hSw); (try simp (maxSteps := 2000000) only [zz1, zz2, zz3]); go_simp); try with_reducible rfl
      try simp (maxSteps := 2000000) only [zz1, zz2, zz3, Act.put, zz4, zz5, zz6]
      refine wpAnyH_take (i := 8) (v := ?_) rfl (by kernel_rfl) (by kernel_rfl) (by kernel_rfl) (fun _ _ _ h => h) (Or.inl ⟨by first | kernel_rfl | rfl, ?_⟩) (by assumption) ?_
      rotate_left
      · (intro wq hSw; (try dsimp only at hSw); (try simp (maxSteps := 2000000) only [zz1, zz2, zz3]); go_simp); try with_reducible rfl
      try simp (maxSteps := 2000000) only [zz1, zz2, zz3, Act.put, zz4, zz5, zz6]
      refine wpAnyH_take (i := 9) (v := ?_) rfl (by kernel_rfl) (by kernel_rfl) (by kernel_rfl) (fun _ _ _ h => h) (Or.inl ⟨by first | kernel_rfl | rfl, ?_⟩) (by assumption) ?_
      rotate_left
      · (intro wq hSw; (try dsimp only at hSw); (try simp (maxSteps := 2000000) only [zz1, zz2, zz3]); go_simp); try with_reducible rfl
      try simp (maxSteps := 2000000) only [zz1, zz2, zz3, Act.put, zz4, zz5, zz6]
      refine wpAnyH_take (i := 10) (v := ?_) rfl (by kernel_rfl) (by kernel_rfl) (by kernel_rfl) (fun _ _ _ h => h) (Or.inl ⟨by first | kernel_rfl | rfl, ?_⟩) (by assumption) ?_
      rotate_left
      · (intro wq hSw; (try dsimp only at hSw); (try simp (maxSteps := 2000000) only [zz1, zz2, zz3]); go_simp); try with_reducible rfl
      try simp (maxSteps := 2000000) only [zz1, zz2, zz3, Act.put, zz4, zz5, zz6]
      refine wpAnyH_take (i := 11) (v := ?_) rfl (by kernel_rfl) (by kernel_rfl) (by kernel_rfl) (fun _ _ _ h => h) (Or.inl ⟨by first | kernel_rfl | rfl, ?_⟩) (by assumption) ?_
      rotate_left
      · (intro wq hSw; (try dsimp only at hSw); (try simp (maxSteps := 2000000) only [zz1, zz2, zz3]); go_simp); try with_reducible rfl
      try simp (maxSteps := 2000000) only [zz1, zz2, zz3, Act.put, zz4, zz5, zz6]
      refine wpAnyH_take (i := 12) (v := ?_) rfl (by kernel_rfl) (by kernel_rfl) (by kernel_rfl) (fun _ _ _ h => h) (Or.inl ⟨by first | kernel_rfl | rfl, ?_⟩) (by assumption) ?_
      rotate_left
      · (intro wq hSw; (try dsimp only at hSw); (try simp (maxSteps := 2000000) only [zz1, zz2, zz3]); go_simp); try with_reducible rfl
      try simp (maxSteps := 2000000) only [zz1, zz2, zz3, Act.put, zz4, zz5, zz6]
      refine wpAnyH_take (i := 14) (v := ?_) rfl (by kernel_rfl) (by kernel_rfl) (by kernel_rfl) (fun _ _ _ h => h) (Or.inl ⟨by first | kernel_rfl | rfl, ?_⟩) (by assumption) ?_
      rotate_left
      · (intro wq hSw; (try dsimp only at hSw); (try simp (maxSteps := 2000000) only [zz1, zz2, zz3]); go_simp); try with_reducible rfl
      try simp (maxSteps := 2000000) only [zz1, zz2, zz3, Act.put, zz4, zz5, zz6]
      refine wpAnyH_ready (rs := [13]) (by kernel_rfl) (by simp) ?_
      refine AllReadyH.cons rfl (fun K hK => ?_) AllReadyH.nil
      try simp (maxSteps := 2000000) only [zz1, zz2, zz3]
      go_simp
      go_at_call 119
      refine (sroom_any HMd.out.cod).mono ?_
      rintro e w9 ⟨rfl, hw9⟩
      rw [hw9]
      clear hw9
      try (go_wp2_with fail)
      refine hK.out _ _ (by first | exact s0 | exact s11 | exact s12) (fun hHeld => ?_)
      clear hK K
      try simp (maxSteps := 2000000) only [zz1, zz2, zz3, Act.put, zz4, zz5, zz6]
      refine wpAnyH_ready (rs := [15]) (by kernel_rfl) (by simp) ?_
      refine AllReadyH.cons rfl (fun K hK => ?_) AllReadyH.nil
      try simp (maxSteps := 2000000) only [zz1, zz2, zz3]
      go_simp
      go_at_call 182
      refine (spiece_any HRX.out hcx (by omega) hmu (by omega) (by omega)).mono ?_
      rintro e w9 ⟨A9, l9, c9, rfl, hl9, hr9, hle9, hw9⟩
      rw [hw9]
      clear hw9
      have HR9 := Lib.hid hr9
      have HL9 := Lib.hid hle9
      clear hr9 hle9
      try (go_wp2_with fail)
      refine hK.out _ _ (by first | exact s0 | exact s11 | exact s12) (fun hHeld => ?_)
      clear hK K
      try simp (maxSteps := 2000000) only [zz1, zz2, zz3, Act.put, zz4, zz5, zz6]
      refine wpAnyH_ready (rs := [16]) (by kernel_rfl) (by simp) ?_
      refine AllReadyH.cons rfl (fun K hK => ?_) AllReadyH.nil
      try simp (maxSteps := 2000000) only [zz1, zz2, zz3]
      go_simp
      go_at_call 181
      have hla := laid_any (kd := kd) (p := nx) (g := ng) (c := c9) HR9.out (by have := HL9.out; omega) hnxl hngl
      unfold scR at hla
      refine hla.mono ?_
      clear hla
      rintro e w11 ⟨A11, c11, rfl, hc11, hr11, hb11⟩
      have hm11 : w11.heap[g]? = w8.heap[g]? := ((hd.trans (hb11.mono hd.size)).block g HGR.out).trans HWR.out
      have s11 := HSF.out w11 hm11
      have HR11 := Lib.hid hr11
      have HM11 := Lib.hid (HMd.out.below' hb11)
      have HK11 := Lib.hid (HK.out.trans (KpX.of_below (hd.trans (hb11.mono hd.size)) fun j hj => by
        rcases hj with hj | hj
        · exact HM.out.lt hj
        · exact HM.out.ltP hj))
      clear hr11 hb11 hm11
      try (go_wp2_with fail)
      refine hK.out _ _ (by first | exact s0 | exact s11 | exact s12) (fun hHeld => ?_)
      clear hK K
      try simp (maxSteps := 2000000) only [zz1, zz2, zz3, Act.put, zz4, zz5, zz6]
      refine wpAnyH_ready (rs := [17]) (by kernel_rfl) (by simp) ?_
      refine AllReadyH.cons rfl (fun K hK => ?_) AllReadyH.nil
      try simp (maxSteps := 2000000) only [zz1, zz2, zz3]
      go_simp
      go_at_call 70
      have hpu := put_p HM11.out (r := scRf (fs + t) ct i) HROK.out HRG (fun st hst => by have := putC_cache HCL.out i st hst; omega) HR11.out hc11 (by have := HL9.out; have := HH.out.pos; omega)
      rw [HRFC.out] at hpu
      refine hpu.mono ?_
      clear hpu
      rintro e w12 ⟨rfl, hM12, hK12⟩
      have HM12 := Lib.hid (show MidP P XX w0 w12 a cb bf k m n (putC n k (k + m) (scRf (fs + t) ct) (scTx k (fs + t) ct M xs) sts (i + 1)) by rw [putC, HTX.out]; exact hM12)
      have HK12 := Lib.hid (HK11.out.trans hK12)
      have s12 := HSF.out w12 (HK12.out.1 g (.inl HXX.out.2))
      clear hM12 hK12
      try (go_wp2_with fail)
      refine hK.out _ _ (by first | exact s0 | exact s11 | exact s12) (fun hHeld => ?_)
      clear hK K
      try simp (maxSteps := 2000000) only [zz1, zz2, zz3, Act.put, zz4, zz5, zz6]
      refine wpAnyH_take (i := 18) (v := ?_) rfl (by kernel_rfl) (by kernel_rfl) (by kernel_rfl) (fun _ _ _ h => h) (Or.inl ⟨by first | kernel_rfl | rfl, ?_⟩) (by assumption) ?_
      rotate_left
      · (intro wq hSw; (try dsimp only at hSw); (try simp (maxSteps := 2000000) only [zz1, zz2, zz3]); go_simp); try with_reducible rfl
      try simp (maxSteps := 2000000) only [zz1, zz2, zz3, Act.put, zz4, zz5, zz6]
      refine wpAnyH_take (i := 19) (v := ?_) rfl (by kernel_rfl) (by kernel_rfl) (by kernel_rfl) (fun _ _ _ h => h) (Or.inl ⟨by first | kernel_rfl | rfl, ?_⟩) (by assumption) ?_
      rotate_left
      · (intro wq hSw; (try dsimp only at hSw); (try simp (maxSteps := 2000000) only [zz1, zz2, zz3]); go_simp); try with_reducible rfl
      try simp (maxSteps := 2000000) only [zz1, zz2, zz3, Act.put, zz4, zz5, zz6]
      refine wpAnyH_take (i := 20) (v := ?_) rfl (by kernel_rfl) (by kernel_rfl) (by kernel_rfl) (fun _ _ _ h => h) (Or.inl ⟨by first | kernel_rfl | rfl, ?_⟩) (by assumption) ?_
      rotate_left
      · (intro wq hSw; (try dsimp only at hSw); (try simp (maxSteps := 2000000) only [zz1, zz2, zz3]); go_simp); try with_reducible rfl
      try simp (maxSteps := 2000000) only [zz1, zz2, zz3, Act.put, zz4, zz5, zz6]
      refine wpAnyH_take (i := 21) (v := ?_) rfl (by kernel_rfl) (by kernel_rfl) (by kernel_rfl) (fun _ _ _ h => h) (Or.inl ⟨by first | kernel_rfl | rfl, ?_⟩) (by assumption) ?_
      rotate_left
      · (intro wq hSw; (try dsimp only at hSw); (try simp (maxSteps := 2000000) only [zz1, zz2, zz3]); go_simp); try with_reducible rfl
      try simp (maxSteps := 2000000) only [zz1, zz2, zz3, Act.put, zz4, zz5, zz6]
      refine wpAnyH_take (i := 22) (v := ?_) rfl (by kernel_rfl) (by kernel_rfl) (by kernel_rfl) (fun _ _ _ h => h) (Or.inl ⟨by first | kernel_rfl | rfl, ?_⟩) (by assumption) ?_
      rotate_left
      · (intro wq hSw; (try dsimp only at hSw); (try simp (maxSteps := 2000000) only [zz1, zz2, zz3]); go_simp); try with_reducible rfl
      try simp (maxSteps := 2000000) only [zz1, zz2, zz3, Act.put, zz4, zz5, zz6]
      refine wpAnyH_done (by kernel_rfl) ?_ _
      clear hHeld s0 s11 s12
      refine NoP.normal ?_
      go_wp2_with fail
      exact ⟨⟨i + 1, by omega, by go_num, HM12, HK12⟩, by simp [intOf]; omega⟩
    · have p1 : ¬ (i : Int) < (M : Int) := by omega
      obtain rfl : i = M := by omega
      have bb8 := HK.out.box HD8.out.1 (.inl (HXX.out.1 _ HX1.out.2.2.2.1))
      have bb9 := HK.out.box HD8.out.2.1 (.inl (HXX.out.1 _ HX1.out.2.2.2.2.1))
      have bb10 := HK.out.box HD8.out.2.2 (.inl (HXX.out.1 _ HX1.out.2.2.2.2.2))
      have ne1 : ¬ q8 = q9 ∧ ¬ q8 = q10 ∧ ¬ q9 = q10 ∧ ¬ q9 = q8 ∧ ¬ q10 = q8 ∧ ¬ q10 = q9 := by have := HQ.out; omega
      have HSF : Hid (∀ w' : World, (BoxAt w' q8 #[.slice A3 i c3] ∧ BoxAt w' q9 #[.int .u64 (ct : Int)] ∧ BoxAt w' q10 #[.int .i64 0]) → w'.cell? ⟨q8, 0, none⟩ = some (.slice A3 i c3) ∧ w'.cell? ⟨q9, 0, none⟩ = some (.int .u64 (ct : Int)) ∧ w'.cell? ⟨q10, 0, none⟩ = some (.int .i64 0) ∧ w'.frozen? ⟨q8, 0, none⟩ = false ∧ w'.frozen? ⟨q9, 0, none⟩ = false ∧ w'.frozen? ⟨q10, 0, none⟩ = false) := Lib.hid fun w' h => ⟨h.1.cell 0, h.2.1.cell 0, h.2.2.cell 0, h.1.frozen 0, h.2.1.frozen 0, h.2.2.frozen 0⟩
      have HB1 : Hid (∀ w' : World, (BoxAt w' q8 #[.slice A3 i c3] ∧ BoxAt w' q9 #[.int .u64 (ct : Int)] ∧ BoxAt w' q10 #[.int .i64 0]) → (BoxAt (w'.setCell ⟨q8, 0, none⟩ (.slice A3 i c3)) q8 #[.slice A3 i c3] ∧ BoxAt (w'.setCell ⟨q8, 0, none⟩ (.slice A3 i c3)) q9 #[.int .u64 (ct : Int)] ∧ BoxAt (w'.setCell ⟨q8, 0, none⟩ (.slice A3 i c3)) q10 #[.int .i64 0])) := Lib.hid fun w' h => ⟨h.1.set 0 _, h.2.1.set_other (p := ⟨q8, 0, none⟩) ne1.2.2.2.1 _, h.2.2.set_other (p := ⟨q8, 0, none⟩) ne1.2.2.2.2.1 _⟩
      have HB2 : Hid (∀ w' : World, (BoxAt w' q8 #[.slice A3 i c3] ∧ BoxAt w' q9 #[.int .u64 (ct : Int)] ∧ BoxAt w' q10 #[.int .i64 0]) → (BoxAt (w'.setCell ⟨q9, 0, none⟩ (.int .u64 (ct : Int))) q8 #[.slice A3 i c3] ∧ BoxAt (w'.setCell ⟨q9, 0, none⟩ (.int .u64 (ct : Int))) q9 #[.int .u64 (ct : Int)] ∧ BoxAt (w'.setCell ⟨q9, 0, none⟩ (.int .u64 (ct : Int))) q10 #[.int .i64 0])) := Lib.hid fun w' h => ⟨h.1.set_other (p := ⟨q9, 0, none⟩) ne1.1 _, h.2.1.set 0 _, h.2.2.set_other (p := ⟨q9, 0, none⟩) ne1.2.2.2.2.2 _⟩
      have HB3 : Hid (∀ w' : World, (BoxAt w' q8 #[.slice A3 i c3] ∧ BoxAt w' q9 #[.int .u64 (ct : Int)] ∧ BoxAt w' q10 #[.int .i64 0]) → (BoxAt (w'.setCell ⟨q10, 0, none⟩ (.int .i64 0)) q8 #[.slice A3 i c3] ∧ BoxAt (w'.setCell ⟨q10, 0, none⟩ (.int .i64 0)) q9 #[.int .u64 (ct : Int)] ∧ BoxAt (w'.setCell ⟨q10, 0, none⟩ (.int .i64 0)) q10 #[.int .i64 0])) := Lib.hid fun w' h => ⟨h.1.set_other (p := ⟨q10, 0, none⟩) ne1.2.1 _, h.2.1.set_other (p := ⟨q10, 0, none⟩) ne1.2.2.1 _, h.2.2.set 0 _⟩
      have HE0 := Lib.hid (show BoxAt wr.drew q8 #[.slice A3 i c3] ∧ BoxAt wr.drew q9 #[.int .u64 (ct : Int)] ∧ BoxAt wr.drew q10 #[.int .i64 0] from ⟨bb8.keep rfl, bb9.keep rfl, bb10.keep rfl⟩)
      have HE1 := Lib.hid (HB1.out _ HE0.out)
      have HE2 := Lib.hid (HB2.out _ HE1.out)
      have HE3 := Lib.hid (HB3.out _ HE2.out)
      have s0 := HSF.out _ HE0.out
      clear bb8 bb9 bb10 ne1 HSX HR HCL HMU
      go_wp2_with fail
      refine Code.wp_mono NoP.le ?_
      refine wp_region_held_drew (S := fun w' => w'.cell? ⟨q8, 0, none⟩ = some (.slice A3 i c3) ∧ w'.cell? ⟨q9, 0, none⟩ = some (.int .u64 (ct : Int)) ∧ w'.cell? ⟨q10, 0, none⟩ = some (.int .i64 0) ∧ w'.frozen? ⟨q8, 0, none⟩ = false ∧ w'.frozen? ⟨q9, 0, none⟩ = false ∧ w'.frozen? ⟨q10, 0, none⟩ = false) (by kernel_rfl) (by first | exact s0 | exact HSF.out _ HE1.out | exact HSF.out _ HE2.out | exact HSF.out _ HE3.out) (fun hHeld => ?_)
      refine wpAnyH_take (i := 0) (v := ?_) rfl (by kernel_rfl) (by kernel_rfl) (by kernel_rfl) (fun _ _ _ h => h) (Or.inl ⟨by first | kernel_rfl | rfl, ?_⟩) (by assumption) ?_
      rotate_left
      · (intro wq hSw; (try dsimp only at hSw); (try simp (maxSteps := 2000000) only [zz1, zz2, zz3]); go_simp); try with_reducible rfl
      try simp (maxSteps := 2000000) only [zz1, zz2, zz3, Act.put, zz4, zz5, zz6]
      refine wpAnyH_take (i := 1) (v := ?_) rfl (by kernel_rfl) (by kernel_rfl) (by kernel_rfl) (fun _ _ _ h => h) (Or.inl ⟨by first | kernel_rfl | rfl, ?_⟩) (by assumption) ?_
      rotate_left
      · (intro wq hSw; (try dsimp only at hSw); (try simp (maxSteps := 2000000) only [zz1, zz2, zz3]); go_simp); try with_reducible rfl
      try simp (maxSteps := 2000000) only [zz1, zz2, zz3, Act.put, zz4, zz5, zz6]
      refine wpAnyH_ready (rs := [2]) (by kernel_rfl) (by simp) ?_
      refine AllReadyH.cons rfl (fun K hK => ?_) AllReadyH.nil
      try simp (maxSteps := 2000000) only [zz1, zz2, zz3]
      go_simp
      refine hK.out _ _ (by first | exact s0 | exact HSF.out _ HE1.out | exact HSF.out _ HE2.out | exact HSF.out _ HE3.out) (fun hHeld => ?_)
      clear hK K
      try simp (maxSteps := 2000000) only [zz1, zz2, zz3, Act.put, zz4, zz5, zz6]
      refine wpAnyH_ready (rs := [3]) (by kernel_rfl) (by simp) ?_
      refine AllReadyH.cons rfl (fun K hK => ?_) AllReadyH.nil
      try simp (maxSteps := 2000000) only [zz1, zz2, zz3]
      go_simp
      refine hK.out _ _ (by first | exact s0 | exact HSF.out _ HE1.out | exact HSF.out _ HE2.out | exact HSF.out _ HE3.out) (fun hHeld => ?_)
      clear hK K
      try simp (maxSteps := 2000000) only [zz1, zz2, zz3, Act.put, zz4, zz5, zz6]
      refine wpAnyH_ready (rs := [4]) (by kernel_rfl) (by simp) ?_
      refine AllReadyH.cons rfl (fun K hK => ?_) AllReadyH.nil
      try simp (maxSteps := 2000000) only [zz1, zz2, zz3]
      go_simp
      refine hK.out _ _ (by first | exact s0 | exact HSF.out _ HE1.out | exact HSF.out _ HE2.out | exact HSF.out _ HE3.out) (fun hHeld => ?_)
      clear hK K
      try simp (maxSteps := 2000000) only [zz1, zz2, zz3, Act.put, zz4, zz5, zz6]
      refine wpAnyH_done (by kernel_rfl) ?_ _
      clear hHeld
      refine NoP.normal ?_
      go_wp2_with fail
      refine leaves_cons (f := 179) (args := #[.pointer (some ⟨q10, 0, none⟩), .pointer (some ⟨q, 0, none⟩), .pointer (some ⟨q12, 0, none⟩), .pointer (some ⟨q8, 0, none⟩), .pointer (some ⟨q9, 0, none⟩)]) (by simp) (by simp [go_sem]) ?_
      refine (scw1_ok .returning (HSF.out _ HE3.out).2.2.1).mono ?_
      rintro e u' w'' ⟨rfl, rfl, rfl⟩
      have e8 := (HE3.out.1).cell 0
      have e9 := (HE3.out.2.1).cell 0
      have e10 := (HE3.out.2.2).cell 0
      obtain ⟨wF, hwF⟩ : ∃ wF, ((wr.drew.setCell ⟨q8, 0, none⟩ (.slice A3 i c3)).setCell ⟨q9, 0, none⟩ (.int .u64 (ct : Int))).setCell ⟨q10, 0, none⟩ (.int .i64 0) = wF := ⟨_, rfl⟩
      have hKF : Keep (fun j => j = q8 ∨ j = q9 ∨ j = q10) wr (((wr.drew.setCell ⟨q8, 0, none⟩ (.slice A3 i c3)).setCell ⟨q9, 0, none⟩ (.int .u64 (ct : Int))).setCell ⟨q10, 0, none⟩ (.int .i64 0)) :=
        (((Keep.of_below (F := fun j => j = q8 ∨ j = q9 ∨ j = q10) (Below.refl wr.heap.size wr).drew).setCell (p := ⟨q8, 0, none⟩) (fun _ => .inl rfl) _).setCell (p := ⟨q9, 0, none⟩) (fun _ => .inr (.inl rfl)) _).setCell (p := ⟨q10, 0, none⟩) (fun _ => .inr (.inr rfl)) _
      rw [hwF] at e8 e9 e10 hKF ⊢
      have HFIN : Hid (SWrE P X w0 w a cb bf k m n p o l go gl ct fs np t i xs sts A3 c3 wF) := Lib.hid (by
        have hq := HQ.out
        have h3 := HS3.out
        have h5 := HS5.out
        have h7 := HS7.out
        have h8 := HS8.out
        have hk := HK.out.2
        have hf := hKF.size
        have hw0 : w0.heap.size ≤ w.heap.size := HH.out.bel.size
        refine ⟨hc3, fun j => w2.heap.size ≤ j ∧ j < w3.heap.size, ?_, fun j hj => by omega, ?_, ?_, ?_⟩
        · exact ((HK.out.rd IntR.stable HR8.out (fun j hj => .inl (HXX.out.1 j (HX1.out.2.1 j hj)))).keep IntR.stable hKF (fun j hj e => by have h1 : w2.heap.size ≤ j := hj.1; omega))
        · exact (HP8.out.kp HK.out (fun j hj => .inr (HPB.out j hj))).keep hKF (fun j hj e => by have h1 := HH.out.ltP (HPB.out j hj); omega)
        · exact (HM.out.own hKF (fun j hj => by
            rcases hj with rfl | rfl | rfl
            · exact ⟨HXX.out.1 _ HX1.out.2.2.2.1, by omega⟩
            · exact ⟨HXX.out.1 _ HX1.out.2.2.2.2.1, by omega⟩
            · exact ⟨HXX.out.1 _ HX1.out.2.2.2.2.2, by omega⟩)).sub (fun j hj => hj.elim (fun h => HXX.out.1 j (HX1.out.1 j h)) (fun h => HXX.out.1 j (HX1.out.2.1 j h)))
        · exact (HKX8.out.trans (HK.out.mono fun j hj => .inl (HXX.out.1 j (HX1.out.1 j hj)))).trans ⟨fun j hj => hKF.block j (by have := HH.out.lt hj; omega) (by have := HH.out.lt hj; omega), hf⟩)
      clear hwF hKF
      simp [Leaves, settle, results, Tryz.results116, go_sem, e8, e9, e10]
      exact ⟨A3, c3, rfl, HFIN.out⟩
end
end Go.Proofs.YtcliejdiaohamaaGreat

set_option linter.unusedSimpArgs false
set_option linter.unusedVariables false
namespace Go.Proofs.YtcliejdiaohamaaGreat
open Go.RowKit Go.Cib
attribute [local go_sem] cell_set Later.cell Later.frozen Grw.cell Grw.frozen
section
variable {P X S : Nat → Prop} {w0 w w' : World} {a p o l go gl ct fs np n cb bf k m t : Nat} {sts : List DSt}
set_option maxRecDepth 100000 in
set_option maxHeartbeats 16000000 in
/-- No room. -/
theorem scw_full (h : MidP P X w0 w a cb bf k m n sts) (hP : PoolT w p o l go gl ct fs np t) {va : Value} {A : Option Addr} {size cx : Nat} (hs : size ≤ 100000) (ht : np - t < scN k size) :
    Calls Tryz.prog 116 #[va, .pointer (some ⟨cb, 0, none⟩), .pointer (some ⟨p, 0, none⟩), .slice A size cx] w fun e w' => e = .returned (.tuple #[.slice none 0 0, .int .u64 0, .int .i64 140]) ∧ Below w.heap.size w w' := by
  obtain ⟨q, hq⟩ : ∃ q, w.heap.size = q := ⟨_, rfl⟩
  obtain ⟨q8, hq8⟩ : ∃ q8, q + 1 = q8 := ⟨_, rfl⟩
  obtain ⟨q9, hq9⟩ : ∃ q9, q8 + 1 = q9 := ⟨_, rfl⟩
  obtain ⟨q10, hq10⟩ : ∃ q10, q9 + 1 = q10 := ⟨_, rfl⟩
  have b6 := (((BoxAt.new w #[.pointer (some ⟨p, 0, none⟩)] 73).alloc (.cells #[.slice none 0 0] 46)).alloc (.cells #[.int .u64 0] 22)).alloc (.cells #[.int .i64 0] 33)
  have b8 := ((BoxAt.new (w.alloc (.cells #[.pointer (some ⟨p, 0, none⟩)] 73)) #[.slice none 0 0] 46).alloc (.cells #[.int .u64 0] 22)).alloc (.cells #[.int .i64 0] 33)
  have b9 := (BoxAt.new ((w.alloc (.cells #[.pointer (some ⟨p, 0, none⟩)] 73)).alloc (.cells #[.slice none 0 0] 46)) #[.int .u64 0] 22).alloc (.cells #[.int .i64 0] 33)
  have b10 := BoxAt.new (((w.alloc (.cells #[.pointer (some ⟨p, 0, none⟩)] 73)).alloc (.cells #[.slice none 0 0] 46)).alloc (.cells #[.int .u64 0] 22)) #[.int .i64 0] 33
  have hb0 : Below w.heap.size w ((((w.alloc (.cells #[.pointer (some ⟨p, 0, none⟩)] 73)).alloc (.cells #[.slice none 0 0] 46)).alloc (.cells #[.int .u64 0] 22)).alloc (.cells #[.int .i64 0] 33)) := (by repeat (first | (with_reducible exact Below.refl _ _) | (with_reducible assumption) | (with_reducible refine Below.drew ?_) | (with_reducible refine Below.setCell ?_ ?_ _) | (with_reducible refine Below.alloc ?_ ?_ _) | (with_reducible refine Below.later ?_ ?_ _) | (first | (with_reducible exact Nat.le_refl _) | omega | (simp only [World.size_alloc, World.size_setCell, World.size_drew] <;> omega))))
  obtain ⟨w1, hw1⟩ : ∃ w1, (((w.alloc (.cells #[.pointer (some ⟨p, 0, none⟩)] 73)).alloc (.cells #[.slice none 0 0] 46)).alloc (.cells #[.int .u64 0] 22)).alloc (.cells #[.int .i64 0] 33) = w1 := ⟨_, rfl⟩
  rw [hw1] at b6 b8 b9 b10 hb0
  simp only [World.size_alloc, hq, hq8, hq9, hq10] at b6 b8 b9 b10
  have HQ := Lib.hid (show w.heap.size = q ∧ q8 = q + 1 ∧ q9 = q + 2 ∧ q10 = q + 3 by omega)
  have hsi := scI_nat k size
  have hc1 := scnt_any (h.below' hb0).cod (size := (size : Int)) (Lib.hid (by omega))
  rw [hsi] at hc1
  obtain ⟨M, hM⟩ : ∃ M, scN k size = M := ⟨_, rfl⟩
  rw [hM] at ht hc1
  have HP1 := Lib.hid (hP.below hb0)
  have HB0 := Lib.hid hb0
  have HT := Lib.hid ht
  have HBX := Lib.hid (show BoxAt w1 q #[.pointer (some ⟨p, 0, none⟩)] ∧ BoxAt w1 q8 #[.slice none 0 0] ∧ BoxAt w1 q9 #[.int .u64 0] ∧ BoxAt w1 q10 #[.int .i64 0] from ⟨b6, b8, b9, b10⟩)
  clear h hP hsi hM hb0 b6 b8 b9 b10 ht
  go_enter_defers Tryz.func116, Tryz.ntmps116
  go_wp2_with fail
  refine hc1.mono ?_
  clear hc1 hw1 hq hq8 hq9 hq10
  rintro e w2 ⟨rfl, hb2⟩
  have htk := ptake_full (HP1.out.below hb2) HT.out
  have HB2 := Lib.hid (HB0.out.trans (hb2.mono HB0.out.size))
  have HBX2 := Lib.hid (show BoxAt w2 q #[.pointer (some ⟨p, 0, none⟩)] ∧ BoxAt w2 q8 #[.slice none 0 0] ∧ BoxAt w2 q9 #[.int .u64 0] ∧ BoxAt w2 q10 #[.int .i64 0] from ⟨HBX.out.1.below hb2, HBX.out.2.1.below hb2, HBX.out.2.2.1.below hb2, HBX.out.2.2.2.below hb2⟩)
  have c6 := HBX2.out.1.cell 0
  clear hb2
  go_wp2_with fail
  refine htk.mono ?_
  clear htk c6
  rintro e w3 ⟨rfl, hb3⟩
  have HB3 := Lib.hid (HB2.out.trans (hb3.mono HB2.out.size))
  have ne1 : ¬ q8 = q9 ∧ ¬ q8 = q10 ∧ ¬ q9 = q10 ∧ ¬ q9 = q8 ∧ ¬ q10 = q8 ∧ ¬ q10 = q9 := by have := HQ.out; omega
  have b8 := HBX2.out.2.1.below hb3
  have b9 := HBX2.out.2.2.1.below hb3
  have b10 := HBX2.out.2.2.2.below hb3
  have k8 := b8.cell 0
  have k10 := b10.cell 0
  have z8 := b8.frozen 0
  have z10 := b10.frozen 0
  have n1 := ne1.2.1
  have n2 := ne1.2.2.2.2.1
  clear hb3
  go_wp2_with fail
  have HE0 := Lib.hid (show BoxAt ((w3.setCell ⟨q8, 0, none⟩ (.slice none 0 0)).setCell ⟨q10, 0, none⟩ (.int .i64 140)) q8 #[.slice none 0 0] ∧ BoxAt ((w3.setCell ⟨q8, 0, none⟩ (.slice none 0 0)).setCell ⟨q10, 0, none⟩ (.int .i64 140)) q9 #[.int .u64 0] ∧ BoxAt ((w3.setCell ⟨q8, 0, none⟩ (.slice none 0 0)).setCell ⟨q10, 0, none⟩ (.int .i64 140)) q10 #[.int .i64 140] from
    ⟨(b8.set 0 _).set_other (p := ⟨q10, 0, none⟩) n1 _, (b9.set_other (p := ⟨q8, 0, none⟩) ne1.2.2.2.1 _).set_other (p := ⟨q10, 0, none⟩) ne1.2.2.1 _, (b10.set_other (p := ⟨q8, 0, none⟩) n2 _).set 0 _⟩)
  have hk4 : Below w.heap.size w ((w3.setCell ⟨q8, 0, none⟩ (.slice none 0 0)).setCell ⟨q10, 0, none⟩ (.int .i64 140)) := (HB3.out.setCell (p := ⟨q8, 0, none⟩) (by have := HQ.out; show w.heap.size ≤ q8; omega) _).setCell (p := ⟨q10, 0, none⟩) (by have := HQ.out; show w.heap.size ≤ q10; omega) _
  obtain ⟨w4, hw4⟩ : ∃ w4, (w3.setCell ⟨q8, 0, none⟩ (.slice none 0 0)).setCell ⟨q10, 0, none⟩ (.int .i64 140) = w4 := ⟨_, rfl⟩
  rw [hw4] at HE0 hk4 ⊢
  have HK4 := Lib.hid hk4
  have HSF : Hid (∀ w' : World, (BoxAt w' q8 #[.slice none 0 0] ∧ BoxAt w' q9 #[.int .u64 0] ∧ BoxAt w' q10 #[.int .i64 140]) → w'.cell? ⟨q8, 0, none⟩ = some (.slice none 0 0) ∧ w'.cell? ⟨q9, 0, none⟩ = some (.int .u64 0) ∧ w'.cell? ⟨q10, 0, none⟩ = some (.int .i64 140) ∧ w'.frozen? ⟨q8, 0, none⟩ = false ∧ w'.frozen? ⟨q9, 0, none⟩ = false ∧ w'.frozen? ⟨q10, 0, none⟩ = false) := Lib.hid fun w' h => ⟨h.1.cell 0, h.2.1.cell 0, h.2.2.cell 0, h.1.frozen 0, h.2.1.frozen 0, h.2.2.frozen 0⟩
  have hB1 : ∀ (v : World) (q' : Nat) (u : Value), (BoxAt v q8 #[.slice none 0 0] ∧ BoxAt v q9 #[.int .u64 0] ∧ BoxAt v q10 #[.int .i64 140]) → ((q' = q8 ∧ u = .slice none 0 0) ∨ (q' = q9 ∧ u = .int .u64 0) ∨ (q' = q10 ∧ u = .int .i64 140)) → (BoxAt (v.setCell ⟨q', 0, none⟩ u) q8 #[.slice none 0 0] ∧ BoxAt (v.setCell ⟨q', 0, none⟩ u) q9 #[.int .u64 0] ∧ BoxAt (v.setCell ⟨q', 0, none⟩ u) q10 #[.int .i64 140]) := by
    rintro v q' u ⟨g1, g2, g3⟩ (⟨rfl, rfl⟩ | ⟨rfl, rfl⟩ | ⟨rfl, rfl⟩)
    · exact ⟨g1.set 0 _, g2.set_other (p := ⟨q', 0, none⟩) ne1.2.2.2.1 _, g3.set_other (p := ⟨q', 0, none⟩) ne1.2.2.2.2.1 _⟩
    · exact ⟨g1.set_other (p := ⟨q', 0, none⟩) ne1.1 _, g2.set 0 _, g3.set_other (p := ⟨q', 0, none⟩) ne1.2.2.2.2.2 _⟩
    · exact ⟨g1.set_other (p := ⟨q', 0, none⟩) ne1.2.1 _, g2.set_other (p := ⟨q', 0, none⟩) ne1.2.2.1 _, g3.set 0 _⟩
  have HD0 := Lib.hid (show BoxAt w4.drew q8 #[.slice none 0 0] ∧ BoxAt w4.drew q9 #[.int .u64 0] ∧ BoxAt w4.drew q10 #[.int .i64 140] from ⟨HE0.out.1.keep rfl, HE0.out.2.1.keep rfl, HE0.out.2.2.keep rfl⟩)
  have HD1 := Lib.hid (hB1 _ q8 (.slice none 0 0) HD0.out (.inl ⟨rfl, rfl⟩))
  have HD2 := Lib.hid (hB1 _ q9 (.int .u64 0) HD1.out (.inr (.inl ⟨rfl, rfl⟩)))
  have HD3 := Lib.hid (hB1 _ q10 (.int .i64 140) HD2.out (.inr (.inr ⟨rfl, rfl⟩)))
  have s0 := HSF.out _ HD0.out
  clear hw4 hk4 b8 b9 b10 k8 k10 z8 z10 n1 n2 ne1 hB1
  refine Code.wp_mono NoP.le ?_
  refine wp_region_held_drew (S := fun w' => w'.cell? ⟨q8, 0, none⟩ = some (.slice none 0 0) ∧ w'.cell? ⟨q9, 0, none⟩ = some (.int .u64 0) ∧ w'.cell? ⟨q10, 0, none⟩ = some (.int .i64 140) ∧ w'.frozen? ⟨q8, 0, none⟩ = false ∧ w'.frozen? ⟨q9, 0, none⟩ = false ∧ w'.frozen? ⟨q10, 0, none⟩ = false) (by kernel_rfl) (by first | exact s0 | exact HSF.out _ HD1.out | exact HSF.out _ HD2.out | exact HSF.out _ HD3.out) (fun hHeld => ?_)
  refine wpAnyH_take (i := 0) (v := ?_) rfl (by kernel_rfl) (by kernel_rfl) (by kernel_rfl) (fun _ _ _ h => h) (Or.inl ⟨by first | kernel_rfl | rfl, ?_⟩) (by assumption) ?_
  rotate_left
  · (intro wq hSw; (try dsimp only at hSw); (try simp (maxSteps := 2000000) only [zz1, zz2, zz3]); go_simp); try with_reducible rfl
  try simp (maxSteps := 2000000) only [zz1, zz2, zz3, Act.put, zz4, zz5, zz6]
  refine wpAnyH_ready (rs := [1]) (by kernel_rfl) (by simp) ?_
  refine AllReadyH.cons rfl (fun K hK => ?_) AllReadyH.nil
  try simp (maxSteps := 2000000) only [zz1, zz2, zz3]
  go_simp
  refine hK.out _ _ (by first | exact s0 | exact HSF.out _ HD1.out | exact HSF.out _ HD2.out | exact HSF.out _ HD3.out) (fun hHeld => ?_)
  clear hK K
  try simp (maxSteps := 2000000) only [zz1, zz2, zz3, Act.put, zz4, zz5, zz6]
  refine wpAnyH_ready (rs := [2]) (by kernel_rfl) (by simp) ?_
  refine AllReadyH.cons rfl (fun K hK => ?_) AllReadyH.nil
  try simp (maxSteps := 2000000) only [zz1, zz2, zz3]
  go_simp
  refine hK.out _ _ (by first | exact s0 | exact HSF.out _ HD1.out | exact HSF.out _ HD2.out | exact HSF.out _ HD3.out) (fun hHeld => ?_)
  clear hK K
  try simp (maxSteps := 2000000) only [zz1, zz2, zz3, Act.put, zz4, zz5, zz6]
  refine wpAnyH_ready (rs := [3]) (by kernel_rfl) (by simp) ?_
  refine AllReadyH.cons rfl (fun K hK => ?_) AllReadyH.nil
  try simp (maxSteps := 2000000) only [zz1, zz2, zz3]
  go_simp
  refine hK.out _ _ (by first | exact s0 | exact HSF.out _ HD1.out | exact HSF.out _ HD2.out | exact HSF.out _ HD3.out) (fun hHeld => ?_)
  clear hK K
  try simp (maxSteps := 2000000) only [zz1, zz2, zz3, Act.put, zz4, zz5, zz6]
  refine wpAnyH_done (by kernel_rfl) ?_ _
  clear hHeld
  refine NoP.normal ?_
  go_wp2_with fail
  have e8 : ((((w4.setCell ⟨q8, 0, none⟩ (.slice none 0 0)).setCell ⟨q9, 0, none⟩ (.int .u64 0)).setCell ⟨q10, 0, none⟩ (.int .i64 140)).drew).cell? ⟨q8, 0, none⟩ = some (.slice none 0 0) := (HD3.out.1).cell 0
  have e9 : ((((w4.setCell ⟨q8, 0, none⟩ (.slice none 0 0)).setCell ⟨q9, 0, none⟩ (.int .u64 0)).setCell ⟨q10, 0, none⟩ (.int .i64 140)).drew).cell? ⟨q9, 0, none⟩ = some (.int .u64 0) := (HD3.out.2.1).cell 0
  have e10 : ((((w4.setCell ⟨q8, 0, none⟩ (.slice none 0 0)).setCell ⟨q9, 0, none⟩ (.int .u64 0)).setCell ⟨q10, 0, none⟩ (.int .i64 140)).drew).cell? ⟨q10, 0, none⟩ = some (.int .i64 140) := (HD3.out.2.2).cell 0
  have hkF : Below w.heap.size w ((((w4.setCell ⟨q8, 0, none⟩ (.slice none 0 0)).setCell ⟨q9, 0, none⟩ (.int .u64 0)).setCell ⟨q10, 0, none⟩ (.int .i64 140)).drew) := (((HK4.out.setCell (p := ⟨q8, 0, none⟩) (by have := HQ.out; show w.heap.size ≤ q8; omega) _).setCell (p := ⟨q9, 0, none⟩) (by have := HQ.out; show w.heap.size ≤ q9; omega) _).setCell (p := ⟨q10, 0, none⟩) (by have := HQ.out; show w.heap.size ≤ q10; omega) _).drew
  obtain ⟨wF, hwF⟩ : ∃ wF, (((w4.setCell ⟨q8, 0, none⟩ (.slice none 0 0)).setCell ⟨q9, 0, none⟩ (.int .u64 0)).setCell ⟨q10, 0, none⟩ (.int .i64 140)).drew = wF := ⟨_, rfl⟩
  rw [hwF] at e8 e9 e10 hkF ⊢
  have HKF := Lib.hid hkF
  clear hwF hkF
  simp [bodyPostD, Leaves, settle, results, Tryz.results116, go_sem, e8, e9, e10]
  exact HKF.out
end
end Go.Proofs.YtcliejdiaohamaaGreat

set_option linter.unusedSimpArgs false
set_option linter.unusedVariables false
namespace Go.Proofs.YtcliejdiaohamaaGreat
open Go.RowKit Go.Cib
attribute [local go_sem] cell_set Later.cell Later.frozen Grw.cell Grw.frozen
def scr0 : Value := .agg #[.int .i64 0, .int .u64 0, .int .i64 0, .int .i64 0]
section
variable {P X S : Nat → Prop} {w0 w w' : World} {a p o l go gl ct fs np n cb bf k m t : Nat} {sts : List DSt}
def SputP (P X : Nat → Prop) (w0 w : World) (a cb bf k m n p o l go gl ct fs np t M size : Nat) (xs : List Nat) (sts : List DSt) (e : Ending) (w' : World) : Prop :=
  ∃ A c S', e = .returned (.tuple #[.agg (scC ((fs + t : Nat) : Int) (ct : Int) (M : Int) (size : Int)), .slice A M c, .int .i64 0]) ∧ M ≤ c ∧ RdL IntR 1 S' w' A M (plL (fs + t) M) ∧ (∀ j, S' j → w.heap.size ≤ j ∧ j < w'.heap.size) ∧
    PoolT w' p o l go gl (ct + M) fs np (t + M) ∧ MidP P (fun j => X j ∨ S' j) w0 w' a cb bf k m n (putC n k (k + m) (scRf (fs + t) ct) (scTx k (fs + t) ct M xs) sts M) ∧ KpX X w w'
set_option maxRecDepth 100000 in
set_option maxHeartbeats 16000000 in
theorem scp_any (h : MidP P X w0 w a cb bf k m n sts) (hP : PoolT w p o l go gl ct fs np t) (hPB : ∀ j, PoolB p o l go gl j → P j) {A : Option Addr} {size cx : Nat} {xs : List Nat} (R : RdL ByR 1 S w A size xs) (hSX : ∀ j, S j → X j) (hcx : size ≤ cx) (hs : size ≤ 2000) (hct : ct + scN k size ≤ 1048576) (ht : t + scN k size ≤ np) (hnp : fs + np ≤ n) (hcl : ∀ st ∈ sts, st.cache.length < 800000) (h4 : scN k size ≤ 400) :
    Calls Tryz.prog 44 #[.pointer (some ⟨a, 0, none⟩), .pointer (some ⟨cb, 0, none⟩), .pointer (some ⟨p, 0, none⟩), .slice A size cx] w fun e w' => SputP P X w0 w a cb bf k m n p o l go gl ct fs np t (scN k size) size xs sts e w' := by
  have hpos := h.pos
  have hb0 : Below w.heap.size w (w.alloc (.cells #[.int .i64 0, .int .u64 0, .int .i64 0, .int .i64 0] 24)) := (Below.refl _ _).alloc (Nat.le_refl _) _
  have bB := BoxAt.new w #[.int .i64 0, .int .u64 0, .int .i64 0, .int .i64 0] 24
  have hM1 := h.below hb0
  have hP1 := hP.below hb0
  obtain ⟨w1, hw1⟩ : ∃ w1, w.alloc (.cells #[.int .i64 0, .int .u64 0, .int .i64 0, .int .i64 0] 24) = w1 := ⟨_, rfl⟩
  obtain ⟨q, hq⟩ : ∃ q, w.heap.size = q := ⟨_, rfl⟩
  have hs1 : w1.heap.size = q + 1 := by rw [← hw1, ← hq, World.size_alloc]
  rw [hw1] at hb0 bB hM1 hP1
  rw [hq] at bB
  have han := an_p hM1
  have hcn := fun (w2 : World) (hb : Below w1.heap.size w1 w2) => cn_any (hM1.cod.below hb)
  have hpc := fun (w2 : World) (hb : Below w1.heap.size w1 w2) => (show Calls Tryz.prog 108 #[.pointer (some ⟨p, 0, none⟩)] w2 fun e w' => ∃ z, e = .returned (.pointer (some ⟨z, 0, none⟩)) ∧ Below w2.heap.size w2 w' by
    obtain ⟨wo, wl, h1, _⟩ := hP1
    exact pcopy_any (h1.below hb))
  have hsi := scI_nat k size
  have hct1 := fun (w2 : World) (hb : Below w1.heap.size w1 w2) => scnt_any (hM1.cod.below hb) (size := (size : Int)) (Lib.hid (by omega))
  have hwr := fun (w2 : World) (hb : Below w1.heap.size w1 w2) => scw_any ((hM1.below' hb).sub (Y := fun j => X j ∨ j = q) (fun j hj => by
    rcases hj with hj | hj
    · exact .inl hj
    · exact .inr (by omega))) (hP1.below hb) hPB (R.below ByR.stable (hb0.trans (hb.mono hb0.size))) (fun j hj => .inl (hSX j hj)) hcx hs hct ht hnp hcl
  have hM1p := scN_pos k size
  obtain ⟨M, hM⟩ : ∃ M, scN k size = M := ⟨_, rfl⟩
  obtain ⟨N, hN⟩ : ∃ N, k + m = N := ⟨_, rfl⟩
  rw [hN] at han hcn
  rw [hM] at hwr hsi h4 hM1p ⊢
  rw [hsi] at hct1
  have e0 : ((N : Int) == 0) = false := by simp; omega
  have q4 : ¬ (M : Int) > 400 := by omega
  have HCN := Lib.hid hcn
  have HPC := Lib.hid hpc
  have HCT := Lib.hid hct1
  have HWR := Lib.hid hwr
  have HB0 := Lib.hid hb0
  have BB := Lib.hid bB
  have HH := Lib.hid h
  have HPB := Lib.hid hPB
  have HQ := Lib.hid (show w.heap.size = q ∧ w1.heap.size = q + 1 from ⟨hq, hs1⟩)
  clear h hP hPB R hSX hM1 hP1 hcn hpc hct1 hwr hb0 bB hcl hct ht hM hN hsi hs1
  go_enter Tryz.func44, Tryz.ntmps44
  go_wp2_with fail
  refine han.mono ?_
  clear han hw1
  rintro e w2 ⟨rfl, hb2⟩
  have hcn2 := HCN.out w2 hb2
  have HB2 := Lib.hid hb2
  clear hb2
  go_wp2_with fail
  refine hcn2.mono ?_
  clear hcn2
  rintro e w3 ⟨rfl, hb3⟩
  have HB3 := Lib.hid (HB2.out.trans (hb3.mono HB2.out.size))
  have hpc3 := HPC.out w3 HB3.out
  clear hb3 HB2
  go_wp2_with fail
  refine hpc3.mono ?_
  clear hpc3
  rintro e w4 ⟨zc, rfl, hb4⟩
  have HB4 := Lib.hid (HB3.out.trans (hb4.mono HB3.out.size))
  have hct4 := HCT.out w4 HB4.out
  clear hb4 HB3
  go_wp2_with fail
  refine hct4.mono ?_
  clear hct4
  rintro e w5 ⟨rfl, hb5⟩
  have HB5 := Lib.hid (HB4.out.trans (hb5.mono HB4.out.size))
  have hwr5 := HWR.out w5 HB5.out
  clear hb5 HB4
  go_wp2_with fail
  refine hwr5.mono ?_
  clear hwr5
  rintro e w6 ⟨A6, c6, rfl, hc6, S6, hr6, hS6, hP6, hM6, hK6⟩
  have hqn := HQ.out
  have bB6 := hK6.box (BB.out.below HB5.out) (.inr rfl)
  obtain ⟨ba, oa, rfl, _, hba⟩ := hr6.addr (k := 0) (by omega)
  obtain ⟨x, hx, v1⟩ := int_at1 hr6 (k := 0) (by omega)
  obtain rfl : x = ((fs + t : Nat) : Int) := by
    have h : (plL (fs + t) M)[0]? = some ((fs + t : Nat) : Int) := by unfold plL; rw [List.getElem?_map, List.getElem?_range (by omega)]; rfl
    rw [h] at hx; exact (Option.some.inj hx).symm
  rw [Nat.add_zero] at v1
  obtain ⟨y, hy⟩ : ∃ y, fs + t = y := ⟨_, rfl⟩
  rw [hy] at v1
  have k0 := bB6.cell 0
  have k1 := bB6.cell 1
  have k2 := bB6.cell 2
  have k3 := bB6.cell 3
  have z0 := bB6.frozen 0
  have z1 := bB6.frozen 1
  have z2 := bB6.frozen 2
  have z3 := bB6.frozen 3
  have hl0 : (0 : Int) < (M : Int) := by omega
  have hKq : ∀ (x y z u : Value), Keep (fun j => j = q) w6 ((((w6.setCell ⟨q, 0, none⟩ x).setCell ⟨q, 1, none⟩ y).setCell ⟨q, 2, none⟩ z).setCell ⟨q, 3, none⟩ u) := fun x y z u =>
    ((((Keep.refl (fun j => j = q) w6).setCell (p := ⟨q, 0, none⟩) (fun _ => rfl) x).setCell (p := ⟨q, 1, none⟩) (fun _ => rfl) y).setCell (p := ⟨q, 2, none⟩) (fun _ => rfl) z).setCell (p := ⟨q, 3, none⟩) (fun _ => rfl) u
  have hs15 := HB5.out.size
  have hs56 := hK6.2
  have hSq : ∀ j, S6 j → j ≠ q := fun j hj e => by have := (hS6 j hj).1; omega
  have HFIN : Hid (∀ x y' z u, RdL IntR 1 S6 ((((w6.setCell ⟨q, 0, none⟩ x).setCell ⟨q, 1, none⟩ y').setCell ⟨q, 2, none⟩ z).setCell ⟨q, 3, none⟩ u) (some ⟨ba, oa, none⟩) M (plL (fs + t) M) ∧ (∀ j, S6 j → w.heap.size ≤ j ∧ j < ((((w6.setCell ⟨q, 0, none⟩ x).setCell ⟨q, 1, none⟩ y').setCell ⟨q, 2, none⟩ z).setCell ⟨q, 3, none⟩ u).heap.size) ∧
    PoolT ((((w6.setCell ⟨q, 0, none⟩ x).setCell ⟨q, 1, none⟩ y').setCell ⟨q, 2, none⟩ z).setCell ⟨q, 3, none⟩ u) p o l go gl (ct + M) fs np (t + M) ∧ MidP P (fun j => X j ∨ S6 j) w0 ((((w6.setCell ⟨q, 0, none⟩ x).setCell ⟨q, 1, none⟩ y').setCell ⟨q, 2, none⟩ z).setCell ⟨q, 3, none⟩ u) a cb bf k m n (putC n k (k + m) (scRf (fs + t) ct) (scTx k (fs + t) ct M xs) sts M) ∧ KpX X w ((((w6.setCell ⟨q, 0, none⟩ x).setCell ⟨q, 1, none⟩ y').setCell ⟨q, 2, none⟩ z).setCell ⟨q, 3, none⟩ u)) := Lib.hid fun x y' z u => by
    have hw0 := HH.out.bel.size
    have hz := (hKq x y' z u).size
    refine ⟨hr6.keep IntR.stable (hKq x y' z u) (fun j hj e => hSq j hj e), fun j hj => by have := hS6 j hj; omega, hP6.keep (hKq x y' z u) (fun j hj e => by have h1 := HH.out.ltP (HPB.out j hj); omega), (hM6.own (hKq x y' z u) (fun j hj => by subst hj; exact ⟨.inl (.inr rfl), by omega⟩)).sub (fun j hj => hj.elim (fun h => .inl (.inl h)) .inr), ?_⟩
    exact ((KpX.of_below (HB0.out.trans (HB5.out.mono HB0.out.size)) fun j hj => HH.out.lt hj).trans (hK6.mono fun j hj => .inl hj)).trans ⟨fun j hj => (hKq x y' z u).block j (by have := HH.out.lt hj; omega) (by have := HH.out.lt hj; omega), (hKq x y' z u).size⟩
  have HY := Lib.hid hy
  clear hr6 hS6 hP6 hM6 hK6 hKq bB6 hSq hx
  go_wp2_with fail
  refine bodyPost_ret (v := .tuple #[.agg #[.int .i64 (y : Int), .int .u64 (ct : Int), .int .i64 (M : Int), .int .i64 (size : Int)], .slice (some ⟨ba, oa, none⟩) M c6, .int .i64 0]) (by simp [results, Tryz.results44, go_sem, *]) rfl ?_
  refine ⟨_, c6, S6, ?_, hc6, HFIN.out _ _ _ _⟩
  rw [HY.out]; rfl
end
end Go.Proofs.YtcliejdiaohamaaGreat

set_option linter.unusedSimpArgs false
set_option linter.unusedVariables false
namespace Go.Proofs.YtcliejdiaohamaaGreat
open Go.RowKit Go.Cib
attribute [local go_sem] cell_set Later.cell Later.frozen Grw.cell Grw.frozen
section
variable {w : World}
end
section
variable {P X S : Nat → Prop} {w0 w w' : World} {a p o l go gl ct fs np n cb bf k m t : Nat} {sts : List DSt}
set_option maxRecDepth 100000 in
set_option maxHeartbeats 16000000 in
/-- No room. -/
theorem scp_full (h : MidP P X w0 w a cb bf k m n sts) (hP : PoolT w p o l go gl ct fs np t) {A : Option Addr} {size c : Nat} (hs : size ≤ 100000) (h4 : scN k size ≤ 400) (ht : np - t < scN k size) : Calls Tryz.prog 44 #[.pointer (some ⟨a, 0, none⟩), .pointer (some ⟨cb, 0, none⟩), .pointer (some ⟨p, 0, none⟩), .slice A size c] w fun e w' => e = .returned (.tuple #[scr0, .slice none 0 0, .int .i64 140]) ∧ Below w.heap.size w w' := by
  have hpos := h.pos
  have hb0 : Below w.heap.size w (w.alloc (.cells #[.int .i64 0, .int .u64 0, .int .i64 0, .int .i64 0] 24)) := (Below.refl _ _).alloc (Nat.le_refl _) _
  have bB := BoxAt.new w #[.int .i64 0, .int .u64 0, .int .i64 0, .int .i64 0] 24
  have hM1 := h.below' hb0
  have hP1 := hP.below hb0
  obtain ⟨w1, hw1⟩ : ∃ w1, w.alloc (.cells #[.int .i64 0, .int .u64 0, .int .i64 0, .int .i64 0] 24) = w1 := ⟨_, rfl⟩
  obtain ⟨q, hq⟩ : ∃ q, w.heap.size = q := ⟨_, rfl⟩
  have hq0 : w.heap.size ≤ q := by omega
  rw [hw1] at hb0 bB hM1 hP1
  rw [hq] at bB
  have han := an_p hM1
  have hcn := fun (w2 : World) (hb : Below w1.heap.size w1 w2) => cn_any (hM1.cod.below hb)
  have hpc := fun (w2 : World) (hb : Below w1.heap.size w1 w2) => (show Calls Tryz.prog 108 #[.pointer (some ⟨p, 0, none⟩)] w2 fun e w' => ∃ z, e = .returned (.pointer (some ⟨z, 0, none⟩)) ∧ Below w2.heap.size w2 w' by
    obtain ⟨wo, wl, h1, _⟩ := hP1
    exact pcopy_any (h1.below hb))
  have hsi := scI_nat k size
  have hct1 := fun (w2 : World) (hb : Below w1.heap.size w1 w2) => scnt_any (hM1.cod.below hb) (size := (size : Int)) (Lib.hid (by omega))
  rw [hsi] at hct1
  have hwr := fun (w2 : World) (hb : Below w1.heap.size w1 w2) => scw_full (va := .pointer (some ⟨a, 0, none⟩)) (A := A) (cx := c) (hM1.below' hb) (hP1.below hb) hs ht
  obtain ⟨M, hM⟩ : ∃ M, scN k size = M := ⟨_, rfl⟩
  rw [hM] at hct1 h4
  have q4 : ¬ (M : Int) > 400 := by omega
  have HPC := Lib.hid hpc
  have HCT := Lib.hid hct1
  have HWR := Lib.hid hwr
  obtain ⟨N, hN⟩ : ∃ N, k + m = N := ⟨_, rfl⟩
  rw [hN] at han hcn
  have e0 : ((N : Int) == 0) = false := by simp; omega
  have HB0 := Lib.hid hb0
  have HQ := Lib.hid hq0
  have BB := Lib.hid bB
  have HCN := Lib.hid hcn
  clear hb0 hq0 bB h hM1 hN hpos hcn hP hP1 hpc hct1 hM hsi hwr ht
  unfold scr0
  go_enter Tryz.func44, Tryz.ntmps44
  go_wp2_with fail
  refine han.mono ?_
  clear han hw1
  rintro e w2 ⟨rfl, hb2⟩
  have HB2 := Lib.hid hb2
  clear hb2
  have hcn2 := HCN.out w2 HB2.out
  go_wp2_with fail
  refine hcn2.mono ?_
  clear hcn2
  rintro e w3 ⟨rfl, hb3⟩
  have HB3 := Lib.hid (HB2.out.trans (hb3.mono HB2.out.size))
  clear hb3
  have hpc3 := HPC.out w3 HB3.out
  go_wp2_with fail
  refine hpc3.mono ?_
  clear hpc3
  rintro e w4 ⟨zc, rfl, hb4⟩
  have HB4 := Lib.hid (HB3.out.trans (hb4.mono HB3.out.size))
  have hct4 := HCT.out w4 HB4.out
  clear hb4
  go_wp2_with fail
  refine hct4.mono ?_
  clear hct4
  rintro e w5 ⟨rfl, hb5⟩
  have HB5 := Lib.hid (HB4.out.trans (hb5.mono HB4.out.size))
  clear hb5
  have hwr5 := HWR.out w5 HB5.out
  go_wp2_with fail
  refine hwr5.mono ?_
  clear hwr5
  rintro e w6 ⟨rfl, hb6⟩
  have HB6 := Lib.hid (HB5.out.trans (hb6.mono HB5.out.size))
  clear hb6
  have bB2 := BB.out.below HB6.out
  have HF := Lib.hid (HB0.out.trans (HB6.out.mono HB0.out.size))
  have k0 := bB2.cell 0
  have k1 := bB2.cell 1
  have k2 := bB2.cell 2
  have k3 := bB2.cell 3
  have z0 := bB2.frozen 0
  have z1 := bB2.frozen 1
  have z2 := bB2.frozen 2
  have z3 := bB2.frozen 3
  clear bB2
  go_wp2_with fail
  refine bodyPost_ret (v := .tuple #[.agg #[.int .i64 0, .int .u64 0, .int .i64 0, .int .i64 0], .slice none 0 0, .int .i64 140]) (by simp [results, Tryz.results44, go_sem, *]) rfl ?_
  exact ⟨rfl, (((HF.out.setCell (p := ⟨q, 0, none⟩) HQ.out _).setCell (p := ⟨q, 1, none⟩) HQ.out _).setCell (p := ⟨q, 2, none⟩) HQ.out _).setCell (p := ⟨q, 3, none⟩) HQ.out _⟩
end
end Go.Proofs.YtcliejdiaohamaaGreat

set_option linter.unusedSimpArgs false
set_option linter.unusedVariables false
namespace Go.Proofs.YtcliejdiaohamaaGreat
open Go.RowKit Go.Cib
attribute [local go_sem] cell_set Later.cell Later.frozen Grw.cell Grw.frozen
section
variable {P X S : Nat → Prop} {w0 w w' : World} {a p o l go gl ct fs np n cb bf k m t : Nat} {sts : List DSt}
end
end Go.Proofs.YtcliejdiaohamaaGreat

set_option linter.unusedSimpArgs false
set_option linter.unusedVariables false
namespace Go.Proofs.YtcliejdiaohamaaGreat
open Go.RowKit Go.Cib
attribute [local go_sem] cell_set Later.cell Later.frozen Grw.cell Grw.frozen
section
variable {P X S : Nat → Prop} {w0 w w' : World} {a cb bf k m n : Nat} {sts : List DSt} {r : Ref} {g : Nat → Bool} {xs : List Nat}
set_option maxRecDepth 100000 in
set_option maxHeartbeats 8000000 in
theorem scread_any (h : SMid w0 w a cb bf k m n sts) (hr : r.ok n) (hg : Hid (r.gen < 2 ^ 64)) (hx : Byt xs) (hl : xs.length ≤ k * 44) (hv : Hds g k (k + m) r xs sts) (first : Bool) :
    Calls Tryz.prog 118 #[.pointer (some ⟨a, 0, none⟩), .pointer (some ⟨cb, 0, none⟩), .agg (refC r), .bool first] w fun e w' => GotE w k (cntP g (k + m)) xs.length xs e w' := by
  have hb0 : Below w.heap.size w (w.alloc (.cells (refC r) 41)) := (Below.refl _ _).alloc (Nat.le_refl _) _
  have bB := BoxAt.new w (refC r) 41
  have hM1 := h.below hb0
  obtain ⟨w1, hw1⟩ : ∃ w1, w.alloc (.cells (refC r) 41) = w1 := ⟨_, rfl⟩
  obtain ⟨q, hq⟩ : ∃ q, w.heap.size = q := ⟨_, rfl⟩
  rw [hw1] at hb0 bB hM1
  rw [hq] at bB
  have hgt := get_view hM1 hr hg hx hl hv
  have HB0 := Lib.hid hb0
  have HGT := Lib.hid hgt
  unfold refC at hw1 bB HGT ⊢
  have c0 : w1.cell? ⟨q, 0, none⟩ = some (.int .u8 (r.kind : Int)) ∧ w1.cell? ⟨q, 1, none⟩ = some (.int .i64 (r.place : Int)) ∧ w1.cell? ⟨q, 2, none⟩ = some (.int .u64 (r.gen : Int)) := ⟨bB.cell 0, bB.cell 1, bB.cell 2⟩
  clear h hM1 hgt hb0 bB hv hr hg hl
  go_enter Tryz.func118, Tryz.ntmps118
  go_wp2_with fail
  refine HGT.out.mono ?_
  clear HGT hw1 c0 hq
  rintro e w2 ⟨hb2, ⟨hlt, rfl⟩ | ⟨hle, A2, c2, rfl, hc2, hr2⟩⟩
  · have HB2 := Lib.hid (HB0.out.trans (hb2.mono HB0.out.size))
    clear hb2
    go_wp2_with fail
    go_ret2
    exact ⟨HB2.out, .inl ⟨hlt, rfl⟩⟩
  · have HB2 := Lib.hid (HB0.out.trans (hb2.mono HB0.out.size))
    have HR2 := Lib.hid (hr2.weaken ByR.stable (fun j hj => Nat.le_trans HB0.out.size hj))
    clear hb2 hr2
    go_wp2_with fail
    go_ret2
    exact ⟨HB2.out, .inr ⟨hle, A2, c2, rfl, hc2, HR2.out⟩⟩
set_option maxRecDepth 100000 in
set_option maxHeartbeats 8000000 in
theorem scnext_any {A : Option Addr} {l c : Nat} (R : RdL ByR 1 S w A l xs) (hl : 10 ≤ l) (hl2 : l ≤ 1000) (hc : l ≤ c) :
    Calls Tryz.prog 120 #[.slice A l c] w fun e w' => e = .returned (.agg #[.int .u8 4, .int .i64 (IntKind.i64.wrap (unN ((xs.drop 0).take 2) : Int)), .int .u64 (unN ((xs.drop 2).take 8) : Int)]) ∧ Below w.heap.size w w' := by
  have hb0 : Below w.heap.size w (w.alloc (.cells #[.int .u8 0, .int .i64 0, .int .u64 0] 41)) := (Below.refl _ _).alloc (Nat.le_refl _) _
  have bB := BoxAt.new w #[.int .u8 0, .int .i64 0, .int .u64 0] 41
  obtain ⟨w1, hw1⟩ : ∃ w1, w.alloc (.cells #[.int .u8 0, .int .i64 0, .int .u64 0] 41) = w1 := ⟨_, rfl⟩
  obtain ⟨q, hq⟩ : ∃ q, w.heap.size = q := ⟨_, rfl⟩
  have hq0 : w.heap.size ≤ q := by omega
  rw [hw1] at hb0 bB
  rw [hq] at bB
  have HB0 := Lib.hid hb0
  have HQ := Lib.hid hq0
  have h1 := nget_any (k := 2) (a := 0) (R.below ByR.stable hb0) hc (Nat.le_trans hl2 (by decide)) (by omega) (by omega) (by omega)
  have h2 := nget_any (k := 8) (a := 2) (R.below ByR.stable hb0) hc (Nat.le_trans hl2 (by decide)) (by omega) (by omega) (by omega)
  rw [show ((0 : Nat) : Int) = 0 from rfl, show ((2 : Nat) : Int) = 2 from rfl] at h1
  rw [show ((2 : Nat) : Int) = 2 from rfl, show ((8 : Nat) : Int) = 8 from rfl] at h2
  obtain ⟨x, hx⟩ : ∃ x, unN ((xs.drop 0).take 2) = x := ⟨_, rfl⟩
  obtain ⟨y, hy⟩ : ∃ y, unN ((xs.drop 2).take 8) = y := ⟨_, rfl⟩
  rw [hx] at h1 ⊢
  rw [hy] at h2 ⊢
  obtain ⟨z, hz⟩ : ∃ z, IntKind.i64.wrap (x : Int) = z := ⟨_, rfl⟩
  rw [hz]
  have k0 := bB.cell 0
  have k1 := bB.cell 1
  have k2 := bB.cell 2
  have z0 := bB.frozen 0
  have z1 := bB.frozen 1
  have z2 := bB.frozen 2
  clear hb0 hq0 bB R hx hy
  go_enter Tryz.func120, Tryz.ntmps120
  go_wp2_with fail
  refine h1.mono ?_
  rintro e w2 ⟨rfl, hw2⟩
  rw [hw2]
  clear hw2 h1
  go_wp2_with fail
  refine h2.mono ?_
  rintro e w2 ⟨rfl, hw2⟩
  rw [hw2]
  clear hw2 h2
  go_wp2_with fail
  refine bodyPost_ret (v := .agg #[.int .u8 4, .int .i64 z, .int .u64 (y : Int)]) (by simp [results, Tryz.results120, go_sem, *]) rfl ?_
  exact ⟨rfl, ((HB0.out.setCell (p := ⟨q, 0, none⟩) HQ.out _).setCell (p := ⟨q, 1, none⟩) HQ.out _).setCell (p := ⟨q, 2, none⟩) HQ.out _⟩
set_option maxRecDepth 100000 in
set_option maxHeartbeats 8000000 in
/-- A name that may be one. -/
theorem scright_ok (h : CodAt w cb bf k m) {x1 : Int} {x2 : Int} {ct size : Nat} (hct : ct = scN k size) (h4 : ct ≤ 400) (hs : size ≤ 100000) :
    Calls Tryz.prog 117 #[.pointer (some ⟨cb, 0, none⟩), .agg (scC x1 x2 (ct : Int) (size : Int))] w fun e w' => e = .returned (.bool true) ∧ Below w.heap.size w w' := by
  have hb0 : Below w.heap.size w (w.alloc (.cells (scC x1 x2 (ct : Int) (size : Int)) 24)) := (Below.refl _ _).alloc (Nat.le_refl _) _
  have bB := BoxAt.new w (scC x1 x2 (ct : Int) (size : Int)) 24
  obtain ⟨w1, hw1⟩ : ∃ w1, w.alloc (.cells (scC x1 x2 (ct : Int) (size : Int)) 24) = w1 := ⟨_, rfl⟩
  obtain ⟨q, hq⟩ : ∃ q, w.heap.size = q := ⟨_, rfl⟩
  rw [hw1] at hb0 bB
  rw [hq] at bB
  have hcn := scnt_any ((h.below hb0).below ((Below.refl w1.heap.size w1).drew)) (size := (size : Int)) (Lib.hid (by omega))
  rw [scI_nat, ← hct] at hcn
  have p0 : (0 : Int) ≤ (size : Int) := Int.natCast_nonneg _
  have p1 : (ct : Int) ≤ 400 := by omega
  have HB0 := Lib.hid hb0
  have BB := Lib.hid bB
  clear hb0 bB h hct
  unfold scC at hw1 ⊢
  go_enter Tryz.func117, Tryz.ntmps117
  go_wp2_with fail
  have hd : Below w1.heap.size w1 w1.drew := (Below.refl _ _).drew
  have HSF : Hid (∀ w', Below w1.heap.size w1 w' → w'.cell? ⟨q, 2, none⟩ = some (.int .i64 (ct : Int)) ∧ w'.cell? ⟨q, 3, none⟩ = some (.int .i64 (size : Int))) := Lib.hid fun w' hb => ⟨(BB.out.below hb).cell 2, (BB.out.below hb).cell 3⟩
  clear hw1 hq
  refine wp_region_held_drew (S := fun w' => w'.cell? ⟨q, 2, none⟩ = some (.int .i64 (ct : Int)) ∧ w'.cell? ⟨q, 3, none⟩ = some (.int .i64 (size : Int))) (by kernel_rfl) (by first | exact HSF.out _ hd | exact HSF.out _ hb2) (fun hHeld => ?_)
  refine wpAnyH_take (i := 0) (v := ?_) rfl (by kernel_rfl) (by kernel_rfl) (by kernel_rfl) (fun _ _ _ h => h) (Or.inl ⟨by first | kernel_rfl | rfl, ?_⟩) (by assumption) ?_
  rotate_left
  · (intro wq hSw; (try dsimp only at hSw); (try simp (maxSteps := 2000000) only [zz1, zz2, zz3]); go_simp); try with_reducible rfl
  try simp (maxSteps := 2000000) only [zz1, zz2, zz3, Act.put, zz4, zz5, zz6]
  refine wpAnyH_take (i := 1) (v := ?_) rfl (by kernel_rfl) (by kernel_rfl) (by kernel_rfl) (fun _ _ _ h => h) (Or.inl ⟨by first | kernel_rfl | rfl, ?_⟩) (by assumption) ?_
  rotate_left
  · (intro wq hSw; (try dsimp only at hSw); (try simp (maxSteps := 2000000) only [zz1, zz2, zz3]); go_simp); try with_reducible rfl
  try simp (maxSteps := 2000000) only [zz1, zz2, zz3, Act.put, zz4, zz5, zz6]
  refine wpAnyH_take (i := 2) (v := ?_) rfl (by kernel_rfl) (by kernel_rfl) (by kernel_rfl) (fun _ _ _ h => h) (Or.inl ⟨by first | kernel_rfl | rfl, ?_⟩) (by assumption) ?_
  rotate_left
  · (intro wq hSw; (try dsimp only at hSw); (try simp (maxSteps := 2000000) only [zz1, zz2, zz3]); go_simp); try with_reducible rfl
  try simp (maxSteps := 2000000) only [zz1, zz2, zz3, Act.put, zz4, zz5, zz6]
  refine wpAnyH_take (i := 3) (v := ?_) rfl (by kernel_rfl) (by kernel_rfl) (by kernel_rfl) (fun _ _ _ h => h) (Or.inl ⟨by first | kernel_rfl | rfl, ?_⟩) (by assumption) ?_
  rotate_left
  · (intro wq hSw; (try dsimp only at hSw); (try simp (maxSteps := 2000000) only [zz1, zz2, zz3]); go_simp); try with_reducible rfl
  try simp (maxSteps := 2000000) only [zz1, zz2, zz3, Act.put, zz4, zz5, zz6]
  refine wpAnyH_take (i := 4) (v := ?_) rfl (by kernel_rfl) (by kernel_rfl) (by kernel_rfl) (fun _ _ _ h => h) (Or.inl ⟨by first | kernel_rfl | rfl, ?_⟩) (by assumption) ?_
  rotate_left
  · (intro wq hSw; (try dsimp only at hSw); (try simp (maxSteps := 2000000) only [zz1, zz2, zz3]); go_simp); try with_reducible rfl
  try simp (maxSteps := 2000000) only [zz1, zz2, zz3, Act.put, zz4, zz5, zz6]
  refine wpAnyH_take (i := 5) (v := ?_) rfl (by kernel_rfl) (by kernel_rfl) (by kernel_rfl) (fun _ _ _ h => h) (Or.inl ⟨by first | kernel_rfl | rfl, ?_⟩) (by assumption) ?_
  rotate_left
  · (intro wq hSw; (try dsimp only at hSw); (try simp (maxSteps := 2000000) only [zz1, zz2, zz3]); go_simp); try with_reducible rfl
  try simp (maxSteps := 2000000) only [zz1, zz2, zz3, Act.put, zz4, zz5, zz6]
  refine wpAnyH_take (i := 6) (v := ?_) rfl (by kernel_rfl) (by kernel_rfl) (by kernel_rfl) (fun _ _ _ h => h) (Or.inl ⟨by first | kernel_rfl | rfl, ?_⟩) (by assumption) ?_
  rotate_left
  · (intro wq hSw; (try dsimp only at hSw); (try simp (maxSteps := 2000000) only [zz1, zz2, zz3]); go_simp); try with_reducible rfl
  try simp (maxSteps := 2000000) only [zz1, zz2, zz3, Act.put, zz4, zz5, zz6]
  refine wpAnyH_take (i := 7) (v := ?_) rfl (by kernel_rfl) (by kernel_rfl) (by kernel_rfl) (fun _ _ _ h => h) (Or.inl ⟨by first | kernel_rfl | rfl, ?_⟩) (by assumption) ?_
  rotate_left
  · (intro wq hSw; (try dsimp only at hSw); (try simp (maxSteps := 2000000) only [zz1, zz2, zz3]); go_simp); try with_reducible rfl
  try simp (maxSteps := 2000000) only [zz1, zz2, zz3, Act.put, zz4, zz5, zz6]
  refine wpAnyH_take (i := 8) (v := ?_) rfl (by kernel_rfl) (by kernel_rfl) (by kernel_rfl) (fun _ _ _ h => h) (Or.inl ⟨by first | kernel_rfl | rfl, ?_⟩) (by assumption) ?_
  rotate_left
  · (intro wq hSw; (try dsimp only at hSw); (try simp (maxSteps := 2000000) only [zz1, zz2, zz3]); go_simp); try with_reducible rfl
  try simp (maxSteps := 2000000) only [zz1, zz2, zz3, Act.put, zz4, zz5, zz6]
  refine wpAnyH_take (i := 9) (v := ?_) rfl (by kernel_rfl) (by kernel_rfl) (by kernel_rfl) (fun _ _ _ h => h) (Or.inl ⟨by first | kernel_rfl | rfl, ?_⟩) (by assumption) ?_
  rotate_left
  · (intro wq hSw; (try dsimp only at hSw); (try simp (maxSteps := 2000000) only [zz1, zz2, zz3]); go_simp); try with_reducible rfl
  try simp (maxSteps := 2000000) only [zz1, zz2, zz3, Act.put, zz4, zz5, zz6]
  refine wpAnyH_take (i := 10) (v := ?_) rfl (by kernel_rfl) (by kernel_rfl) (by kernel_rfl) (fun _ _ _ h => h) (Or.inl ⟨by first | kernel_rfl | rfl, ?_⟩) (by assumption) ?_
  rotate_left
  · (intro wq hSw; (try dsimp only at hSw); (try simp (maxSteps := 2000000) only [zz1, zz2, zz3]); go_simp); try with_reducible rfl
  try simp (maxSteps := 2000000) only [zz1, zz2, zz3, Act.put, zz4, zz5, zz6]
  refine wpAnyH_take (i := 11) (v := ?_) rfl (by kernel_rfl) (by kernel_rfl) (by kernel_rfl) (fun _ _ _ h => h) (Or.inl ⟨by first | kernel_rfl | rfl, ?_⟩) (by assumption) ?_
  rotate_left
  · (intro wq hSw; (try dsimp only at hSw); (try simp (maxSteps := 2000000) only [zz1, zz2, zz3]); go_simp); try with_reducible rfl
  try simp (maxSteps := 2000000) only [zz1, zz2, zz3, Act.put, zz4, zz5, zz6]
  refine wpAnyH_take (i := 12) (v := ?_) rfl (by kernel_rfl) (by kernel_rfl) (by kernel_rfl) (fun _ _ _ h => h) (Or.inl ⟨by first | kernel_rfl | rfl, ?_⟩) (by assumption) ?_
  rotate_left
  · (intro wq hSw; (try dsimp only at hSw); (try simp (maxSteps := 2000000) only [zz1, zz2, zz3]); go_simp); try with_reducible rfl
  try simp (maxSteps := 2000000) only [zz1, zz2, zz3, Act.put, zz4, zz5, zz6]
  refine wpAnyH_take (i := 13) (v := ?_) rfl (by kernel_rfl) (by kernel_rfl) (by kernel_rfl) (fun _ _ _ h => h) (Or.inl ⟨by first | kernel_rfl | rfl, ?_⟩) (by assumption) ?_
  rotate_left
  · (intro wq hSw; (try dsimp only at hSw); (try simp (maxSteps := 2000000) only [zz1, zz2, zz3]); go_simp); try with_reducible rfl
  try simp (maxSteps := 2000000) only [zz1, zz2, zz3, Act.put, zz4, zz5, zz6]
  refine wpAnyH_ready (rs := [14]) (by kernel_rfl) (by simp) ?_
  refine AllReadyH.cons rfl (fun K hK => ?_) AllReadyH.nil
  try simp (maxSteps := 2000000) only [zz1, zz2, zz3]
  go_simp
  go_at_call 46
  refine hcn.mono ?_
  clear hcn
  rintro e w2 ⟨rfl, hb⟩
  have hb2 : Below w1.heap.size w1 w2 := hd.trans (hb.mono hd.size)
  clear hb
  try (go_wp2_with fail)
  refine hK.out _ _ (by first | exact HSF.out _ hd | exact HSF.out _ hb2) (fun hHeld => ?_)
  clear hK K
  try simp (maxSteps := 2000000) only [zz1, zz2, zz3, Act.put, zz4, zz5, zz6]
  refine wpAnyH_take (i := 15) (v := ?_) rfl (by kernel_rfl) (by kernel_rfl) (by kernel_rfl) (fun _ _ _ h => h) (Or.inl ⟨by first | kernel_rfl | rfl, ?_⟩) (by assumption) ?_
  rotate_left
  · (intro wq hSw; (try dsimp only at hSw); (try simp (maxSteps := 2000000) only [zz1, zz2, zz3]); go_simp); try with_reducible rfl
  try simp (maxSteps := 2000000) only [zz1, zz2, zz3, Act.put, zz4, zz5, zz6]
  refine wpAnyH_take (i := 16) (v := ?_) rfl (by kernel_rfl) (by kernel_rfl) (by kernel_rfl) (fun _ _ _ h => h) (Or.inl ⟨by first | kernel_rfl | rfl, ?_⟩) (by assumption) ?_
  rotate_left
  · (intro wq hSw; (try dsimp only at hSw); (try simp (maxSteps := 2000000) only [zz1, zz2, zz3]); go_simp); try with_reducible rfl
  try simp (maxSteps := 2000000) only [zz1, zz2, zz3, Act.put, zz4, zz5, zz6]
  refine wpAnyH_take (i := 17) (v := ?_) rfl (by kernel_rfl) (by kernel_rfl) (by kernel_rfl) (fun _ _ _ h => h) (Or.inl ⟨by first | kernel_rfl | rfl, ?_⟩) (by assumption) ?_
  rotate_left
  · (intro wq hSw; (try dsimp only at hSw); (try simp (maxSteps := 2000000) only [zz1, zz2, zz3]); go_simp); try with_reducible rfl
  try simp (maxSteps := 2000000) only [zz1, zz2, zz3, Act.put, zz4, zz5, zz6]
  refine wpAnyH_done (by kernel_rfl) ?_ _
  clear hHeld
  have HB2 := Lib.hid (HB0.out.trans (hb2.mono HB0.out.size))
  go_wp2_with fail
  go_ret
  exact ⟨rfl, HB2.out⟩
end
end Go.Proofs.YtcliejdiaohamaaGreat

set_option linter.unusedSimpArgs false
set_option linter.unusedVariables false
namespace Go.Proofs.YtcliejdiaohamaaGreat
open Go.RowKit Go.Cib
attribute [local go_sem] cell_set Later.cell Later.frozen Grw.cell Grw.frozen
section
variable {P X Y : Nat → Prop} {w0 w w' : World} {a cb bf k m n : Nat} {sts : List DSt}
theorem _root_.Go.Cib.OwnL.kp {T : Type} {R : (Nat → Prop) → World → List Value → T → Prop} {E : TypeId} {s base n : Nat} {S S' : Nat → Prop} {v : Value} {xs : List T} (hR : Stable R) (h : OwnL R E s base S w v n xs) (hk : KpX X w w')
    (hv : ∀ g, v.ownBlock = some g → X g) (hS : ∀ b, S b → b < w.heap.size → X b ∧ S' b) : OwnL R E s base S' w' v n xs := by
  obtain ⟨css, h1, h2, h3, h4, h5⟩ := h
  refine ⟨css, ⟨h1.1, ?_⟩, h2, h3, h4, fun i cs x hc hx => ?_⟩
  · rcases h1.2 with h | ⟨g, cap, cur, rfl, g1, g2, g3⟩
    · exact .inl h
    · exact .inr ⟨g, cap, cur, rfl, g1, (hk.1 g (hv g rfl)).trans g2, g3⟩
  · exact hR _ _ _ _ _ _ (h5 i cs x hc hx) fun b hb hl => ⟨⟨(hS b hb.1 hl).2, hb.2⟩, hk.1 b (hS b hb.1 hl).1⟩
end
/-- A value that was put: the first of its places (from the pool's first), and its bytes. -/
def KbR (k f : Nat) (S : Nat → Prop) (w : World) (cs : List Value) (x : Nat × List Nat) : Prop := ∃ A c, cs = [.slice A (cntN k x.2.length) c, .int .u64 (x.1 : Int), .int .i64 (x.2.length : Int)] ∧ cntN k x.2.length ≤ c ∧ RdL IntR 1 S w A (cntN k x.2.length) (plL (f + x.1) (cntN k x.2.length))
theorem KbR.stable {k f : Nat} : Stable (KbR k f) := fun _ _ _ _ _ _ ⟨A, c, h1, h2, h3⟩ hk => ⟨A, c, h1, h2, h3.stable IntR.stable hk⟩
theorem KbR.one {k f : Nat} : ∀ S w cs x, KbR k f S w cs x → ∀ u ∈ cs, u.oneCell' = true := by
  rintro S w cs x ⟨A, c, rfl, _, _⟩ u hu
  simp at hu
  rcases hu with rfl | rfl | rfl <;> rfl
structure Bks (k f B b : Nat) (X : Nat → Prop) (w : World) (va vh : Value) (na nh : Nat) (ka : List (Nat × List Nat)) (kh : List (List Nat)) : Prop where
  oa : OwnL (KbR k f) 61 3 b (fun j => X j ∧ some j ≠ vh.ownBlock) w va na ka
  oh : OwnL RowR 80 1 b (fun j => j < B) w vh nh kh
  ne : va.ownBlock = none ∨ va.ownBlock ≠ vh.ownBlock
  xa : ∀ g, va.ownBlock = some g → X g
  xh : ∀ g, vh.ownBlock = some g → X g
  xb : ∀ j, j < B → X j
  bb : B ≤ b
section
variable {k f B b na nh : Nat} {X Y : Nat → Prop} {w w' : World} {va vh : Value} {ka : List (Nat × List Nat)} {kh : List (List Nat)}
theorem Bks.nil (hB : B ≤ b) : Bks k f B b (fun j => j < B) w (.slice none 0 0) (.slice none 0 0) 0 0 [] [] where
  oa := OwnL.nil_
  oh := OwnL.nil_
  ne := .inl rfl
  xa g hg := by cases hg
  xh g hg := by cases hg
  xb j hj := hj
  bb := hB
theorem Bks.kp (h : Bks k f B b X w va vh na nh ka kh) (hK : KpX X w w') (hY : ∀ j, X j → Y j) : Bks k f B b Y w' va vh na nh ka kh where
  oa := h.oa.kp KbR.stable hK h.xa fun j hj _ => ⟨hj.1, hY j hj.1, hj.2⟩
  oh := h.oh.kp RowR.stable hK h.xh fun j hj _ => ⟨h.xb j hj, hj⟩
  ne := h.ne
  xa g hg := hY g (h.xa g hg)
  xh g hg := hY g (h.xh g hg)
  xb j hj := hY j (h.xb j hj)
  bb := h.bb
end
end Go.Proofs.YtcliejdiaohamaaGreat
