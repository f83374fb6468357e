/-
  BlobBack, walked.
  A geometry among the arguments; bounds of whole numbers.
  A base and a blob among the arguments.
-/
import Derived.Test.YtcliejdiaohamaaGreatBb14
import Derived.Test.YtcliejdiaohamaaGreatBb15
import Derived.Test.YtcliejdiaohamaaGreatBb3
import Derived.Test.YtcliejdiaohamaaGreatBb2
import Derived.Test.YtcliejdiaohamaaGreatBb4
import Derived.Test.YtcliejdiaohamaaGreatBb7
set_option linter.unusedSimpArgs false
set_option linter.unusedVariables false
namespace Go.Proofs.YtcliejdiaohamaaGreat
open Go.RowKit Go.Cib
attribute [local go_sem] cell_set Later.cell Later.frozen Grw.cell Grw.frozen
theorem bsm_nat {k m f c : Int} (h : bsmB k m f c = true) : ∃ k' m' f' c' : Nat, k = (k' : Int) ∧ m = (m' : Int) ∧ f = (f' : Int) ∧ c = (c' : Int) ∧ 1 ≤ k' ∧ 1 ≤ m' ∧ k' + m' ≤ 10 ∧ f' ≤ 20 ∧ 1 ≤ c' ∧ c' ≤ 60 := by
  have h2 := of_decide_eq_true h
  exact ⟨k.toNat, m.toNat, f.toNat, c.toNat, by omega, by omega, by omega, by omega, by omega, by omega, by omega, by omega, by omega, by omega⟩
theorem rowb_at {S : Nat → Prop} {w : World} {A : Option Addr} {n : Nat} {xs : List (List Nat)} (h : RdL RowR 1 S w A n xs) {i : Nat} (hi : i < n) :
    ∃ b o x A' m c, A = some ⟨b, o, none⟩ ∧ xs[i]? = some x ∧ b < w.heap.size ∧ m ≤ c ∧ RdL ByR 1 S w A' m x ∧ w.cell? ⟨b, o + i, none⟩ = some (.slice A' m c) := by
  obtain ⟨b, o, rfl, _, hb⟩ := h.addr hi
  obtain ⟨hl, cs, _, ⟨A', m, c, h2, hmc, hr⟩, h3⟩ := h.at hi
  subst h2
  refine ⟨b, o, xs[i], A', m, c, rfl, List.getElem?_eq_getElem hl, hb, hmc, hr, ?_⟩
  have := h3 0 _ rfl
  rw [show o + i * 1 + 0 = o + i by omega] at this
  exact this
theorem kb_at {k f : Nat} {S : Nat → Prop} {w : World} {A : Option Addr} {n : Nat} {xs : List (Nat × List Nat)} (h : RdL (KbR k f) 3 S w A n xs) {i : Nat} (hi : i < n) :
    ∃ b o x A' c, A = some ⟨b, o, none⟩ ∧ xs[i]? = some x ∧ b < w.heap.size ∧ cntN k x.2.length ≤ c ∧ RdL IntR 1 S w A' (cntN k x.2.length) (plL (f + x.1) (cntN k x.2.length)) ∧ w.cell? ⟨b, o + i * 3, none⟩ = some (.slice A' (cntN k x.2.length) c) ∧ w.cell? ⟨b, o + i * 3 + 1, none⟩ = some (.int .u64 (x.1 : Int)) ∧ w.cell? ⟨b, o + i * 3 + 2, none⟩ = some (.int .i64 (x.2.length : Int)) := by
  obtain ⟨b, o, rfl, _, hb⟩ := h.addr hi
  obtain ⟨hl, cs, _, ⟨A', c, h2, hmc, hr⟩, h3⟩ := h.at hi
  subst h2
  exact ⟨b, o, xs[i], A', c, rfl, List.getElem?_eq_getElem hl, hb, hmc, hr, h3 0 _ rfl, h3 1 _ rfl, h3 2 _ rfl⟩
theorem right_pl {k a n : Nat} (hk : 1 ≤ k) (hn : n ≤ 400) : rightB k (plL a (cntN k n)) (n : Int) = true := by
  unfold rightB nonB
  rw [plL_len, cntI_nat hk, List.all_eq_true.2 (fun x hx => by obtain ⟨i, _, rfl⟩ := plL_mem hx; exact decide_eq_true (Int.natCast_nonneg _))]
  simp
  omega
theorem cntP_true (N : Nat) : cntP (fun _ => true) N = N := by
  unfold cntP
  rw [List.filter_eq_self.2 (fun _ _ => rfl), List.length_range]
theorem MidP.px {P X : Nat → Prop} {w0 w : World} {a cb bf k m n : Nat} {sts : List DSt} (h : MidP P X w0 w a cb bf k m n sts) {j : Nat} (hj : P j) : ¬ X j := h.2.2.1 j hj
/-- What is kept of each value while values are put. -/
def KbsOk (g : Nat → Bool) (k N f T : Nat) (ks : List (Nat × List Nat)) (sts : List DSt) : Prop := ∀ kb ∈ ks, kb.1 + cntN k kb.2.length ≤ T ∧ kb.2.length ≤ 400 ∧ Byt kb.2 ∧ HdB g k N (f + kb.1) kb.1 (cntN k kb.2.length) kb.2 sts
theorem KbsOk.put {k N n f T : Nat} {ks : List (Nat × List Nat)} {sts : List DSt} {x : List Nat} (h : KbsOk (fun _ => true) k N f T ks sts) (hA : Alv n sts) (hx : Byt x) (hl : x.length ≤ 400) (hn : f + T + cntN k x.length ≤ n) :
    KbsOk (fun _ => true) k N f (T + cntN k x.length) (ks ++ [(T, x)]) (putB n k N (plL (f + T) (cntN k x.length)) T x sts (cntN k x.length)) := fun kb hkb => by
  rcases List.mem_append.1 hkb with h1 | h1
  · obtain ⟨a1, a2, a3, a4⟩ := h kb h1
    exact ⟨by omega, a2, a3, a4.put (n := n) hx hn (by omega)⟩
  · rw [List.mem_singleton.1 h1]
    exact ⟨Nat.le_refl _, hl, hx, HdB.new hA hx hn⟩
set_option maxRecDepth 100000 in
set_option maxHeartbeats 64000000 in
theorem bback_any {w : World} {k m f c : Int} {A1 A2 : Option Addr} {n1 c1 n2 c2 : Nat} {rows : List (List Nat)} {gone : List Int} (R1 : Hid (RdL RowR 1 (fun _ => True) w A1 n1 rows)) (R2 : Hid (RdL IntR 1 (fun _ => True) w A2 n2 gone)) :
    Calls Tryz.prog 10 #[.agg (baseC k m f c), .slice A1 n1 c1, .slice A2 n2 c2] w fun e w' => e = .returned (.bool true) ∧ Below w.heap.size w w' := by
  have hsm := fun w => bsmall_any (w := w) k m f c
  have hb0 : Below w.heap.size w (w.alloc (.cells (baseC k m f c) 76)) := (Below.refl _ _).alloc (Nat.le_refl _) _
  have bB := BoxAt.new w (baseC k m f c) 76
  unfold baseC at hsm hb0 bB ⊢
  go_enter Tryz.func10, Tryz.ntmps10
  obtain ⟨wA, hwA⟩ : ∃ wA, w.alloc (.cells #[.int .i64 k, .int .i64 m, .int .i64 f, .int .i64 c] 76) = wA := ⟨_, rfl⟩
  obtain ⟨q, hq⟩ : ∃ q, w.heap.size = q := ⟨_, rfl⟩
  rw [hwA] at hb0 bB
  rw [hq] at bB
  have HB0 := Lib.hid hb0
  have BB := Lib.hid bB
  have c0 : wA.cell? ⟨q, 0, none⟩ = some (.int .i64 k) ∧ wA.cell? ⟨q, 1, none⟩ = some (.int .i64 m) ∧ wA.cell? ⟨q, 2, none⟩ = some (.int .i64 f) ∧ wA.cell? ⟨q, 3, none⟩ = some (.int .i64 c) := ⟨bB.cell 0, bB.cell 1, bB.cell 2, bB.cell 3⟩
  clear hb0 bB
  go_wp2_with fail
  clear hwA hq
  cases hs : bsmB k m f c with
  | false =>
    rw [hs] at hsm
    refine (hsm _).mono ?_
    clear hsm
    rintro e w1 ⟨rfl, hb1⟩
    have HB1 := Lib.hid (HB0.out.trans (hb1.mono HB0.out.size))
    clear c0
    go_wp2_with fail
    refine bkeeps_any.mono ?_
    rintro e wz ⟨rfl, hbz⟩
    go_wp2_with fail
    go_ret
    exact ⟨rfl, HB1.out.trans (hbz.mono HB1.out.size)⟩
  | true =>
    rw [hs] at hsm
    refine (hsm _).mono ?_
    clear hsm
    rintro e w1 ⟨rfl, hb1⟩
    have HB1 := Lib.hid (HB0.out.trans (hb1.mono HB0.out.size))
    have BB1 := Lib.hid (BB.out.below hb1)
    obtain ⟨k, m, f, c, rfl, rfl, rfl, rfl, k1, m1, km, f20, c1', c60⟩ := bsm_nat hs
    have c1s : w1.cell? ⟨q, 0, none⟩ = some (.int .i64 (k : Int)) ∧ w1.cell? ⟨q, 1, none⟩ = some (.int .i64 (m : Int)) ∧ w1.cell? ⟨q, 2, none⟩ = some (.int .i64 (f : Int)) ∧ w1.cell? ⟨q, 3, none⟩ = some (.int .i64 (c : Int)) := ⟨BB1.out.cell 0, BB1.out.cell 1, BB1.out.cell 2, BB1.out.cell 3⟩
    clear hs hb1 c0 BB
    have p1 : (0 : Int) ≤ (n1 : Int) := Int.natCast_nonneg _
    have p2 : (0 : Int) ≤ (n2 : Int) := Int.natCast_nonneg _
    by_cases g0 : (n1 : Int) > 8
    · go_wp2_with fail
      refine bkeeps_any.mono ?_
      rintro e wz ⟨rfl, hbz⟩
      go_wp2_with fail
      go_ret
      exact ⟨rfl, HB1.out.trans (hbz.mono HB1.out.size)⟩
    by_cases g1 : (n2 : Int) > (m : Int)
    · go_wp2_with fail
      refine bkeeps_any.mono ?_
      rintro e wz ⟨rfl, hbz⟩
      go_wp2_with fail
      go_ret
      exact ⟨rfl, HB1.out.trans (hbz.mono HB1.out.size)⟩
    have hmd := bmade_any (w0 := w1) (w := w1) (k := k) (m := m) (f := f) (c := c) (Below.refl _ _) k1 m1 (by omega) c1' (by omega) (by omega)
    unfold baseC at hmd
    go_wp2_with fail
    refine hmd.mono ?_
    clear hmd c1s
    rintro e w3 ⟨a, cb, bf, p, o, l, go, gl, rfl, hM, hP, hb3⟩
    have HM3 := Lib.hid (show MidP (PoolB p o l go gl) (fun j => j < w1.heap.size) w1 w3 a cb bf k m (f + c) (newS (f + c) (k + m)) from hM)
    have HP3 := Lib.hid (PoolT.new hP)
    have HS3 := Lib.hid hb3.size
    have HR1 := Lib.hid (RdL.bound1 RowR.stable (R1.out.below RowR.stable HB1.out))
    have HR2 := Lib.hid (R2.out.below IntR.stable HB1.out)
    have HQ1 := Lib.hid (show q < w1.heap.size from BB1.out.lt)
    clear hM hP hb3 R1 R2 HB0
    go_wp2_with fail
    have hn1 : n1 ≤ 8 := by omega
    have hn2 : n2 ≤ m := by omega
    go_loopw [10, 11, 12] (fun va vh vi wr => ∃ (i T na ca ch : Nat) (Aa Ah : Option Addr) (X : Nat → Prop) (ks : List (Nat × List Nat)) (sts : List DSt), i ≤ n1 ∧ na ≤ i ∧ vi = .int .i64 i ∧ va = .slice Aa na ca ∧ vh = .slice Ah na ch ∧ T ≤ c ∧ Hid (MidP (PoolB p o l go gl) X w1 wr a cb bf k m (f + c) sts) ∧ Hid (PoolT wr p o l go gl T f c T) ∧ Hid (Bks k f w1.heap.size w3.heap.size X wr (.slice Aa na ca) (.slice Ah na ch) na na ks (ks.map (·.2))) ∧ Hid (Alv (f + c) sts) ∧ Hid (∀ st ∈ sts, st.cache.length < 1 + T) ∧ Hid (KbsOk (fun _ => true) k (k + m) f T ks sts) ∧ Hid (w3.heap.size ≤ wr.heap.size)) (fun _ _ vi _ => n1 - (intOf vi).toNat)
    case atStart =>
      refine ⟨0, 0, 0, 0, 0, none, none, fun j => j < w1.heap.size, [], newS (f + c) (k + m), Nat.zero_le _, Nat.le_refl _, rfl, rfl, rfl, Nat.zero_le _, HM3, HP3, Lib.hid (Bks.nil HS3.out), Lib.hid (Alv.new _ _), Lib.hid (fun st hst => by
        obtain ⟨d, hd, rfl⟩ := List.mem_iff_getElem.1 hst
        rw [(newS_at (List.getElem?_eq_getElem hd)).1]; show 0 < 1 + 0; omega), Lib.hid (fun kb hkb => by cases hkb), Lib.hid (Nat.le_refl _)⟩
    case round =>
      clear HM3 HP3
      obtain ⟨i, T, na, ca, ch, Aa, Ah, X, ks, sts, hi, hna, rfl, rfl, rfl, hTc, HM, HP, HK, HA, HCL, HKB, HSW⟩ := hrel
      have p0 : (0 : Int) ≤ (i : Int) := Int.natCast_nonneg _
      have HBr := Lib.hid HM.out.bel
      have HBW := Lib.hid (HB1.out.trans (HBr.out.mono HB1.out.size))
      have bBr := BB1.out.below HBr.out
      by_cases hlt : i < n1
      · have p4 : (i : Int) < (n1 : Int) := by omega
        obtain ⟨b1, o1, x, Ax, nx, cx, rfl, hx, hb1, hmx, hrx, v0⟩ := rowb_at (HR1.out.below RowR.stable HBr.out) hlt
        have hb1' : b1 < w1.heap.size := by
          obtain ⟨b, o, e, _, hh⟩ := HR1.out.addr hlt
          cases e; exact hh
        by_cases g2 : (nx : Int) > 400
        · go_wp2_with fail
          refine bkeeps_any.mono ?_
          rintro e wz ⟨rfl, hbz⟩
          go_wp2_with fail
          go_ret
          exact ⟨rfl, HBW.out.trans (hbz.mono HBW.out.size)⟩
        have hfr := HP.out.free
        obtain ⟨F1, hF1⟩ : ∃ F1, c - T = F1 := ⟨_, rfl⟩
        rw [hF1] at hfr
        have pn : (0 : Int) ≤ (nx : Int) := Int.natCast_nonneg _
        go_wp2_with fail
        refine hfr.mono ?_
        clear hfr
        rintro e w4 ⟨rfl, hb4⟩
        have HM4 := Lib.hid (HM.out.below' hb4)
        have HP4 := Lib.hid (HP.out.below hb4)
        have HK4 := Lib.hid (HK.out.kp (KpX.of_below hb4 fun j hj => HM.out.lt hj) fun j hj => hj)
        have HRX := Lib.hid (RdL.bound1 ByR.stable (hrx.below ByR.stable hb4))
        have v4 := (hb4.cell (p := ⟨b1, o1 + i, none⟩) hb1).trans v0
        have hxb := by_byt hrx
        have hxl : x.length = nx := hrx.1
        have hp45 := hb4.size
        clear hb4 hrx
        by_cases ht : T + cntN k nx ≤ c
        · obtain ⟨M, hMe⟩ : ∃ M, cntN k nx = M := ⟨_, rfl⟩
          have hpu := bput_at (cx := cx) HM4.out HP4.out (fun j hj => hj) HRX.out (fun j hj => HK.out.xb j hj.1.2) hmx (by omega) (by omega) ht (Nat.le_refl _) (fun st hst => by have := HCL.out st hst; omega)
          have hkb := KbsOk.put (n := f + c) HKB.out HA.out hxb (by omega) (by rw [hxl]; omega)
          have hal := putB_alv (k := k) (N := k + m) (G := T) HA.out hxb (a := f + T) (M := cntN k nx) (by omega) (cntN k nx) (Nat.le_refl _)
          have hca := putB_cache (n := f + c) (k := k) (N := k + m) (ps := plL (f + T) (cntN k nx)) (gen := T) (xs := x) HCL.out (cntN k nx)
          rw [hxl] at hkb
          rw [hMe] at hpu hkb hal hca ht
          obtain ⟨F2, hF2⟩ : ∃ F2, c - (T + M) = F2 := ⟨_, rfl⟩
          have hwF : IntKind.i64.wrap ((F1 : Int) - (M : Int)) = (F2 : Int) := by rw [IntKind.wrap_i64]; omega
          have HPU := Lib.hid hpu
          have HKB2 := Lib.hid hkb
          have HAL := Lib.hid hal
          have HCA := Lib.hid hca
          have HF2 := Lib.hid hF2
          have HME := Lib.hid hMe
          have HXL := Lib.hid hxl
          clear hpu hkb hal hca hF2 hF1 hMe hxl hxb g0 g1 p1 p2
          go_wp2_with fail
          refine HPU.out.mono ?_
          clear HPU
          rintro e w6 ⟨A6, c6, S6, rfl, hc6, hr6, hS6, hP6, hM6, hK6⟩
          have bX := BoxAt.new w6 (blobC A6 M c6 (T : Int) (nx : Int)) 61
          have hb7 : Below w6.heap.size w6 (w6.alloc (.cells (blobC A6 M c6 (T : Int) (nx : Int)) 61)) := (Below.refl _ _).alloc (Nat.le_refl _) _
          obtain ⟨w7, hw7⟩ : ∃ w7, w6.alloc (.cells (blobC A6 M c6 (T : Int) (nx : Int)) 61) = w7 := ⟨_, rfl⟩
          obtain ⟨q7, hq7⟩ : ∃ q7, w6.heap.size = q7 := ⟨_, rfl⟩
          rw [hw7] at bX hb7
          rw [hq7] at bX
          have HM7 := Lib.hid (hM6.below' hb7)
          have HP7 := Lib.hid (hP6.below hb7)
          have HK6 := HK4.out.kp hK6 (Y := fun j => X j ∨ S6 j) (fun j hj => .inl hj)
          have HK7 := Lib.hid (HK6.kp (KpX.of_below hb7 fun j hj => hM6.lt hj) fun j hj => hj)
          have HR7 := Lib.hid (hr6.below IntR.stable hb7)
          have HL4 : Hid (∀ g, (Value.ownBlock (.slice Ah na ch) = some g ∨ Value.ownBlock (.slice Aa na ca) = some g) → g < w4.heap.size) := Lib.hid fun g hg => by
            rcases hg with hg | hg
            · exact (HK4.out.oh.lt g hg).2
            · exact (HK4.out.oa.lt g hg).2
          have HZ : Hid (∀ W, Below w1.heap.size w1 W → RowR (Go.Cib.Rest (fun j => j < w1.heap.size) (.slice Ah na ch)) W [.slice Ax nx cx] x) := Lib.hid fun W hb => ⟨Ax, nx, cx, rfl, hmx, HRX.out.stable ByR.stable fun j hj _ => ⟨⟨hj.1.2, fun e => by have := HS3.out; have := (HK4.out.oh.lt j e.symm).1; have := hj.1.2; omega⟩, by
            rw [hb.block j hj.1.2, HM4.out.bel.block j hj.1.2]⟩⟩
          have HS7 := Lib.hid (fun j (hj : S6 j) => (show w4.heap.size ≤ j ∧ j < w7.heap.size by have := hS6 j hj; have := hb7.size; omega))
          have HSZ7 := Lib.hid (show w4.heap.size ≤ w6.heap.size from hK6.2)
          have HP45 := Lib.hid hp45
          have HS67 := Lib.hid hb7.size
          have hB17 : Below w1.heap.size w1 w7 := HM7.out.bel
          have HBX := Lib.hid bX
          have HY : Hid (∀ W, Below w7.heap.size w7 W → KbR k f (Go.Cib.Rest (fun j => (X j ∨ S6 j) ∧ some j ≠ Value.ownBlock (.slice Ah na ch)) (.slice Aa na ca)) W [.slice A6 M c6, .int .u64 (T : Int), .int .i64 (nx : Int)] (T, x)) := Lib.hid fun W hb => by
            unfold KbR
            rw [show (T, x).2.length = nx from HXL.out, HME.out]
            exact ⟨A6, c6, rfl, hc6, (HR7.out.below IntR.stable hb).weaken IntR.stable fun j hj => ⟨⟨.inr hj, fun e => by have := HL4.out j (.inl e.symm); have := (HS7.out j hj).1; omega⟩, fun e => by have := HL4.out j (.inr e.symm); have := (HS7.out j hj).1; omega⟩⟩
          obtain ⟨X7, hX7⟩ : ∃ X7, (fun j => X j ∨ S6 j) = X7 := ⟨_, rfl⟩
          have HY2 : Hid (∀ W, Below w7.heap.size w7 W → KbR k f (Go.Cib.Rest (fun j => X7 j ∧ some j ≠ Value.ownBlock (.slice Ah na ch)) (.slice Aa na ca)) W [.slice A6 M c6, .int .u64 (T : Int), .int .i64 (nx : Int)] (T, x)) := by rw [← hX7]; exact HY
          rw [hX7] at HM7 HK7
          have HSF : Hid (∀ w', Below w7.heap.size w7 w' → (w'.cell? ⟨q, 0, none⟩ = some (.int .i64 (k : Int)) ∧ w'.cell? ⟨b1, o1 + i, none⟩ = some (.slice Ax nx cx)) ∧ w'.cell? ⟨q7, 0, none⟩ = some (.slice A6 M c6) ∧ w'.cell? ⟨q7, 1, none⟩ = some (.int .u64 (T : Int)) ∧ w'.cell? ⟨q7, 2, none⟩ = some (.int .i64 (nx : Int))) := Lib.hid fun w' hb => by
            have hb17 := hB17.trans (hb.mono hB17.size)
            have bq := BB1.out.below hb17
            have b7 := bX.below hb
            refine ⟨⟨bq.cell 0, ?_⟩, b7.cell 0, b7.cell 1, b7.cell 2⟩
            obtain ⟨b', o', x', A', m', c', e1, _, _, _, _, v'⟩ := rowb_at (HR1.out.below RowR.stable hb17) hlt
            cases e1
            obtain ⟨b'', o'', x'', A'', m'', c'', e1, _, _, _, _, v''⟩ := rowb_at HR1.out hlt
            cases e1
            have hbl := hb17.cell (p := ⟨b1, o1 + i, none⟩) hb1'
            have hbr := HBr.out.cell (p := ⟨b1, o1 + i, none⟩) hb1'
            rw [hbl, ← hbr]; exact v0
          have s7 := (HSF.out w7 (Below.refl _ _)).1
          have hd7 : Below w7.heap.size w7 w7.drew := (Below.refl _ _).drew
          have hcI : cntI k (nx : Int) = (M : Int) := by rw [cntI_nat k1, HME.out]
          clear bX hb7 hP6 hM6 hK6 HK6 hr6 hS6 hB17 HM4 HP4 HK4 HRX HKB HA HCL v0 v4 bBr HY hX7 HM HP HK
          unfold blobC at hw7 ⊢
          go_wp2_with fail
          clear hw7 hq7
          refine wp_region_held_drew (S := fun w' => w'.cell? ⟨q, 0, none⟩ = some (.int .i64 (k : Int)) ∧ w'.cell? ⟨b1, o1 + i, none⟩ = some (.slice Ax nx cx)) (by kernel_rfl) (by first | exact (HSF.out _ hd7).1 | exact (HSF.out _ hb8).1) (fun hHeld => ?_)
          refine wpAnyH_take (i := 0) (v := ?_) rfl (by kernel_rfl) (by kernel_rfl) (by kernel_rfl) (fun _ _ _ h => h) (Or.inl ⟨by first | kernel_rfl | rfl, ?_⟩) (by assumption) ?_
          rotate_left
          · (intro wq hSw; (try dsimp only at hSw); (try simp (maxSteps := 2000000) only [zz1, zz2, zz3]); go_simp); try with_reducible rfl
          try simp (maxSteps := 2000000) only [zz1, zz2, zz3, Act.put, zz4, zz5, zz6]
          refine wpAnyH_take (i := 1) (v := ?_) rfl (by kernel_rfl) (by kernel_rfl) (by kernel_rfl) (fun _ _ _ h => h) (Or.inl ⟨by first | kernel_rfl | rfl, ?_⟩) (by assumption) ?_
          rotate_left
          · (intro wq hSw; (try dsimp only at hSw); (try simp (maxSteps := 2000000) only [zz1, zz2, zz3]); go_simp); try with_reducible rfl
          try simp (maxSteps := 2000000) only [zz1, zz2, zz3, Act.put, zz4, zz5, zz6]
          refine wpAnyH_take (i := 2) (v := ?_) rfl (by kernel_rfl) (by kernel_rfl) (by kernel_rfl) (fun _ _ _ h => h) (Or.inl ⟨by first | kernel_rfl | rfl, ?_⟩) (by assumption) ?_
          rotate_left
          · (intro wq hSw; (try dsimp only at hSw); (try simp (maxSteps := 2000000) only [zz1, zz2, zz3]); go_simp); try with_reducible rfl
          try simp (maxSteps := 2000000) only [zz1, zz2, zz3, Act.put, zz4, zz5, zz6]
          refine wpAnyH_take (i := 3) (v := ?_) rfl (by kernel_rfl) (by kernel_rfl) (by kernel_rfl) (fun _ _ _ h => h) (Or.inl ⟨by first | kernel_rfl | rfl, ?_⟩) (by assumption) ?_
          rotate_left
          · (intro wq hSw; (try dsimp only at hSw); (try simp (maxSteps := 2000000) only [zz1, zz2, zz3]); go_simp); try with_reducible rfl
          try simp (maxSteps := 2000000) only [zz1, zz2, zz3, Act.put, zz4, zz5, zz6]
          refine wpAnyH_take (i := 4) (v := ?_) rfl (by kernel_rfl) (by kernel_rfl) (by kernel_rfl) (fun _ _ _ h => h) (Or.inl ⟨by first | kernel_rfl | rfl, ?_⟩) (by assumption) ?_
          rotate_left
          · (intro wq hSw; (try dsimp only at hSw); (try simp (maxSteps := 2000000) only [zz1, zz2, zz3]); go_simp); try with_reducible rfl
          try simp (maxSteps := 2000000) only [zz1, zz2, zz3, Act.put, zz4, zz5, zz6]
          refine wpAnyH_take (i := 5) (v := ?_) rfl (by kernel_rfl) (by kernel_rfl) (by kernel_rfl) (fun _ _ _ h => h) (Or.inl ⟨by first | kernel_rfl | rfl, ?_⟩) (by assumption) ?_
          rotate_left
          · (intro wq hSw; (try dsimp only at hSw); (try simp (maxSteps := 2000000) only [zz1, zz2, zz3]); go_simp); try with_reducible rfl
          try simp (maxSteps := 2000000) only [zz1, zz2, zz3, Act.put, zz4, zz5, zz6]
          refine wpAnyH_take (i := 6) (v := ?_) rfl (by kernel_rfl) (by kernel_rfl) (by kernel_rfl) (fun _ _ _ h => h) (Or.inl ⟨by first | kernel_rfl | rfl, ?_⟩) (by assumption) ?_
          rotate_left
          · (intro wq hSw; (try dsimp only at hSw); (try simp (maxSteps := 2000000) only [zz1, zz2, zz3]); go_simp); try with_reducible rfl
          try simp (maxSteps := 2000000) only [zz1, zz2, zz3, Act.put, zz4, zz5, zz6]
          refine wpAnyH_ready (rs := [7]) (by kernel_rfl) (by simp) ?_
          refine AllReadyH.cons rfl (fun K hK => ?_) AllReadyH.nil
          try simp (maxSteps := 2000000) only [zz1, zz2, zz3]
          go_simp
          go_at_call 36
          refine (rcnt_any (size := (nx : Int)) k1 (by omega) (by omega)).mono ?_
          rintro e w8 ⟨rfl, hw8⟩
          rw [hcI]
          have hb8 : Below w7.heap.size w7 w8 := by rw [hw8]; exact hd7
          clear hw8
          try (go_wp2_with fail)
          refine hK.out _ _ (by first | exact (HSF.out _ hd7).1 | exact (HSF.out _ hb8).1) (fun hHeld => ?_)
          clear hK K
          try simp (maxSteps := 2000000) only [zz1, zz2, zz3, Act.put, zz4, zz5, zz6]
          refine wpAnyH_take (i := 8) (v := ?_) rfl (by kernel_rfl) (by kernel_rfl) (by kernel_rfl) (fun _ _ _ h => h) (Or.inl ⟨by first | kernel_rfl | rfl, ?_⟩) (by assumption) ?_
          rotate_left
          · (intro wq hSw; (try dsimp only at hSw); (try simp (maxSteps := 2000000) only [zz1, zz2, zz3]); go_simp); try with_reducible rfl
          try simp (maxSteps := 2000000) only [zz1, zz2, zz3, Act.put, zz4, zz5, zz6]
          refine wpAnyH_done (by kernel_rfl) ?_ _
          clear hHeld hcI s7
          have hd8 : Below w7.heap.size w7 w8.drew := hb8.drew
          go_wp2_with fail
          refine wp_region_held_drew (S := fun w' => (w'.cell? ⟨q, 0, none⟩ = some (.int .i64 (k : Int)) ∧ w'.cell? ⟨b1, o1 + i, none⟩ = some (.slice Ax nx cx)) ∧ w'.cell? ⟨q7, 0, none⟩ = some (.slice A6 M c6) ∧ w'.cell? ⟨q7, 1, none⟩ = some (.int .u64 (T : Int)) ∧ w'.cell? ⟨q7, 2, none⟩ = some (.int .i64 (nx : Int))) (by kernel_rfl) (by first | exact HSF.out _ hd8 | exact HSF.out _ hb9 | exact HSF.out _ hb10) (fun hHeld => ?_)
          refine wpAnyH_take (i := 0) (v := ?_) rfl (by kernel_rfl) (by kernel_rfl) (by kernel_rfl) (fun _ _ _ h => h) (Or.inl ⟨by first | kernel_rfl | rfl, ?_⟩) (by assumption) ?_
          rotate_left
          · (intro wq hSw; (try dsimp only at hSw); (try simp (maxSteps := 2000000) only [zz1, zz2, zz3]); go_simp); try with_reducible rfl
          try simp (maxSteps := 2000000) only [zz1, zz2, zz3, Act.put, zz4, zz5, zz6]
          refine wpAnyH_take (i := 2) (v := ?_) rfl (by kernel_rfl) (by kernel_rfl) (by kernel_rfl) (fun _ _ _ h => h) (Or.inl ⟨by first | kernel_rfl | rfl, ?_⟩) (by assumption) ?_
          rotate_left
          · (intro wq hSw; (try dsimp only at hSw); (try simp (maxSteps := 2000000) only [zz1, zz2, zz3]); go_simp); try with_reducible rfl
          try simp (maxSteps := 2000000) only [zz1, zz2, zz3, Act.put, zz4, zz5, zz6]
          refine wpAnyH_take (i := 3) (v := ?_) rfl (by kernel_rfl) (by kernel_rfl) (by kernel_rfl) (fun _ _ _ h => h) (Or.inl ⟨by first | kernel_rfl | rfl, ?_⟩) (by assumption) ?_
          rotate_left
          · (intro wq hSw; (try dsimp only at hSw); (try simp (maxSteps := 2000000) only [zz1, zz2, zz3]); go_simp); try with_reducible rfl
          try simp (maxSteps := 2000000) only [zz1, zz2, zz3, Act.put, zz4, zz5, zz6]
          refine wpAnyH_take (i := 4) (v := ?_) rfl (by kernel_rfl) (by kernel_rfl) (by kernel_rfl) (fun _ _ _ h => h) (Or.inl ⟨by first | kernel_rfl | rfl, ?_⟩) (by assumption) ?_
          rotate_left
          · (intro wq hSw; (try dsimp only at hSw); (try simp (maxSteps := 2000000) only [zz1, zz2, zz3]); go_simp); try with_reducible rfl
          try simp (maxSteps := 2000000) only [zz1, zz2, zz3, Act.put, zz4, zz5, zz6]
          refine wpAnyH_ready (rs := [1]) (by kernel_rfl) (by simp) ?_
          refine AllReadyH.cons rfl (fun K hK => ?_) AllReadyH.nil
          try simp (maxSteps := 2000000) only [zz1, zz2, zz3]
          go_simp
          go_at_call 42
          have hfr := (HP7.out.below hd8).free
          rw [HF2.out] at hfr
          refine hfr.mono ?_
          clear hfr
          rintro e w9 ⟨rfl, hb⟩
          have hb9 : Below w7.heap.size w7 w9 := hd8.trans (hb.mono hd8.size)
          clear hb
          try (go_wp2_with fail)
          refine hK.out _ _ (by first | exact HSF.out _ hd8 | exact HSF.out _ hb9 | exact HSF.out _ hb10) (fun hHeld => ?_)
          clear hK K
          try simp (maxSteps := 2000000) only [zz1, zz2, zz3, Act.put, zz4, zz5, zz6]
          refine wpAnyH_take (i := 5) (v := ?_) rfl (by kernel_rfl) (by kernel_rfl) (by kernel_rfl) (fun _ _ _ h => h) (Or.inl ⟨by first | kernel_rfl | rfl, ?_⟩) (by assumption) ?_
          rotate_left
          · (intro wq hSw; (try dsimp only at hSw); (try simp (maxSteps := 2000000) only [zz1, zz2, zz3]); go_simp); try with_reducible rfl
          try simp (maxSteps := 2000000) only [zz1, zz2, zz3, Act.put, zz4, zz5, zz6]
          refine wpAnyH_take (i := 6) (v := ?_) rfl (by kernel_rfl) (by kernel_rfl) (by kernel_rfl) (fun _ _ _ h => h) (Or.inl ⟨by first | kernel_rfl | rfl, ?_⟩) (by assumption) ?_
          rotate_left
          · (intro wq hSw; (try dsimp only at hSw); (try simp (maxSteps := 2000000) only [zz1, zz2, zz3]); go_simp); try with_reducible rfl
          try simp (maxSteps := 2000000) only [zz1, zz2, zz3, Act.put, zz4, zz5, zz6]
          refine wpAnyH_take (i := 7) (v := ?_) rfl (by kernel_rfl) (by kernel_rfl) (by kernel_rfl) (fun _ _ _ h => h) (Or.inl ⟨by first | kernel_rfl | rfl, ?_⟩) (by assumption) ?_
          rotate_left
          · (intro wq hSw; (try dsimp only at hSw); (try simp (maxSteps := 2000000) only [zz1, zz2, zz3]); go_simp); try with_reducible rfl
          try simp (maxSteps := 2000000) only [zz1, zz2, zz3, Act.put, zz4, zz5, zz6]
          refine wpAnyH_take (i := 8) (v := ?_) rfl (by kernel_rfl) (by kernel_rfl) (by kernel_rfl) (fun _ _ _ h => h) (Or.inl ⟨by first | kernel_rfl | rfl, ?_⟩) (by assumption) ?_
          rotate_left
          · (intro wq hSw; (try dsimp only at hSw); (try simp (maxSteps := 2000000) only [zz1, zz2, zz3]); go_simp); try with_reducible rfl
          try simp (maxSteps := 2000000) only [zz1, zz2, zz3, Act.put, zz4, zz5, zz6]
          refine wpAnyH_ready (rs := [9]) (by kernel_rfl) (by simp) ?_
          refine AllReadyH.cons rfl (fun K hK => ?_) AllReadyH.nil
          try simp (maxSteps := 2000000) only [zz1, zz2, zz3]
          go_simp
          go_at_call 37
          have hri := right_any (c := c6) (gen := (T : Int)) (size := (nx : Int)) (HM7.out.cod.below hb9) (HR7.out.below IntR.stable hb9) (by omega)
          have hrb := right_pl (a := f + T) (n := nx) k1 (by omega)
          rw [HME.out] at hrb
          rw [hrb] at hri
          unfold blobC at hri
          refine hri.mono ?_
          clear hri hrb
          rintro e w10 ⟨rfl, hb⟩
          have hb10 : Below w7.heap.size w7 w10 := hb9.trans (hb.mono hb9.size)
          clear hb
          try (go_wp2_with fail)
          refine hK.out _ _ (by first | exact HSF.out _ hd8 | exact HSF.out _ hb9 | exact HSF.out _ hb10) (fun hHeld => ?_)
          clear hK K
          try simp (maxSteps := 2000000) only [zz1, zz2, zz3, Act.put, zz4, zz5, zz6]
          refine wpAnyH_take (i := 10) (v := ?_) rfl (by kernel_rfl) (by kernel_rfl) (by kernel_rfl) (fun _ _ _ h => h) (Or.inl ⟨by first | kernel_rfl | rfl, ?_⟩) (by assumption) ?_
          rotate_left
          · (intro wq hSw; (try dsimp only at hSw); (try simp (maxSteps := 2000000) only [zz1, zz2, zz3]); go_simp); try with_reducible rfl
          try simp (maxSteps := 2000000) only [zz1, zz2, zz3, Act.put, zz4, zz5, zz6]
          refine wpAnyH_take (i := 11) (v := ?_) rfl (by kernel_rfl) (by kernel_rfl) (by kernel_rfl) (fun _ _ _ h => h) (Or.inl ⟨by first | kernel_rfl | rfl, ?_⟩) (by assumption) ?_
          rotate_left
          · (intro wq hSw; (try dsimp only at hSw); (try simp (maxSteps := 2000000) only [zz1, zz2, zz3]); go_simp); try with_reducible rfl
          try simp (maxSteps := 2000000) only [zz1, zz2, zz3, Act.put, zz4, zz5, zz6]
          refine wpAnyH_take (i := 12) (v := ?_) rfl (by kernel_rfl) (by kernel_rfl) (by kernel_rfl) (fun _ _ _ h => h) (Or.inl ⟨by first | kernel_rfl | rfl, ?_⟩) (by assumption) ?_
          rotate_left
          · (intro wq hSw; (try dsimp only at hSw); (try simp (maxSteps := 2000000) only [zz1, zz2, zz3]); go_simp); try with_reducible rfl
          try simp (maxSteps := 2000000) only [zz1, zz2, zz3, Act.put, zz4, zz5, zz6]
          refine wpAnyH_take (i := 13) (v := ?_) rfl (by kernel_rfl) (by kernel_rfl) (by kernel_rfl) (fun _ _ _ h => h) (Or.inl ⟨by first | kernel_rfl | rfl, ?_⟩) (by assumption) ?_
          rotate_left
          · (intro wq hSw; (try dsimp only at hSw); (try simp (maxSteps := 2000000) only [zz1, zz2, zz3]); go_simp); try with_reducible rfl
          try simp (maxSteps := 2000000) only [zz1, zz2, zz3, Act.put, zz4, zz5, zz6]
          refine wpAnyH_take (i := 14) (v := ?_) rfl (by kernel_rfl) (by kernel_rfl) (by kernel_rfl) (fun _ _ _ h => h) (Or.inl ⟨by first | kernel_rfl | rfl, ?_⟩) (by assumption) ?_
          rotate_left
          · (intro wq hSw; (try dsimp only at hSw); (try simp (maxSteps := 2000000) only [zz1, zz2, zz3]); go_simp); try with_reducible rfl
          try simp (maxSteps := 2000000) only [zz1, zz2, zz3, Act.put, zz4, zz5, zz6]
          refine wpAnyH_take (i := 15) (v := ?_) rfl (by kernel_rfl) (by kernel_rfl) (by kernel_rfl) (fun _ _ _ h => h) (Or.inl ⟨by first | kernel_rfl | rfl, ?_⟩) (by assumption) ?_
          rotate_left
          · (intro wq hSw; (try dsimp only at hSw); (try simp (maxSteps := 2000000) only [zz1, zz2, zz3]); go_simp); try with_reducible rfl
          try simp (maxSteps := 2000000) only [zz1, zz2, zz3, Act.put, zz4, zz5, zz6]
          refine wpAnyH_take (i := 16) (v := ?_) rfl (by kernel_rfl) (by kernel_rfl) (by kernel_rfl) (fun _ _ _ h => h) (Or.inl ⟨by first | kernel_rfl | rfl, ?_⟩) (by assumption) ?_
          rotate_left
          · (intro wq hSw; (try dsimp only at hSw); (try simp (maxSteps := 2000000) only [zz1, zz2, zz3]); go_simp); try with_reducible rfl
          try simp (maxSteps := 2000000) only [zz1, zz2, zz3, Act.put, zz4, zz5, zz6]
          refine wpAnyH_take (i := 17) (v := ?_) rfl (by kernel_rfl) (by kernel_rfl) (by kernel_rfl) (fun _ _ _ h => h) (Or.inl ⟨by first | kernel_rfl | rfl, ?_⟩) (by assumption) ?_
          rotate_left
          · (intro wq hSw; (try dsimp only at hSw); (try simp (maxSteps := 2000000) only [zz1, zz2, zz3]); go_simp); try with_reducible rfl
          try simp (maxSteps := 2000000) only [zz1, zz2, zz3, Act.put, zz4, zz5, zz6]
          refine wpAnyH_take (i := 18) (v := ?_) rfl (by kernel_rfl) (by kernel_rfl) (by kernel_rfl) (fun _ _ _ h => h) (Or.inl ⟨by first | kernel_rfl | rfl, ?_⟩) (by assumption) ?_
          rotate_left
          · (intro wq hSw; (try dsimp only at hSw); (try simp (maxSteps := 2000000) only [zz1, zz2, zz3]); go_simp); try with_reducible rfl
          try simp (maxSteps := 2000000) only [zz1, zz2, zz3, Act.put, zz4, zz5, zz6]
          refine wpAnyH_take (i := 19) (v := ?_) rfl (by kernel_rfl) (by kernel_rfl) (by kernel_rfl) (fun _ _ _ h => h) (Or.inl ⟨by first | kernel_rfl | rfl, ?_⟩) (by assumption) ?_
          rotate_left
          · (intro wq hSw; (try dsimp only at hSw); (try simp (maxSteps := 2000000) only [zz1, zz2, zz3]); go_simp); try with_reducible rfl
          try simp (maxSteps := 2000000) only [zz1, zz2, zz3, Act.put, zz4, zz5, zz6]
          refine wpAnyH_take (i := 20) (v := ?_) rfl (by kernel_rfl) (by kernel_rfl) (by kernel_rfl) (fun _ _ _ h => h) (Or.inl ⟨by first | kernel_rfl | rfl, ?_⟩) (by assumption) ?_
          rotate_left
          · (intro wq hSw; (try dsimp only at hSw); (try simp (maxSteps := 2000000) only [zz1, zz2, zz3]); go_simp); try with_reducible rfl
          try simp (maxSteps := 2000000) only [zz1, zz2, zz3, Act.put, zz4, zz5, zz6]
          refine wpAnyH_take (i := 21) (v := ?_) rfl (by kernel_rfl) (by kernel_rfl) (by kernel_rfl) (fun _ _ _ h => h) (Or.inl ⟨by first | kernel_rfl | rfl, ?_⟩) (by assumption) ?_
          rotate_left
          · (intro wq hSw; (try dsimp only at hSw); (try simp (maxSteps := 2000000) only [zz1, zz2, zz3]); go_simp); try with_reducible rfl
          try simp (maxSteps := 2000000) only [zz1, zz2, zz3, Act.put, zz4, zz5, zz6]
          refine wpAnyH_done (by kernel_rfl) ?_ _
          clear hHeld
          have HMX := Lib.hid (HM7.out.below' hb10)
          have HPX := Lib.hid (HP7.out.below hb10)
          have HKX := Lib.hid (HK7.out.kp (KpX.of_below hb10 fun j hj => HM7.out.lt hj) fun j hj => hj)
          have HYX := Lib.hid (HY2.out _ hb10)
          obtain ⟨⟨s0, s1⟩, s2, s3, s4⟩ := HSF.out _ hb10
          have hsw : w1.heap.size ≤ w10.heap.size ∧ w3.heap.size ≤ w10.heap.size := by
            have h1 := hb10.size; have h2 := HSZ7.out; have h3 := HSW.out; have h4 := HS3.out; have h5 := (HMX.out.bel).size; have h6 := HP45.out; have h7 := HS67.out; omega
          clear hb8 hd8 hb9 hb10 hd7 HSF HM7 HP7 HK7 HY2 HR7
          go_wp2_with (at_builtin; first
            | (refine wpList_push1 KbR.stable KbR.one sl_blob (by rfl) (by rfl) (base := w3.heap.size) (S := fun j => X7 j ∧ some j ≠ Value.ownBlock (.slice Ah na ch)) (cs := #[.slice A6 M c6, .int .u64 (T : Int), .int .i64 (nx : Int)]) (y := (T, x)) (by rfl) (by rfl) HKX.out.oa (by rfl) HYX.out (by unfold maxLen; omega) (by omega) hsw.2 ?_
               intro A8 c8 u8 hc8 own8 hlt8 hb8 hat8
               have HKA := Lib.hid (HKX.out.pushA u8 own8 hat8 hsw.1)
               have HMA := Lib.hid (HMX.out.ownN (Keep.of_grown u8.ok) (fun j hj => ⟨HKX.out.xa j hj.symm, by have := (HKX.out.oa.lt j hj.symm).1; have := HS3.out; omega⟩))
               have HPA := Lib.hid (HPX.out.keep (Keep.of_grown u8.ok) (fun j hj e => HMX.out.px hj (HKX.out.xa j e.symm)))
               have v8 : u8.to.cell? ⟨b1, o1 + i, none⟩ = some (.slice Ax nx cx) := by
                 rw [HMA.out.bel.cell (p := ⟨b1, o1 + i, none⟩) hb1', ← HMX.out.bel.cell (p := ⟨b1, o1 + i, none⟩) hb1']; exact s1
               have hs8 : w3.heap.size ≤ u8.to.heap.size := by have := hsw.2; omega
               clear own8 hb8 hat8 HKX HMX HPX HYX s1 s2 s3 s4)
            | (refine wpList_push1 RowR.stable RowR.one sl_rows (by rfl) (by rfl) (base := w3.heap.size) (S := fun j => j < w1.heap.size) (cs := #[.slice Ax nx cx]) (y := x) (by rfl) (by rfl) HKA.out.oh (by rfl) (HZ.out _ HMA.out.bel) (by unfold maxLen; omega) (by omega) hs8 ?_
               intro A9 c9 u9 hc9 own9 hlt9 hb9 hat9
               have HKC := Lib.hid (HKA.out.pushH u9 own9 hat9 (fun j hj => HMA.out.lt hj))
               have HMC := Lib.hid (HMA.out.ownN (Keep.of_grown u9.ok) (fun j hj => ⟨HKA.out.xh j hj.symm, by have := (HKA.out.oh.lt j hj.symm).1; have := HS3.out; omega⟩))
               have HPC := Lib.hid (HPA.out.keep (Keep.of_grown u9.ok) (fun j hj e => HMA.out.px hj (HKA.out.xh j e.symm)))
               have HS9 := Lib.hid (show w3.heap.size ≤ u9.to.heap.size by omega)
               clear own9 hb9 hat9 HKA HMA HPA v8))
          refine ⟨⟨i + 1, T + M, na + 1, c8, c9, A8, A9, _, ks ++ [(T, x)], _, by omega, by omega, by go_num, rfl, rfl, ht, HMC, HPC, ?_, HAL, ?_, HKB2, HS9⟩, by simp [intOf]; omega⟩
          · rw [List.map_append]; exact HKC
          · exact Lib.hid fun st hst => by have := HCA.out st hst; omega
        · obtain ⟨M, hMe⟩ : ∃ M, cntN k nx = M := ⟨_, rfl⟩
          have hpu := bput_full (cx := cx) HM4.out HP4.out HRX.out (by omega) (by omega)
          unfold blob0 at hpu
          have hcI : cntI k (nx : Int) = (M : Int) := by rw [cntI_nat k1, hMe]
          have hgl : ¬ (M : Int) ≤ (F1 : Int) := by omega
          have hb1w : b1 < w4.heap.size := by have := HM4.out.bel.size; omega
          have HSF : Hid (∀ w', Below w4.heap.size w4 w' → w'.cell? ⟨q, 0, none⟩ = some (.int .i64 (k : Int)) ∧ w'.cell? ⟨b1, o1 + i, none⟩ = some (.slice Ax nx cx)) := Lib.hid fun w' hb =>
            ⟨(BB1.out.below (HM4.out.bel.trans (hb.mono HM4.out.bel.size))).cell 0, (hb.cell (p := ⟨b1, o1 + i, none⟩) hb1w).trans v4⟩
          have HPU := Lib.hid hpu
          have HF1 := Lib.hid hF1
          clear hpu hMe hF1 g0 g1 p1 p2 hxl hxb
          go_wp2_with fail
          refine HPU.out.mono ?_
          clear HPU v4
          rintro e w6 ⟨rfl, hb6⟩
          have hb7 : Below w4.heap.size w4 (w6.alloc (.cells #[.slice none 0 0, .int .u64 0, .int .i64 0] 61)) := hb6.alloc hb6.size _
          obtain ⟨s0, s1⟩ := HSF.out _ hb7.drew
          go_wp2_with fail
          obtain ⟨w7, hw7⟩ : ∃ w7, w6.alloc (.cells #[.slice none 0 0, .int .u64 0, .int .i64 0] 61) = w7 := ⟨_, rfl⟩
          rw [hw7] at hb7 s0 s1 ⊢
          have hd7 : Below w4.heap.size w4 w7.drew := hb7.drew
          have s7 := HSF.out _ hd7
          clear hw7 s0 s1 hb6
          refine wp_region_held_drew (S := fun w' => w'.cell? ⟨q, 0, none⟩ = some (.int .i64 (k : Int)) ∧ w'.cell? ⟨b1, o1 + i, none⟩ = some (.slice Ax nx cx)) (by kernel_rfl) (by first | exact HSF.out _ hd7 | exact HSF.out _ hb8) (fun hHeld => ?_)
          refine wpAnyH_take (i := 0) (v := ?_) rfl (by kernel_rfl) (by kernel_rfl) (by kernel_rfl) (fun _ _ _ h => h) (Or.inl ⟨by first | kernel_rfl | rfl, ?_⟩) (by assumption) ?_
          rotate_left
          · (intro wq hSw; (try dsimp only at hSw); (try simp (maxSteps := 2000000) only [zz1, zz2, zz3]); go_simp); try with_reducible rfl
          try simp (maxSteps := 2000000) only [zz1, zz2, zz3, Act.put, zz4, zz5, zz6]
          refine wpAnyH_take (i := 1) (v := ?_) rfl (by kernel_rfl) (by kernel_rfl) (by kernel_rfl) (fun _ _ _ h => h) (Or.inl ⟨by first | kernel_rfl | rfl, ?_⟩) (by assumption) ?_
          rotate_left
          · (intro wq hSw; (try dsimp only at hSw); (try simp (maxSteps := 2000000) only [zz1, zz2, zz3]); go_simp); try with_reducible rfl
          try simp (maxSteps := 2000000) only [zz1, zz2, zz3, Act.put, zz4, zz5, zz6]
          refine wpAnyH_take (i := 2) (v := ?_) rfl (by kernel_rfl) (by kernel_rfl) (by kernel_rfl) (fun _ _ _ h => h) (Or.inl ⟨by first | kernel_rfl | rfl, ?_⟩) (by assumption) ?_
          rotate_left
          · (intro wq hSw; (try dsimp only at hSw); (try simp (maxSteps := 2000000) only [zz1, zz2, zz3]); go_simp); try with_reducible rfl
          try simp (maxSteps := 2000000) only [zz1, zz2, zz3, Act.put, zz4, zz5, zz6]
          refine wpAnyH_take (i := 3) (v := ?_) rfl (by kernel_rfl) (by kernel_rfl) (by kernel_rfl) (fun _ _ _ h => h) (Or.inl ⟨by first | kernel_rfl | rfl, ?_⟩) (by assumption) ?_
          rotate_left
          · (intro wq hSw; (try dsimp only at hSw); (try simp (maxSteps := 2000000) only [zz1, zz2, zz3]); go_simp); try with_reducible rfl
          try simp (maxSteps := 2000000) only [zz1, zz2, zz3, Act.put, zz4, zz5, zz6]
          refine wpAnyH_take (i := 4) (v := ?_) rfl (by kernel_rfl) (by kernel_rfl) (by kernel_rfl) (fun _ _ _ h => h) (Or.inl ⟨by first | kernel_rfl | rfl, ?_⟩) (by assumption) ?_
          rotate_left
          · (intro wq hSw; (try dsimp only at hSw); (try simp (maxSteps := 2000000) only [zz1, zz2, zz3]); go_simp); try with_reducible rfl
          try simp (maxSteps := 2000000) only [zz1, zz2, zz3, Act.put, zz4, zz5, zz6]
          refine wpAnyH_take (i := 5) (v := ?_) rfl (by kernel_rfl) (by kernel_rfl) (by kernel_rfl) (fun _ _ _ h => h) (Or.inl ⟨by first | kernel_rfl | rfl, ?_⟩) (by assumption) ?_
          rotate_left
          · (intro wq hSw; (try dsimp only at hSw); (try simp (maxSteps := 2000000) only [zz1, zz2, zz3]); go_simp); try with_reducible rfl
          try simp (maxSteps := 2000000) only [zz1, zz2, zz3, Act.put, zz4, zz5, zz6]
          refine wpAnyH_take (i := 6) (v := ?_) rfl (by kernel_rfl) (by kernel_rfl) (by kernel_rfl) (fun _ _ _ h => h) (Or.inl ⟨by first | kernel_rfl | rfl, ?_⟩) (by assumption) ?_
          rotate_left
          · (intro wq hSw; (try dsimp only at hSw); (try simp (maxSteps := 2000000) only [zz1, zz2, zz3]); go_simp); try with_reducible rfl
          try simp (maxSteps := 2000000) only [zz1, zz2, zz3, Act.put, zz4, zz5, zz6]
          refine wpAnyH_ready (rs := [7]) (by kernel_rfl) (by simp) ?_
          refine AllReadyH.cons rfl (fun K hK => ?_) AllReadyH.nil
          try simp (maxSteps := 2000000) only [zz1, zz2, zz3]
          go_simp
          go_at_call 36
          refine (rcnt_any (size := (nx : Int)) k1 (by omega) (by omega)).mono ?_
          rintro e w8 ⟨rfl, hw8⟩
          rw [hcI]
          have hb8 : Below w4.heap.size w4 w8 := by rw [hw8]; exact hd7
          clear hw8
          try (go_wp2_with fail)
          refine hK.out _ _ (by first | exact HSF.out _ hd7 | exact HSF.out _ hb8) (fun hHeld => ?_)
          clear hK K
          try simp (maxSteps := 2000000) only [zz1, zz2, zz3, Act.put, zz4, zz5, zz6]
          refine wpAnyH_take (i := 8) (v := ?_) rfl (by kernel_rfl) (by kernel_rfl) (by kernel_rfl) (fun _ _ _ h => h) (Or.inl ⟨by first | kernel_rfl | rfl, ?_⟩) (by assumption) ?_
          rotate_left
          · (intro wq hSw; (try dsimp only at hSw); (try simp (maxSteps := 2000000) only [zz1, zz2, zz3]); go_simp); try with_reducible rfl
          try simp (maxSteps := 2000000) only [zz1, zz2, zz3, Act.put, zz4, zz5, zz6]
          refine wpAnyH_done (by kernel_rfl) ?_ _
          clear hHeld hcI s7
          have hfr := (HP4.out.below hb8).free
          rw [HF1.out] at hfr
          go_wp2_with fail
          refine hfr.mono ?_
          clear hfr
          rintro e w9 ⟨rfl, hb⟩
          have hb9 := hb8.trans (hb.mono hb8.size)
          have HM9 := Lib.hid (HM4.out.below' hb9)
          have HP9 := Lib.hid (HP4.out.below hb9)
          have HK9 := Lib.hid (HK4.out.kp (KpX.of_below hb9 fun j hj => HM4.out.lt hj) fun j hj => hj)
          have HS9 := Lib.hid (show w3.heap.size ≤ w9.heap.size by have h1 := hb9.size; have h2 := HSW.out; omega)
          clear hb hb7 hb8 hb9 hd7 HSF HM4 HP4 HK4 HM HP HK
          go_wp2_with fail
          exact ⟨⟨i + 1, T, na, ca, ch, Aa, Ah, X, ks, sts, by omega, by omega, by go_num, rfl, rfl, hTc, HM9, HP9, HK9, HA, HCL, HKB, HS9⟩, by simp [intOf]; omega⟩
      · have p4 : ¬ (i : Int) < (n1 : Int) := by omega
        have hd : Below wr.heap.size wr wr.drew := (Below.refl _ _).drew
        have hMd := HM.out.below' hd
        have hfl := flush_p hMd (fun st hst => by have := HCL.out st hst; omega)
        rw [HA.out.count, HM.out.len] at hfl
        have HFL := Lib.hid hfl
        have HKd := Lib.hid (HK.out.kp (KpX.of_below hd fun j hj => HM.out.lt hj) fun j hj => hj)
        have bBd := bBr.below hd
        have s0 : wr.drew.cell? ⟨q, 0, none⟩ = some (.int .i64 (k : Int)) ∧ wr.drew.cell? ⟨q, 1, none⟩ = some (.int .i64 (m : Int)) := ⟨bBd.cell 0, bBd.cell 1⟩
        have BBD := Lib.hid bBd
        have hwk : IntKind.i64.wrap ((k : Int) + (m : Int)) = ((k + m : Nat) : Int) := by rw [IntKind.wrap_i64]; omega
        obtain ⟨N, hN⟩ : ∃ N, k + m = N := ⟨_, rfl⟩
        have HXQ := Lib.hid (HK.out.xb q HQ1.out)
        have HHN := Lib.hid hN
        clear hMd hfl bBr bBd
        go_wp2_with fail
        rw [hN] at hwk
        refine wp_region_held_drew (S := fun w' => w'.cell? ⟨q, 0, none⟩ = some (.int .i64 (k : Int)) ∧ w'.cell? ⟨q, 1, none⟩ = some (.int .i64 (m : Int))) (by kernel_rfl) (by first | exact s0 | exact s9) (fun hHeld => ?_)
        refine wpAnyH_take (i := 0) (v := ?_) rfl (by kernel_rfl) (by kernel_rfl) (by kernel_rfl) (fun _ _ _ h => h) (Or.inl ⟨by first | kernel_rfl | rfl, ?_⟩) (by assumption) ?_
        rotate_left
        · (intro wq hSw; (try dsimp only at hSw); (try simp (maxSteps := 2000000) only [zz1, zz2, zz3]); go_simp); try with_reducible rfl
        try simp (maxSteps := 2000000) only [zz1, zz2, zz3, Act.put, zz4, zz5, zz6]
        refine wpAnyH_take (i := 2) (v := ?_) rfl (by kernel_rfl) (by kernel_rfl) (by kernel_rfl) (fun _ _ _ h => h) (Or.inl ⟨by first | kernel_rfl | rfl, ?_⟩) (by assumption) ?_
        rotate_left
        · (intro wq hSw; (try dsimp only at hSw); (try simp (maxSteps := 2000000) only [zz1, zz2, zz3]); go_simp); try with_reducible rfl
        try simp (maxSteps := 2000000) only [zz1, zz2, zz3, Act.put, zz4, zz5, zz6]
        refine wpAnyH_take (i := 3) (v := ?_) rfl (by kernel_rfl) (by kernel_rfl) (by kernel_rfl) (fun _ _ _ h => h) (Or.inl ⟨by first | kernel_rfl | rfl, ?_⟩) (by assumption) ?_
        rotate_left
        · (intro wq hSw; (try dsimp only at hSw); (try simp (maxSteps := 2000000) only [zz1, zz2, zz3]); go_simp); try with_reducible rfl
        try simp (maxSteps := 2000000) only [zz1, zz2, zz3, Act.put, zz4, zz5, zz6]
        refine wpAnyH_take (i := 4) (v := ?_) rfl (by kernel_rfl) (by kernel_rfl) (by kernel_rfl) (fun _ _ _ h => h) (Or.inl ⟨by first | kernel_rfl | rfl, ?_⟩) (by assumption) ?_
        rotate_left
        · (intro wq hSw; (try dsimp only at hSw); (try simp (maxSteps := 2000000) only [zz1, zz2, zz3]); go_simp); try with_reducible rfl
        try simp (maxSteps := 2000000) only [zz1, zz2, zz3, Act.put, zz4, zz5, zz6]
        refine wpAnyH_take (i := 5) (v := ?_) rfl (by kernel_rfl) (by kernel_rfl) (by kernel_rfl) (fun _ _ _ h => h) (Or.inl ⟨by first | kernel_rfl | rfl, ?_⟩) (by assumption) ?_
        rotate_left
        · (intro wq hSw; (try dsimp only at hSw); (try simp (maxSteps := 2000000) only [zz1, zz2, zz3]); go_simp); try with_reducible rfl
        try simp (maxSteps := 2000000) only [zz1, zz2, zz3, Act.put, zz4, zz5, zz6]
        refine wpAnyH_take (i := 6) (v := ?_) rfl (by kernel_rfl) (by kernel_rfl) (by kernel_rfl) (fun _ _ _ h => h) (Or.inl ⟨by first | kernel_rfl | rfl, ?_⟩) (by assumption) ?_
        rotate_left
        · (intro wq hSw; (try dsimp only at hSw); (try simp (maxSteps := 2000000) only [zz1, zz2, zz3]); go_simp); try with_reducible rfl
        try simp (maxSteps := 2000000) only [zz1, zz2, zz3, Act.put, zz4, zz5, zz6]
        refine wpAnyH_ready (rs := [1]) (by kernel_rfl) (by simp) ?_
        refine AllReadyH.cons rfl (fun K hK => ?_) AllReadyH.nil
        try simp (maxSteps := 2000000) only [zz1, zz2, zz3]
        go_simp
        go_at_call 23
        refine HFL.out.mono ?_
        clear HFL
        rintro e w9 ⟨rfl, hM9, hK9⟩
        rw [HHN.out]
        have bB9 := hK9.box BBD.out (.inl HXQ.out)
        have s9 : w9.cell? ⟨q, 0, none⟩ = some (.int .i64 (k : Int)) ∧ w9.cell? ⟨q, 1, none⟩ = some (.int .i64 (m : Int)) := ⟨bB9.cell 0, bB9.cell 1⟩
        have HM9 := Lib.hid hM9
        have HK9 := Lib.hid (HKd.out.kp (hK9.mono fun j hj => .inl hj) fun j hj => hj)
        clear hM9 hK9 bB9
        try (go_wp2_with fail)
        refine hK.out _ _ (by first | exact s0 | exact s9) (fun hHeld => ?_)
        clear hK K
        try simp (maxSteps := 2000000) only [zz1, zz2, zz3, Act.put, zz4, zz5, zz6]
        refine wpAnyH_take (i := 7) (v := ?_) rfl (by kernel_rfl) (by kernel_rfl) (by kernel_rfl) (fun _ _ _ h => h) (Or.inl ⟨by first | kernel_rfl | rfl, ?_⟩) (by assumption) ?_
        rotate_left
        · (intro wq hSw; (try dsimp only at hSw); (try simp (maxSteps := 2000000) only [zz1, zz2, zz3]); go_simp); try with_reducible rfl
        try simp (maxSteps := 2000000) only [zz1, zz2, zz3, Act.put, zz4, zz5, zz6]
        refine wpAnyH_done (by kernel_rfl) ?_ _
        clear hHeld s0 s9 hwk hN
        have HKB9 : Hid (KbsOk (fun _ => true) k (k + m) f T ks (sts.map flushG)) := Lib.hid fun kb hkb => by
          obtain ⟨a1, a2, a3, a4⟩ := HKB.out kb hkb
          exact ⟨a1, a2, a3, a4.flush (n := f + c) (by omega) HA.out⟩
        clear HM HP HK HKd HA HCL HKB HSW
        go_wp2_with fail
        go_loopw [17] (fun vd wr => ∃ (d : Nat) (sts' : List DSt), d ≤ n2 ∧ vd = .int .i64 d ∧ Hid (MidP (PoolB p o l go gl) X w1 wr a cb bf k m (f + c) sts') ∧ Hid (Bks k f w1.heap.size w3.heap.size X wr (.slice Aa na ca) (.slice Ah na ch) na na ks (ks.map (·.2))) ∧ Hid (KbsOk (butL (fun _ => true) (gone.take d)) k (k + m) f T ks sts')) (fun vd _ => n2 - (intOf vd).toNat)
        case atStart => exact ⟨0, _, Nat.zero_le _, rfl, HM9, HK9, HKB9⟩
        case round =>
          clear HM9 HK9 HKB9 HBr HBW
          obtain ⟨d, sts', hd2, rfl, HM, HK, HKB⟩ := hrel
          have pd : (0 : Int) ≤ (d : Int) := Int.natCast_nonneg _
          by_cases hlt2 : d < n2
          · have pd2 : (d : Int) < (n2 : Int) := by omega
            obtain ⟨b2, o2, rfl, _, hb2⟩ := (HR2.out.below IntR.stable HM.out.bel).addr hlt2
            obtain ⟨y, hy, v2⟩ := int_at1 (HR2.out.below IntR.stable HM.out.bel) hlt2
            have HTK := Lib.hid (show gone.take (d + 1) = gone.take d ++ [y] by rw [List.take_add_one, hy]; rfl)
            clear hy
            go_wp2_with fail
            refine (fail_p HM.out y).mono ?_
            rintro e w10 ⟨rfl, hM10, hK10⟩
            have HM10 := Lib.hid hM10
            have HK10 := Lib.hid (HK.out.kp (hK10.mono fun j hj => .inl hj) fun j hj => hj)
            have HKB10 : Hid (KbsOk (butL (fun _ => true) (gone.take (d + 1))) k (k + m) f T ks (failA (f + c) sts' y)) := Lib.hid fun kb hkb => by
              obtain ⟨a1, a2, a3, a4⟩ := HKB.out kb hkb
              rw [HTK.out, butL_snoc]
              exact ⟨a1, a2, a3, a4.fail (by omega) y⟩
            clear hM10 hK10 HM HK HKB v2
            go_wp2_with fail
            exact ⟨⟨d + 1, _, by omega, by go_num, HM10, HK10, HKB10⟩, by simp [intOf]; omega⟩
          · have pd2 : ¬ (d : Int) < (n2 : Int) := by omega
            obtain rfl : d = n2 := by omega
            have HGT := Lib.hid (show gone.take d = gone from List.take_of_length_le (by rw [HR2.out.1]; exact Nat.le_refl _))
            have HGL := Lib.hid (show gone.length = d from HR2.out.1)
            obtain ⟨_, _, eA, _, hrA⟩ := HK.out.oa.rd (S' := fun _ => True) (fun _ _ => trivial) (fun cs x hx => KbR.stable _ _ _ _ _ _ hx fun _ _ _ => ⟨trivial, rfl⟩)
            obtain ⟨_, _, eH, _, hrH⟩ := HK.out.oh.rd (S' := fun _ => True) (fun _ _ => trivial) (fun cs x hx => RowR.stable _ _ _ _ _ _ hx fun _ _ _ => ⟨trivial, rfl⟩)
            cases eA
            cases eH
            have HRA := Lib.hid hrA
            have HRH := Lib.hid hrH
            have HWB := Lib.hid (HB1.out.trans (HM.out.bel.mono HB1.out.size))
            clear hrA hrH HK
            obtain ⟨wo, rfl⟩ : ∃ wo, wo = wr := ⟨_, rfl⟩
            go_wp2_with fail
            go_loopw [18] (fun vj wq => ∃ (j : Nat), j ≤ na ∧ vj = .int .i64 j ∧ Hid (Below wo.heap.size wo wq)) (fun vj _ => na - (intOf vj).toNat)
            case atStart => exact ⟨0, Nat.zero_le _, rfl, Lib.hid (Below.refl _ _)⟩
            case round =>
              obtain ⟨j, hj, rfl, HB⟩ := hrel
              have pj : (0 : Int) ≤ (j : Int) := Int.natCast_nonneg _
              have HWr := Lib.hid (HWB.out.trans (HB.out.mono HWB.out.size))
              by_cases hlt3 : j < na
              · have pj2 : (j : Int) < (na : Int) := by omega
                obtain ⟨b3, o3, kb, A3, c3, rfl, hkb, hb3, hc3, hr3, u0, u1, u2⟩ := kb_at (HRA.out.below KbR.stable HB.out) hlt3
                obtain ⟨b4, o4, y, A4, m4, c4, rfl, hy, hb4, hm4, hr4, v0⟩ := rowb_at (HRH.out.below RowR.stable HB.out) hlt3
                obtain rfl : y = kb.2 := by rw [List.getElem?_map, hkb] at hy; exact (Option.some.inj hy).symm
                obtain ⟨a1, a2, a3, a4⟩ := HKB.out kb (List.mem_of_getElem? hkb)
                rw [HGT.out] at a4
                obtain ⟨t, xs⟩ := kb
                have e1 : (t, xs).1 = t := rfl
                have e2 : (t, xs).2 = xs := rfl
                rw [e1] at a1 a4 u1 hr3
                rw [e2] at a1 a2 a3 a4 u0 u2 hr3 hc3 hr4
                have hcnt := butL_cnt (k + m) gone (fun _ => true)
                rw [cntP_true, HGL.out] at hcnt
                have hgt := bget_any (c := c3) (G := t) (size := xs.length) (xs := xs) (g := butL (fun _ => true) gone) (HM.out.below' HB.out).x.mid hr3 rfl a2 (fun x hx => by obtain ⟨i, hi, rfl⟩ := plL_mem hx; omega) (Lib.hid (by omega)) a3 rfl a4.refs (by omega)
                obtain ⟨L, hL⟩ : ∃ L, xs.length = L := ⟨_, rfl⟩
                rw [hL] at hgt u0 u2
                obtain ⟨M, hM⟩ : ∃ M, cntN k L = M := ⟨_, rfl⟩
                rw [hM] at hgt u0
                unfold blobC at hgt
                have HGT2 := Lib.hid hgt
                have HV0 := Lib.hid v0
                have HB4 := Lib.hid hb4
                have HR4 := Lib.hid hr4
                have hb3' : b3 < wr.heap.size := hb3
                clear hgt a1 a2 a3 a4 hcnt hr3 hc3 hkb hy e1 e2 hL hM v0 hb4 hr4
                go_wp2_with fail
                refine HGT2.out.mono ?_
                clear HGT2 u0 u1 u2
                rintro e w10 ⟨A5, c5, rfl, hc5, hr5, hb5⟩
                obtain ⟨TX, hTX⟩ : ∃ TX, textB xs = TX := ⟨_, rfl⟩
                have HSF : Hid (∀ w', Below w10.heap.size w10 w' → w'.cell? ⟨b4, o4 + j, none⟩ = some (.slice A4 m4 c4) ∧ (convert 80 9 (.slice A5 L c5)).run Tryz.prog w' = .ok (.string TX) w' ∧ (convert 80 9 (.slice A4 m4 c4)).run Tryz.prog w' = .ok (.string TX) w') := Lib.hid fun w' hb => by
                  have hbb := hb5.trans (hb.mono hb5.size)
                  rw [← hTX]
                  exact ⟨(hbb.cell (p := ⟨b4, o4 + j, none⟩) HB4.out).trans HV0.out, text_run (hr5.below ByR.stable hb), text_run (HR4.out.below ByR.stable hbb)⟩
                have hd10 : Below w10.heap.size w10 w10.drew := (Below.refl _ _).drew
                have s10 := HSF.out _ hd10
                have HB10 := Lib.hid (HB.out.trans (hb5.mono HB.out.size))
                clear hr5 hb5 hTX hc5
                go_wp2_with fail
                refine wp_region_held_drew (S := fun w' => w'.cell? ⟨b4, o4 + j, none⟩ = some (.slice A4 m4 c4) ∧ (convert 80 9 (.slice A5 L c5)).run Tryz.prog w' = .ok (.string TX) w' ∧ (convert 80 9 (.slice A4 m4 c4)).run Tryz.prog w' = .ok (.string TX) w') (by kernel_rfl) (by exact s10) (fun hHeld => ?_)
                refine wpAnyH_take (i := 0) (v := ?_) rfl (by kernel_rfl) (by kernel_rfl) (by kernel_rfl) (fun _ _ _ h => h) (Or.inl ⟨by first | kernel_rfl | rfl, ?_⟩) (by assumption) ?_
                rotate_left
                · (intro wq hSw; (try dsimp only at hSw); (try simp (maxSteps := 2000000) only [zz1, zz2, zz3]); go_simp); try with_reducible rfl
                try simp (maxSteps := 2000000) only [zz1, zz2, zz3, Act.put, zz4, zz5, zz6]
                refine wpAnyH_take (i := 1) (v := ?_) rfl (by kernel_rfl) (by kernel_rfl) (by kernel_rfl) (fun _ _ _ h => h) (Or.inl ⟨by first | kernel_rfl | rfl, ?_⟩) (by assumption) ?_
                rotate_left
                · (intro wq hSw; (try dsimp only at hSw); (try simp (maxSteps := 2000000) only [zz1, zz2, zz3]); go_simp); try with_reducible rfl
                try simp (maxSteps := 2000000) only [zz1, zz2, zz3, Act.put, zz4, zz5, zz6]
                refine wpAnyH_take (i := 2) (v := ?_) rfl (by kernel_rfl) (by kernel_rfl) (by kernel_rfl) (fun _ _ _ h => h) (Or.inl ⟨by first | kernel_rfl | rfl, ?_⟩) (by assumption) ?_
                rotate_left
                · (intro wq hSw; (try dsimp only at hSw); (try simp (maxSteps := 2000000) only [zz1, zz2, zz3]); go_simp); try with_reducible rfl
                try simp (maxSteps := 2000000) only [zz1, zz2, zz3, Act.put, zz4, zz5, zz6]
                refine wpAnyH_take (i := 3) (v := ?_) rfl (by kernel_rfl) (by kernel_rfl) (by kernel_rfl) (fun _ _ _ h => h) (Or.inl ⟨by first | kernel_rfl | rfl, ?_⟩) (by assumption) ?_
                rotate_left
                · (intro wq hSw; (try dsimp only at hSw); (try simp (maxSteps := 2000000) only [zz1, zz2, zz3]); go_simp); try with_reducible rfl
                try simp (maxSteps := 2000000) only [zz1, zz2, zz3, Act.put, zz4, zz5, zz6]
                refine wpAnyH_take (i := 4) (v := ?_) rfl (by kernel_rfl) (by kernel_rfl) (by kernel_rfl) (fun _ _ _ h => h) (Or.inl ⟨by first | kernel_rfl | rfl, ?_⟩) (by assumption) ?_
                rotate_left
                · (intro wq hSw; (try dsimp only at hSw); (try simp (maxSteps := 2000000) only [zz1, zz2, zz3]); go_simp); try with_reducible rfl
                try simp (maxSteps := 2000000) only [zz1, zz2, zz3, Act.put, zz4, zz5, zz6]
                refine wpAnyH_take (i := 5) (v := ?_) rfl (by kernel_rfl) (by kernel_rfl) (by kernel_rfl) (fun _ _ _ h => h) (Or.inl ⟨by first | kernel_rfl | rfl, ?_⟩) (by assumption) ?_
                rotate_left
                · (intro wq hSw; (try dsimp only at hSw); (try simp (maxSteps := 2000000) only [zz1, zz2, zz3]); go_simp); try with_reducible rfl
                try simp (maxSteps := 2000000) only [zz1, zz2, zz3, Act.put, zz4, zz5, zz6]
                refine wpAnyH_take (i := 6) (v := ?_) rfl (by kernel_rfl) (by kernel_rfl) (by kernel_rfl) (fun _ _ _ h => h) (Or.inl ⟨by first | kernel_rfl | rfl, ?_⟩) (by assumption) ?_
                rotate_left
                · (intro wq hSw; (try dsimp only at hSw); (try simp (maxSteps := 2000000) only [zz1, zz2, zz3]); go_simp); try with_reducible rfl
                try simp (maxSteps := 2000000) only [zz1, zz2, zz3, Act.put, zz4, zz5, zz6]
                refine wpAnyH_take (i := 7) (v := ?_) rfl (by kernel_rfl) (by kernel_rfl) (by kernel_rfl) (fun _ _ _ h => h) (Or.inl ⟨by first | kernel_rfl | rfl, ?_⟩) (by assumption) ?_
                rotate_left
                · (intro wq hSw; (try dsimp only at hSw); (try simp (maxSteps := 2000000) only [zz1, zz2, zz3]); go_simp); try with_reducible rfl
                try simp (maxSteps := 2000000) only [zz1, zz2, zz3, Act.put, zz4, zz5, zz6]
                refine wpAnyH_take (i := 8) (v := ?_) rfl (by kernel_rfl) (by kernel_rfl) (by kernel_rfl) (fun _ _ _ h => h) (Or.inl ⟨by first | kernel_rfl | rfl, ?_⟩) (by assumption) ?_
                rotate_left
                · (intro wq hSw; (try dsimp only at hSw); (try simp (maxSteps := 2000000) only [zz1, zz2, zz3]); go_simp); try with_reducible rfl
                try simp (maxSteps := 2000000) only [zz1, zz2, zz3, Act.put, zz4, zz5, zz6]
                refine wpAnyH_take (i := 9) (v := ?_) rfl (by kernel_rfl) (by kernel_rfl) (by kernel_rfl) (fun _ _ _ h => h) (Or.inl ⟨by first | kernel_rfl | rfl, ?_⟩) (by assumption) ?_
                rotate_left
                · (intro wq hSw; (try dsimp only at hSw); (try simp (maxSteps := 2000000) only [zz1, zz2, zz3]); go_simp); try with_reducible rfl
                try simp (maxSteps := 2000000) only [zz1, zz2, zz3, Act.put, zz4, zz5, zz6]
                refine wpAnyH_take (i := 10) (v := ?_) rfl (by kernel_rfl) (by kernel_rfl) (by kernel_rfl) (fun _ _ _ h => h) (Or.inl ⟨by first | kernel_rfl | rfl, ?_⟩) (by assumption) ?_
                rotate_left
                · (intro wq hSw; (try dsimp only at hSw); (try simp (maxSteps := 2000000) only [zz1, zz2, zz3]); go_simp); try with_reducible rfl
                try simp (maxSteps := 2000000) only [zz1, zz2, zz3, Act.put, zz4, zz5, zz6]
                refine wpAnyH_take (i := 11) (v := ?_) rfl (by kernel_rfl) (by kernel_rfl) (by kernel_rfl) (fun _ _ _ h => h) (Or.inl ⟨by first | kernel_rfl | rfl, ?_⟩) (by assumption) ?_
                rotate_left
                · (intro wq hSw; (try dsimp only at hSw); (try simp (maxSteps := 2000000) only [zz1, zz2, zz3]); go_simp); try with_reducible rfl
                try simp (maxSteps := 2000000) only [zz1, zz2, zz3, Act.put, zz4, zz5, zz6]
                refine wpAnyH_done (by kernel_rfl) ?_ _
                clear hHeld s10
                have HB11 := Lib.hid (HB10.out.drew)
                go_wp2_with fail
                exact ⟨⟨j + 1, by omega, by go_num, Lib.hid (HB10.out.trans (hd10.mono HB10.out.size))⟩, by simp [intOf]; omega⟩
              · have pj2 : ¬ (j : Int) < (na : Int) := by omega
                go_wp2_with fail
                refine bkeeps_any.mono ?_
                rintro e wz ⟨rfl, hbz⟩
                go_wp2_with fail
                go_ret
                exact ⟨rfl, HWr.out.trans (hbz.mono HWr.out.size)⟩
end Go.Proofs.YtcliejdiaohamaaGreat

set_option linter.unusedSimpArgs false
set_option linter.unusedVariables false
namespace Go.Proofs.YtcliejdiaohamaaGreat
open Go.RowKit Go.Cib
attribute [local go_sem] cell_set Later.cell Later.frozen Grw.cell Grw.frozen
open Go.ChangeShapes Go.WideShapes Go.ChangeAt Go.Deep
theorem opens_by : Opens Tryz.prog 5 ByR 1 :=
  ⟨by kernel_rfl, by omega, fun H enc w base spare held fuel cs x _ hx => by
    obtain ⟨n, rfl, _, hw⟩ := DataW.trod_int Tryz.underlying5 hx
    have h2 : 0 ≤ n ∧ n ≤ 255 := by
      simp [Lit.wf, IntKind.min, IntKind.max, IntKind.signed, IntKind.bits] at hw
      omega
    exact ⟨n.toNat, by omega, by rw [show ((n.toNat : Nat) : Int) = n by omega]⟩⟩
end Go.Proofs.YtcliejdiaohamaaGreat

set_option linter.unusedSimpArgs false
set_option linter.unusedVariables false
namespace Go.Proofs.YtcliejdiaohamaaGreat
open Go.RowKit Go.Cib
attribute [local go_sem] cell_set Later.cell Later.frozen Grw.cell Grw.frozen
open Go.ChangeShapes Go.WideShapes Go.ChangeAt Go.Deep
theorem opens_rowb : Opens Tryz.prog 80 RowR 1 :=
  ⟨by kernel_rfl, by omega, fun H enc w base spare held fuel cs x _ hx => by
    obtain ⟨A, n, c, xs, rfl, hnc, _, hr⟩ := opens_slice sl_by.und opens_by hx
    exact ⟨xs, A, n, c, rfl, hnc, hr⟩⟩
set_option maxRecDepth 100000 in
theorem open_base {H : Type} {enc : TypeId × Value → H} {w : World} {base b0 : Nat} {spare : Nat → Bool} {held : Bool} {r : Reach} {v : Value} {d : DataW H} {ps : List MemPlace}
    (hval : Value.okWide Tryz.prog w r b0 76 v) (h : DataW.Trod enc Tryz.prog w base spare held 76 v d ps) : ∃ k m f c : Int, v = .agg #[.int .i64 k, .int .i64 m, .int .i64 f, .int .i64 c] := by
  obtain ⟨cs, rfl, hsz⟩ := okWide_struct Tryz.underlying76 hval
  obtain ⟨fuel, hx⟩ := h
  have h5 : cs.size = 4 := hsz.trans (by kernel_rfl)
  have hl : (Value.agg cs).cells.toList.length = 4 := by simpa [Value.cells] using h5
  obtain ⟨xs, n, _, _, hlen, hxl, hf⟩ := DataW.trod_struct Tryz.underlying76 hx
  have e0 : (Value.agg cs).cells.toList = cs.toList := rfl
  rw [e0] at hf hl
  match hc : cs.toList, hl with
  | [c0, c1, c2, c3], _ =>
    rw [hc] at hf
    have f0 := hf 0 _ rfl
    have f1 := hf 1 _ rfl
    have f2 := hf 2 _ rfl
    have f3 := hf 3 _ rfl
    have k1 : Tryz.prog.cellsOf 3 = 1 := by kernel_rfl
    have hx3 : xs.length = 4 := hxl
    simp only [List.getElem_toArray, List.getElem_cons_zero, List.getElem_cons_succ, k1, List.drop_zero, List.drop_succ_cons, List.take_succ_cons, List.take_zero] at f0 f1 f2 f3
    rw [List.getElem?_eq_getElem (by omega)] at f0 f1 f2 f3
    obtain ⟨s, e1, _, _⟩ := DataW.trod_int Tryz.underlying3 f0
    obtain ⟨t, e2, _, _⟩ := DataW.trod_int Tryz.underlying3 f1
    obtain ⟨u, e3, _, _⟩ := DataW.trod_int Tryz.underlying3 f2
    obtain ⟨x, e4, _, _⟩ := DataW.trod_int Tryz.underlying3 f3
    simp only [List.cons.injEq, and_true] at e1 e2 e3 e4
    subst e1; subst e2; subst e3; subst e4
    refine ⟨s, t, u, x, ?_⟩
    rw [show cs = cs.toList.toArray by simp, hc]
end Go.Proofs.YtcliejdiaohamaaGreat
