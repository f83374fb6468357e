/-
  Law 30: LedgerSpares: the walk.
  A geometry among the arguments; bounds of whole numbers.
  Law 30's stripes, faults and names among the arguments.
-/
import Derived.Test.YtihnlhfngmbglaaGreatLq12
import Derived.Test.YtihnlhfngmbglaaGreatLq4
import Derived.Test.YtihnlhfngmbglaaGreatLq3
set_option linter.unusedSimpArgs false
set_option linter.unusedVariables false
namespace Go.Proofs.YtihnlhfngmbglaaGreat
open Go.RowKit Go.Cib
attribute [local go_sem] cell_set Later.cell Later.frozen Grw.cell Grw.frozen
section
theorem sl_ref30 : SlTy Tryz.prog 34 38 (.agg #[.int .u8 0, .int .i64 0, .int .u64 0]) 3 24 := ⟨by kernel_rfl, by kernel_rfl, by kernel_rfl, by omega⟩
theorem max_rise {gs gs' : Nat → Nat → Bool} {N : Nat} : ∀ i, (∀ j, j < i → misN gs' N j ≤ misN gs N j + 1) → maxM gs' N i ≤ maxM gs N i + 1
  | 0, _ => by simp [maxM]
  | i + 1, h => by
    have ih := max_rise i fun j hj => h j (by omega)
    have h1 := h i (by omega)
    rw [maxM, maxM]
    omega
theorem LieS.max_fail {n k N : Nat} {T : Lst} {sts : List DSt} (h : LieS n k N T sts) (hn : n ≤ 600) (hk : k ≤ 255) (hN : 1 ≤ N) (hN2 : N ≤ 255) (hlen : sts.length = N) {ns : List Nm} (hg : ∀ x ∈ ns, x.2.2 < 2 ^ 64) (x : Int) (i : Nat) :
    maxM (gsN (failA n sts x) n k N ns) N i ≤ maxM (gsN sts n k N ns) N i + 1 := max_rise i fun j _ => by
  unfold misN gsN
  cases hj : ns[j]? with
  | none => exact Nat.le_succ _
  | some y => exact (h.rise_fail hn hk (hg y (List.mem_of_getElem? hj)) hN hN2 hlen y.2.1 x).2
/-- What stays of the law while drives die. -/
def SpI (w2 wr : World) (a cb bf K M N : Nat) (T : Lst) (ns : List Nm) (L1 Mx i : Nat) (Y : Nat → Prop) : Prop := ∃ sts, MX Y w2 wr a cb bf K M N sts ∧ GdA 12 sts ∧ LieS N K (K + M) T sts ∧ maxM (gsN sts N K (K + M) ns) (K + M) L1 ≤ Mx + i
theorem SpI.below {w2 w w' : World} {a cb bf K M N L1 Mx i : Nat} {T : Lst} {ns : List Nm} {Y : Nat → Prop} (h : SpI w2 w a cb bf K M N T ns L1 Mx i Y) (hb : Below w.heap.size w w') : SpI w2 w' a cb bf K M N T ns L1 Mx i Y := by
  obtain ⟨sts, h1, h2, h3, h4⟩ := h
  exact ⟨sts, h1.below' hb, h2, h3, h4⟩
set_option maxRecDepth 100000 in
set_option maxHeartbeats 32000000 in
theorem spares_any {w : World} {k m s : Int} {A1 A2 : Option Addr} {A3 : Option Addr} {L1 L2 L3 c1 c2 c3 : Nat} {ps : List LPt} {hs : List Hrt} {gone : List Int} (R1 : Hid (RdL LPtR 4 (fun _ => True) w A1 L1 ps)) (R2 : Hid (RdL HrtR 3 (fun _ => True) w A2 L2 hs)) (hl1 : L1 ≤ maxLen) (hl2 : L2 ≤ maxLen) (R3 : Hid (RdL IntR 1 (fun _ => True) w A3 L3 gone)) :
    Calls Tryz.prog 3 #[.agg (geoC k m s), .slice A1 L1 c1, .slice A2 L2 c2, .slice A3 L3 c3] w fun e w' => e = .returned (.bool true) ∧ Below w.heap.size w w' := by
  have hsm := fun w => small_any (w := w) k m s
  have bG := BoxAt.new w (geoC k m s) 23
  have hb0 : Below w.heap.size w (w.alloc (.cells (geoC k m s) 23)) := (Below.refl _ _).alloc (Nat.le_refl _) _
  obtain ⟨WA, hWA⟩ : ∃ W, w.alloc (.cells (geoC k m s) 23) = W := ⟨_, rfl⟩
  rw [hWA] at bG hb0
  obtain ⟨W, hW⟩ : ∃ W, WA = W := ⟨_, rfl⟩
  rw [hW] at bG hb0 hWA
  obtain ⟨q, hq⟩ : ∃ q, w.heap.size = q := ⟨_, rfl⟩
  rw [hq] at bG
  have HBG := Lib.hid bG
  have HB1 := Lib.hid hb0
  have g0 := bG.cell 0
  have g1 := bG.cell 1
  have g2 := bG.cell 2
  clear bG hb0
  unfold geoC at hsm hWA g0 g1 g2 ⊢
  go_enter Tryz.func3, Tryz.ntmps3
  go_wp2_with fail
  refine (hsm _).mono ?_
  rintro e w1 ⟨rfl, hb1⟩
  have HB2 := Lib.hid hb1
  clear hsm hb1 g0 g1 g2 hWA hW
  obtain ⟨Bs, hBs⟩ : ∃ B, smallB k m s = B := ⟨_, rfl⟩
  rw [hBs]
  have HBS := Lib.hid hBs
  clear hBs
  cases Bs with
  | false =>
    go_wp2_with fail
    refine (counts_any (w := w1)).mono ?_
    rintro e w2 ⟨rfl, hb2⟩
    have HB3 := Lib.hid (HB1.out.trans ((HB2.out.trans (hb2.mono HB2.out.size)).mono HB1.out.size))
    clear hb2
    go_wp2_with fail
    go_ret
    exact ⟨rfl, by first | exact HB3.out | (rw [← hq]; exact HB3.out)⟩
  | true =>
    have HW1 := Lib.hid (HB1.out.trans (HB2.out.mono HB1.out.size))
    go_wp2_with fail
    refine (lfew_any (R1.out.below LPtR.stable HW1.out) hl2 hl1).mono ?_
    rintro e w2 hfq
    unfold FewQ at hfq
    obtain ⟨B, rfl, hB, hb2⟩ := hfq
    have HW2 := Lib.hid (HW1.out.trans (hb2.mono HW1.out.size))
    have HFW := Lib.hid (show ∀ (b : Nat) (cs : Array Value), BoxAt W b cs → BoxAt w2 b cs from fun _ _ h => (h.below HB2.out).below hb2)
    have HFR := HFW
    clear hb2
    cases B with
    | false =>
      go_wp2_with fail
      refine (counts_any (w := w2)).mono ?_
      rintro e w3 ⟨rfl, hb3⟩
      have HB3 := Lib.hid (HW2.out.trans (hb3.mono HW2.out.size))
      clear hb3
      go_wp2_with fail
      go_ret
      exact ⟨rfl, by first | exact HB3.out | (rw [← hq]; exact HB3.out)⟩
    | true =>
      obtain ⟨h12, h30, h500⟩ := hB rfl
      have hs5 : 1 ≤ k ∧ 1 ≤ m ∧ k + m ≤ 10 ∧ 1 ≤ s ∧ s ≤ 8 := of_decide_eq_true HBS.out
      obtain ⟨K, rfl⟩ : ∃ K : Nat, k = K := ⟨k.toNat, by omega⟩
      obtain ⟨M, rfl⟩ : ∃ M : Nat, m = M := ⟨m.toNat, by omega⟩
      obtain ⟨N, rfl⟩ : ∃ N : Nat, s = N := ⟨s.toNat, by omega⟩
      have hp5 : 1 ≤ K ∧ 1 ≤ M ∧ K + M ≤ 10 ∧ 1 ≤ N ∧ N ≤ 8 := by omega
      have hG2 := HFW.out _ _ HBG.out
      unfold geoC at hG2
      have g0 := hG2.cell 0
      have g1 := hG2.cell 1
      have g2 := hG2.cell 2
      have hd := done_any (c1 := c1) (c2 := c2) (k := K) (m := M) (n := N) hp5.1 hp5.2.1 (by omega) hp5.2.2.2.1 (by omega) (R1.out.below LPtR.stable HW2.out) (R2.out.below HrtR.stable HW2.out) h12 h30 h500
      unfold geoC at hd
      have HDO := Lib.hid hd
      have q1 : (L1 : Int) ≤ 12 := by omega
      have q2 : (0 : Int) ≤ (L1 : Int) := by omega
      clear hd hB hs5 h30
      go_wp2_with fail
      refine HDO.out.mono ?_
      clear HDO
      rintro e w3 hde
      unfold DoneE at hde
      obtain ⟨a, cb, bf, sb, sts, V, x, ra, rfl, hD, hT, hGd, TT, hL⟩ := hde
      have HM3 := Lib.hid (show MX NoB w2 w3 a cb bf K M N sts from hD.mx.sub fun j hj => hj.elim)
      have HGD := Lib.hid hGd
      have HL0 := Lib.hid hL
      have HW3 := Lib.hid (HW2.out.trans (hD.mx.bel.mono HW2.out.size))
      have hG3 := hG2.below hD.mx.bel
      have HG3 := Lib.hid hG3
      have hgs : ∀ x ∈ nmL ps (0, 0, 0), x.2.2 < 2 ^ 64 := fun x hx => by
        unfold nmL at hx
        rcases List.mem_append.1 hx with h1 | h1
        · obtain ⟨p, hp, rfl⟩ := List.mem_map.1 h1
          obtain ⟨j, hj, rfl⟩ := List.mem_iff_getElem.1 hp
          obtain ⟨b, o, x, A2, n, c, _, hx2, _, _, _, _, _, _, hgn⟩ := lpt_at R1.out (i := j) (by rw [← R1.out.1]; exact hj)
          rw [List.getElem?_eq_getElem hj] at hx2
          cases hx2
          exact hgn
        · simp at h1; subst h1; exact Nat.two_pow_pos 64
      have HGS := Lib.hid hgs
      have hna := named_any (c1 := c1) (kd := 0) (gn := 0) (pl := 0) (R1.out.below LPtR.stable HW3.out) h12
      have HNA := Lib.hid hna
      clear hD hT hGd hL g0 g1 g2 hG2 hG3 hgs hna
      go_wp2_with fail
      refine HNA.out.mono ?_
      clear HNA
      rintro e w4 ⟨A4, c4, rfl, hc4, hr4, hb4⟩
      have HW4 := Lib.hid (HW3.out.trans (hb4.mono HW3.out.size))
      have HM4 := Lib.hid (HM3.out.below hb4)
      have HG4 := Lib.hid (HG3.out.below hb4)
      obtain ⟨ns, hns⟩ : ∃ ns, nmL ps (0, 0, 0) = ns := ⟨_, rfl⟩
      have hnn : namesL ps ⟨((0 : Nat) : Int), 0, ((0 : Nat) : Int)⟩ = ns.map nmR := by rw [← hns]; exact nm_names ps (0, 0, 0)
      rw [hnn] at hr4
      rw [hns] at HGS
      have hr5 := RdL.take (RdL.bound RfIR.stable hr4) (k := L1) (by omega)
      obtain ⟨rs, hrs⟩ : ∃ rs, (ns.map nmR).take L1 = rs := ⟨_, rfl⟩
      rw [hrs] at hr5
      have hrsn : ∀ i r, rs[i]? = some r → (ns.map nmR)[i]? = some r := fun i r hi => by
        rw [← hrs, List.getElem?_take] at hi
        split at hi
        · exact hi
        · cases hi
      have HRN := Lib.hid hrsn
      have HR5 := Lib.hid hr5
      have hsl := fun w => piece_pre sl_ref30 (A := A4) (N := L1 + 1) (c := c4) (k := L1) (by omega) w
      obtain ⟨Mx, hMx⟩ : ∃ Mx, maxM (gsN sts N K (K + M) ns) (K + M) L1 = Mx := ⟨_, rfl⟩
      have hsp := lspare_any (c := c4) HR5.out (by omega) HM4.out.cnt (by omega) (Lib.hid fun i r hr => HM4.out.whs HGD.out ns i r (HRN.out i r hr)) HM4.out.cmt (by omega)
      have hwi := fun w' (hb : Below w4.heap.size w4 w') => lwithin_any (c := c4) (HR5.out.below RfIR.stable hb) (by omega) (HM4.out.cnt.below hb) (by omega) (Lib.hid fun i r hr => (HM4.out.whs HGD.out ns i r (HRN.out i r hr)).below hb) (HM4.out.cmt.below hb)
      rw [if_neg (by omega), hMx] at hsp
      rw [hMx] at hwi
      have HSP := Lib.hid hsp
      have HWI := Lib.hid hwi
      have HSI := Lib.hid (show SpI w2 w4 a cb bf K M N TT ns L1 Mx 0 (fun j => NoB j ∨ (w3.heap.size ≤ j ∧ j < w4.heap.size)) from ⟨sts, HM4.out, HGD.out, HL0.out, by omega⟩)
      clear hb4 hr4 hns hnn hr5 hrs hrsn hsp hwi hMx
      by_cases hle : Mx ≤ M
      · obtain ⟨D, rfl⟩ : ∃ D, M = Mx + D := ⟨M - Mx, by omega⟩
        have hmx : max (-1 : Int) (((Mx + D : Nat) : Int) - (Mx : Int)) = (D : Int) := by omega
        rw [hmx] at HSP
        have d0 : (0 : Int) ≤ (D : Int) := Int.natCast_nonneg _
        have d1 : ¬ (D : Int) < 0 := by omega
        have d2 : decide ((D : Int) < 0) = false := decide_eq_false d1
        clear hmx HWI
        go_wp2_with fail
        refine HSP.out.mono ?_
        clear HSP hsl
        rintro e w5 ⟨rfl, hb5⟩
        have HW5 := Lib.hid hb5
        have HSJ := Lib.hid (HSI.out.below hb5)
        clear hb5 hc4
        go_wp2_with fail
        go_loopw [14] (fun vi wr => ∃ i : Nat, i ≤ D ∧ vi = .int .i64 i ∧ Hid (SpI w2 wr a cb bf K (Mx + D) N TT ns L1 Mx i (fun j => NoB j ∨ (w3.heap.size ≤ j ∧ j < w4.heap.size))) ∧ Hid (KpX (fun j => NoB j ∨ (w3.heap.size ≤ j ∧ j < w4.heap.size)) w4 wr)) (fun vi _ => D - (intOf vi).toNat)
        case atStart => exact ⟨0, Nat.zero_le _, rfl, HSJ, Lib.hid (KpX.of_below HW5.out fun j hj => hj.elim (fun h => h.elim) (fun h => h.2))⟩
        case round =>
          obtain ⟨i, hi, rfl, HI, HK⟩ := hrel
          have i0 : (0 : Int) ≤ (i : Int) := Int.natCast_nonneg _
          obtain ⟨sts', hM, hGd', hL', hmx⟩ := HI.out
          have HM := Lib.hid hM
          have HGE := Lib.hid hGd'
          have HLE := Lib.hid hL'
          have HMX := Lib.hid hmx
          clear hM hGd' hL' hmx HI
          by_cases hlt : i < L3
          · have i1 : (i : Int) < (L3 : Int) := by omega
            by_cases hlt2 : i < D
            · have i2 : (i : Int) < (D : Int) := by omega
              obtain ⟨b, o, x, eA, hx, hxb, x0⟩ := int_at31 (R3.out.below IntR.stable (HW2.out.trans (HM.out.bel.mono HW2.out.size))) hlt
              subst eA
              go_wp2_with fail
              refine (fail_e HM.out x).mono ?_
              rintro e w6 ⟨⟨E6, rfl⟩, hM6, hk6⟩
              have HN := Lib.hid (show SpI w2 w6 a cb bf K (Mx + D) N TT ns L1 Mx (i + 1) (fun j => NoB j ∨ (w3.heap.size ≤ j ∧ j < w4.heap.size)) from ⟨_, hM6, HGE.out.fail x, HLE.out.fail x, by
                have h9 := HLE.out.max_fail (by omega) (by omega) (by omega) (by omega) (by have := HM.out.len; omega) HGS.out x L1
                have h8 := HMX.out
                omega⟩)
              have HKN := Lib.hid (HK.out.trans hk6)
              clear hM6 hk6 x0 hxb hx
              go_wp2_with fail
              exact ⟨⟨i + 1, hlt2, by go_num, HN, HKN⟩, by simp [intOf]; omega⟩
            · have i2 : ¬ (i : Int) < (D : Int) := by omega
              have hm9 : maxM (gsN sts' N K (K + (Mx + D)) ns) (K + (Mx + D)) L1 ≤ Mx + D := by have := HMX.out; omega
              have hR9 := HK.out.rd RfIR.stable HR5.out (fun j hj => .inr hj)
              have hwi := lwithin_any (c := c4) hR9 (by omega) HM.out.cnt (by omega) (Lib.hid fun i r hr => HM.out.whs HGE.out ns i r (HRN.out i r hr)) HM.out.cmt
              rw [show decide (maxM (gsN sts' N K (K + (Mx + D)) ns) (K + (Mx + D)) L1 ≤ Mx + D) = true from decide_eq_true hm9] at hwi
              have HWI := Lib.hid hwi
              have HR9 := Lib.hid hR9
              clear hm9 hR9 hwi
              go_wp2_with fail
              refine HWI.out.mono ?_
              clear HWI
              rintro e w6 ⟨rfl, hb6⟩
              have HM6 := Lib.hid (HM.out.below' hb6)
              have hR6 := HR9.out.below RfIR.stable hb6
              have hsp := lspare_any (c := c4) hR6 (by omega) (cnt_nil w6) (by omega) (Lib.hid fun i r _ => HM6.out.whn r ((fun _ _ => false) i)) (cmt_nil w6) (by omega)
              rw [if_pos rfl] at hsp
              have HSP := Lib.hid hsp
              have HR6 := Lib.hid hR6
              clear hsp hR6 hb6
              go_wp2_with fail
              refine HSP.out.mono ?_
              clear HSP
              rintro e w7 ⟨rfl, hb7⟩
              have HM7 := Lib.hid (HM6.out.below' hb7)
              have hto := ltotal_any (c := c4) (HR6.out.below RfIR.stable hb7) (by omega) (cnt_nil w7) (by omega) (Lib.hid fun i r _ => HM7.out.whn r ((fun _ _ => false) i))
              have hs0 : sumM (fun _ _ => false) 0 L1 = 0 := by have := sumM_le (fun _ _ => false) 0 L1; omega
              rw [hs0] at hto
              have HTO := Lib.hid hto
              clear hto hs0 hb7
              go_wp2_with fail
              refine HTO.out.mono ?_
              clear HTO
              rintro e w8 ⟨rfl, hb8⟩
              have HM8 := Lib.hid (HM7.out.below' hb8)
              clear hb8
              go_wp2_with fail
              refine (counts_any (w := w8)).mono ?_
              rintro e w9 ⟨rfl, hb9⟩
              have HB9 := Lib.hid (HW2.out.trans ((HM8.out.below' hb9).bel.mono HW2.out.size))
              clear hb9
              go_wp2_with fail
              go_ret
              exact ⟨rfl, by first | exact HB9.out | (rw [← hq]; exact HB9.out)⟩
          · have i1 : ¬ (i : Int) < (L3 : Int) := by omega
            have hm9 : maxM (gsN sts' N K (K + (Mx + D)) ns) (K + (Mx + D)) L1 ≤ Mx + D := by have := HMX.out; omega
            have hR9 := HK.out.rd RfIR.stable HR5.out (fun j hj => .inr hj)
            have hwi := lwithin_any (c := c4) hR9 (by omega) HM.out.cnt (by omega) (Lib.hid fun i r hr => HM.out.whs HGE.out ns i r (HRN.out i r hr)) HM.out.cmt
            rw [show decide (maxM (gsN sts' N K (K + (Mx + D)) ns) (K + (Mx + D)) L1 ≤ Mx + D) = true from decide_eq_true hm9] at hwi
            have HWI := Lib.hid hwi
            have HR9 := Lib.hid hR9
            clear hm9 hR9 hwi
            go_wp2_with fail
            refine HWI.out.mono ?_
            clear HWI
            rintro e w6 ⟨rfl, hb6⟩
            have HM6 := Lib.hid (HM.out.below' hb6)
            have hR6 := HR9.out.below RfIR.stable hb6
            have hsp := lspare_any (c := c4) hR6 (by omega) (cnt_nil w6) (by omega) (Lib.hid fun i r _ => HM6.out.whn r ((fun _ _ => false) i)) (cmt_nil w6) (by omega)
            rw [if_pos rfl] at hsp
            have HSP := Lib.hid hsp
            have HR6 := Lib.hid hR6
            clear hsp hR6 hb6
            go_wp2_with fail
            refine HSP.out.mono ?_
            clear HSP
            rintro e w7 ⟨rfl, hb7⟩
            have HM7 := Lib.hid (HM6.out.below' hb7)
            have hto := ltotal_any (c := c4) (HR6.out.below RfIR.stable hb7) (by omega) (cnt_nil w7) (by omega) (Lib.hid fun i r _ => HM7.out.whn r ((fun _ _ => false) i))
            have hs0 : sumM (fun _ _ => false) 0 L1 = 0 := by have := sumM_le (fun _ _ => false) 0 L1; omega
            rw [hs0] at hto
            have HTO := Lib.hid hto
            clear hto hs0 hb7
            go_wp2_with fail
            refine HTO.out.mono ?_
            clear HTO
            rintro e w8 ⟨rfl, hb8⟩
            have HM8 := Lib.hid (HM7.out.below' hb8)
            clear hb8
            go_wp2_with fail
            refine (counts_any (w := w8)).mono ?_
            rintro e w9 ⟨rfl, hb9⟩
            have HB9 := Lib.hid (HW2.out.trans ((HM8.out.below' hb9).bel.mono HW2.out.size))
            clear hb9
            go_wp2_with fail
            go_ret
            exact ⟨rfl, by first | exact HB9.out | (rw [← hq]; exact HB9.out)⟩
      · have d1 : (-1 : Int) < 0 := by omega
        have hmx : max (-1 : Int) ((M : Int) - (Mx : Int)) = -1 := by omega
        have hwd : decide (Mx ≤ M) = false := decide_eq_false hle
        rw [hmx] at HSP
        rw [hwd] at HWI
        clear hmx hwd
        go_wp2_with fail
        refine HSP.out.mono ?_
        clear HSP hsl
        rintro e w5 ⟨rfl, hb5⟩
        have HB5 := Lib.hid hb5
        clear hb5 hc4
        go_wp2_with fail
        refine (HWI.out _ HB5.out).mono ?_
        rintro e w6 ⟨rfl, hb6⟩
        have HB6 := Lib.hid (HB5.out.trans (hb6.mono HB5.out.size))
        clear hb6
        go_wp2_with fail
        refine (counts_any (w := w6)).mono ?_
        rintro e w7 ⟨rfl, hb7⟩
        have HB7 := Lib.hid (HW4.out.trans ((HB6.out.trans (hb7.mono HB6.out.size)).mono HW4.out.size))
        clear hb7
        go_wp2_with fail
        go_ret
        exact ⟨rfl, by first | exact HB7.out | (rw [← hq]; exact HB7.out)⟩
end
section
open Go.ChangeShapes Go.WideShapes Go.ChangeAt Go.Deep
theorem opens_by : Opens Tryz.prog 5 ByR 1 :=
  ⟨by kernel_rfl, by omega, fun H enc w base spare held fuel cs x _ hx => by
    obtain ⟨n, rfl, _, hw⟩ := DataW.trod_int Tryz.underlying5 hx
    have h2 : 0 ≤ n ∧ n ≤ 255 := by
      simp [Lit.wf, IntKind.min, IntKind.max, IntKind.signed, IntKind.bits] at hw
      omega
    exact ⟨n.toNat, by omega, by rw [show ((n.toNat : Nat) : Int) = n by omega]⟩⟩
theorem u64_bounds {z : Int} (h : (Lit.int .u64 z).wf = true) : 0 ≤ z ∧ z < 18446744073709551616 := by
  simp [Lit.wf, IntKind.min, IntKind.max, IntKind.bits, IntKind.signed] at h
  omega
set_option maxRecDepth 100000 in
theorem open_geo {H : Type} {enc : TypeId × Value → H} {w : World} {base b0 : Nat} {spare : Nat → Bool} {held : Bool} {r : Reach} {v : Value} {d : DataW H} {ps : List MemPlace}
    (hval : Value.okWide Tryz.prog w r b0 23 v) (h : DataW.Trod enc Tryz.prog w base spare held 23 v d ps) : ∃ k m s : Int, v = .agg #[.int .i64 k, .int .i64 m, .int .i64 s] := by
  obtain ⟨cs, rfl, hsz⟩ := okWide_struct Tryz.underlying23 hval
  obtain ⟨fuel, hx⟩ := h
  have h5 : cs.size = 3 := hsz.trans (by kernel_rfl)
  have hl : (Value.agg cs).cells.toList.length = 3 := by simpa [Value.cells] using h5
  obtain ⟨xs, n, _, _, hlen, hxl, hf⟩ := DataW.trod_struct Tryz.underlying23 hx
  have e0 : (Value.agg cs).cells.toList = cs.toList := rfl
  rw [e0] at hf hl
  match hc : cs.toList, hl with
  | [c0, c1, c2], _ =>
    rw [hc] at hf
    have f0 := hf 0 _ rfl
    have f1 := hf 1 _ rfl
    have f2 := hf 2 _ rfl
    have k1 : Tryz.prog.cellsOf 3 = 1 := by kernel_rfl
    have hx3 : xs.length = 3 := hxl
    simp only [List.getElem_toArray, List.getElem_cons_zero, List.getElem_cons_succ, k1, List.drop_zero, List.drop_succ_cons, List.take_succ_cons, List.take_zero] at f0 f1 f2
    rw [List.getElem?_eq_getElem (by omega)] at f0 f1 f2
    obtain ⟨s, e1, _, _⟩ := DataW.trod_int Tryz.underlying3 f0
    obtain ⟨t, e2, _, _⟩ := DataW.trod_int Tryz.underlying3 f1
    obtain ⟨u, e3, _, _⟩ := DataW.trod_int Tryz.underlying3 f2
    simp only [List.cons.injEq, and_true] at e1 e2 e3
    subst e1; subst e2; subst e3
    refine ⟨s, t, u, ?_⟩
    rw [show cs = cs.toList.toArray by simp, hc]
end
section
open Go.ChangeShapes Go.WideShapes Go.ChangeAt Go.Deep
theorem sl_pt30 : Tryz.prog.underlying 24 = some (.slice 108) := by kernel_rfl
theorem sl_ht30 : Tryz.prog.underlying 25 = some (.slice 110) := by kernel_rfl
theorem u8_bnd {z : Int} (h : (Lit.int .u8 z).wf = true) : 0 ≤ z ∧ z < 256 := by
  simp [Lit.wf, IntKind.min, IntKind.max, IntKind.signed, IntKind.bits] at h
  omega
def NmR (_ : Nat → Prop) (_ : World) (cs : List Value) (x : Nm) : Prop := cs = [.int .u8 (x.1 : Int), .int .i64 x.2.1, .int .u64 (x.2.2 : Int)] ∧ x.1 < 256 ∧ x.2.2 < 2 ^ 64
set_option maxRecDepth 100000 in
theorem opens_nm : Opens Tryz.prog 38 NmR 3 := by
  refine ⟨by kernel_rfl, by omega, fun H enc w base spare held fuel cs x hl hx => ?_⟩
  obtain ⟨xs, n, _, _, hlen, hxl, hf⟩ := DataW.trod_struct Tryz.underlying38 hx
  match cs, hl with
  | [c0, c1, c2], _ =>
    have f0 := hf 0 _ rfl
    have f1 := hf 1 _ rfl
    have f2 := hf 2 _ rfl
    have k1 : Tryz.prog.cellsOf 5 = 1 := by kernel_rfl
    have k2 : Tryz.prog.cellsOf 3 = 1 := by kernel_rfl
    have k3 : Tryz.prog.cellsOf 36 = 1 := by kernel_rfl
    have hx3 : xs.length = 3 := hxl
    simp only [List.getElem_toArray, List.getElem_cons_zero, List.getElem_cons_succ, k1, k2, k3, List.drop_zero, List.drop_succ_cons, List.take_succ_cons, List.take_zero] at f0 f1 f2
    rw [List.getElem?_eq_getElem (by omega)] at f0 f1 f2
    obtain ⟨a, e0, _, wa⟩ := DataW.trod_int Tryz.underlying5 f0
    obtain ⟨z, e1, _, _⟩ := DataW.trod_int Tryz.underlying3 f1
    obtain ⟨g, e2, _, wg⟩ := DataW.trod_int Tryz.underlying36 f2
    simp only [List.cons.injEq, and_true] at e0 e1 e2
    subst e0; subst e1; subst e2
    obtain ⟨h0, h1⟩ := u8_bnd wa
    obtain ⟨h2, h3⟩ := u64_bounds wg
    exact ⟨(a.toNat, z, g.toNat), by show [_, _, _] = [Value.int .u8 ((a.toNat : Nat) : Int), .int .i64 z, Value.int .u64 ((g.toNat : Nat) : Int)]; rw [show ((a.toNat : Nat) : Int) = a by omega, show ((g.toNat : Nat) : Int) = g by omega], by show a.toNat < 256; omega, by show g.toNat < 2 ^ 64; omega⟩
set_option maxRecDepth 100000 in
theorem opens_pt30 : Opens Tryz.prog 108 LPtR 4 := by
  refine ⟨by kernel_rfl, by omega, fun H enc w base spare held fuel cs x hl hx => ?_⟩
  obtain ⟨xs, n, _, _, hlen, hxl, hf⟩ := DataW.trod_struct Tryz.underlying108 hx
  match cs, hl with
  | [c0, c1, c2, c3], _ =>
    have f0 := hf 0 _ rfl
    have f1 := hf 1 _ rfl
    have k1 : Tryz.prog.cellsOf 38 = 3 := by kernel_rfl
    have k2 : Tryz.prog.cellsOf 68 = 1 := by kernel_rfl
    have hx3 : xs.length = 2 := hxl
    simp only [List.getElem_toArray, List.getElem_cons_zero, List.getElem_cons_succ, k1, k2, List.drop_zero, List.drop_succ_cons, List.take_succ_cons, List.take_zero] at f0 f1
    rw [List.getElem?_eq_getElem (by omega)] at f0 f1
    obtain ⟨y, e1, hy1, hy2⟩ := opens_nm.2.2 _ _ _ _ _ _ _ _ _ rfl f0
    obtain ⟨A, n2, c, ys, e2, hnc, _, hr⟩ := opens_slice sl_by.und opens_by f1
    simp only [List.cons.injEq, and_true] at e1 e2
    obtain ⟨rfl, rfl, rfl⟩ := e1
    subst e2
    exact ⟨⟨y.1, y.2.1, y.2.2, ys⟩, A, n2, c, rfl, hnc, hr, hy1, hy2⟩
set_option maxRecDepth 100000 in
theorem opens_ht30 : Opens Tryz.prog 110 HrtR 3 := by
  refine ⟨by kernel_rfl, by omega, fun H enc w base spare held fuel cs x hl hx => ?_⟩
  obtain ⟨xs, n, _, _, hlen, hxl, hf⟩ := DataW.trod_struct Tryz.underlying110 hx
  match cs, hl with
  | [c0, c1, c2], _ =>
    have f0 := hf 0 _ rfl
    have f1 := hf 1 _ rfl
    have f2 := hf 2 _ rfl
    have k2 : Tryz.prog.cellsOf 3 = 1 := by kernel_rfl
    have hx3 : xs.length = 3 := hxl
    simp only [List.getElem_toArray, List.getElem_cons_zero, List.getElem_cons_succ, k2, List.drop_zero, List.drop_succ_cons, List.take_succ_cons, List.take_zero] at f0 f1 f2
    rw [List.getElem?_eq_getElem (by omega)] at f0 f1 f2
    obtain ⟨a, e0, _, _⟩ := DataW.trod_int Tryz.underlying3 f0
    obtain ⟨z, e1, _, _⟩ := DataW.trod_int Tryz.underlying3 f1
    obtain ⟨g, e2, _, _⟩ := DataW.trod_int Tryz.underlying3 f2
    simp only [List.cons.injEq, and_true] at e0 e1 e2
    subst e0; subst e1; subst e2
    exact ⟨⟨a, z, g⟩, rfl⟩
end
end Go.Proofs.YtihnlhfngmbglaaGreat
