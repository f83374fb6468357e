/-
  Law 31: ScrubLost: the walk.
  A geometry among the arguments; bounds of whole numbers.
  Law 31's stripes among the arguments.
-/
import Derived.Test.YtihnlhfngmbglaaGreatLt14
import Derived.Test.YtihnlhfngmbglaaGreatLt3
import Derived.Test.YtihnlhfngmbglaaGreatLt2
set_option linter.unusedSimpArgs false
set_option linter.unusedVariables false
namespace Go.Proofs.YtihnlhfngmbglaaGreat
open Go.RowKit Go.Cib
attribute [local go_sem] cell_set Later.cell Later.frozen Grw.cell Grw.frozen
section
attribute [local go_sem ↓] run_max_s run_min_s
section
variable {X : Nat → Prop} {w0 w w' : World} {a cb bf k m n : Nat} {ps : List Pt} {gs gs' : Nat → Nat → Bool}
/-- Between two rots. -/
def LsI (X : Nat → Prop) (w0 w : World) (a cb bf k m n : Nat) (ps : List Pt) (gs : Nat → Nat → Bool) : Prop := ∃ sts, MX X w0 w a cb bf k m n sts ∧ Qt n (k + m) sts ∧ Vws k (k + m) ps gs sts ∧ RtV k (k + m) ps gs sts
theorem LsI.congr (h : LsI X w0 w a cb bf k m n ps gs) (hg : ∀ p, p < ps.length → ∀ x, gs' p x = gs p x) : LsI X w0 w a cb bf k m n ps gs' := by
  obtain ⟨sts, h1, h2, h3, h4⟩ := h
  exact ⟨sts, h1, h2, fun i p hi => (h3 i p hi).congr fun x _ => hg i (List.getElem?_eq_some_iff.1 hi).1 x, fun i p d st hi hd => by rw [hg i (List.getElem?_eq_some_iff.1 hi).1 d]; exact h4 i p d st hi hd⟩
theorem LsI.rot (h : LsI X w0 w a cb bf k m n ps gs) (hp : PtOk k n ps) {d z : Nat} (hd : d < k + m) :
    Calls Tryz.prog 32 #[.pointer (some ⟨a, 0, none⟩), .int .i64 (d : Int), .int .i64 (z : Int), .int .i64 16, .int .u32 255] w fun e w' => (∃ E : Int, e = .returned (.int .i64 E)) ∧ LsI X w0 w' a cb bf k m n ps (rotG gs d z) ∧ KpX X w w' := by
  obtain ⟨sts, h1, h2, h3, h4⟩ := h
  have hpo := h1.pos
  obtain ⟨r1, r2, r3⟩ := rot_step (d := d) (z := z) h2 h3 h4 hp (by omega) (by omega) (by omega) (by omega) hd
  refine (rot_m h1 (d : Int) (z : Int) 16 255).mono ?_
  rintro e w' ⟨he, hM, hK⟩
  exact ⟨⟨_, he⟩, ⟨_, hM, r1, r2, r3⟩, hK⟩
end
set_option maxRecDepth 100000 in
set_option maxHeartbeats 64000000 in
theorem lost_any {w : World} {k m s which : Int} {A1 : Option Addr} {L c1 : Nat} {ps : List Pt} (R1 : Hid (RdL PtR 2 (fun _ => True) w A1 L ps)) (hc1 : L ≤ c1) :
    Calls Tryz.prog 9 #[.agg (geoC k m s), .slice A1 L c1, .int .i64 which] w fun e w' => e = .returned (.bool true) ∧ Below w.heap.size w w' := by
  have hsm := fun w => small_any (w := w) k m s
  have bG := BoxAt.new w (geoC k m s) 23
  have hb0 : Below w.heap.size w (w.alloc (.cells (geoC k m s) 23)) := (Below.refl _ _).alloc (Nat.le_refl _) _
  obtain ⟨q, hq⟩ : ∃ q, w.heap.size = q := ⟨_, rfl⟩
  go_enter Tryz.func9, Tryz.ntmps9
  unfold geoC at hsm bG hb0 ⊢
  go_wp2_with fail
  obtain ⟨wA, hwA⟩ : ∃ wA, w.alloc (.cells #[.int .i64 k, .int .i64 m, .int .i64 s] 23) = wA := ⟨_, rfl⟩
  rw [hwA] at bG hb0 ⊢
  have HB0 := Lib.hid hb0
  rw [hq] at bG
  clear hwA hq hb0
  cases hs : smallB k m s with
  | false =>
    rw [hs] at hsm
    refine (hsm _).mono ?_
    clear hsm
    rintro e w1 ⟨rfl, hb1⟩
    have HB1 := Lib.hid (HB0.out.trans (hb1.mono HB0.out.size))
    go_wp2_with fail
    refine scrubs_any.mono ?_
    rintro e wz ⟨rfl, hbz⟩
    go_wp2_with fail
    go_ret
    exact ⟨rfl, HB1.out.trans (hbz.mono HB1.out.size)⟩
  | true =>
    rw [hs] at hsm
    refine (hsm _).mono ?_
    clear hsm
    rintro e w1 ⟨rfl, hb1⟩
    obtain ⟨k, m, s, rfl, rfl, rfl, k1, m1, km, s1, s8⟩ := small_nat hs
    clear hs
    have HB1 := Lib.hid (HB0.out.trans (hb1.mono HB0.out.size))
    have bG1 := bG.below hb1
    have c1g : w1.cell? ⟨q, 0, none⟩ = some (.int .i64 (k : Int)) ∧ w1.cell? ⟨q, 1, none⟩ = some (.int .i64 (m : Int)) ∧ w1.cell? ⟨q, 2, none⟩ = some (.int .i64 (s : Int)) := ⟨bG1.cell 0, bG1.cell 1, bG1.cell 2⟩
    have hss := ssmall_any (k := k) (m := m) (s := s) (c := c1) (R1.out.below PtR.stable HB1.out) (by omega)
    have BG1 := Lib.hid bG1
    have HBY := Lib.hid (pt_byt R1.out)
    unfold geoC at hss
    clear hb1 bG HB0 bG1
    cases hsp : smallP k (s : Int) ps with
    | false =>
      rw [hsp] at hss
      go_wp2_with fail
      refine hss.mono ?_
      clear hss c1g
      rintro e w2 ⟨rfl, hb2⟩
      have HB2 := Lib.hid (HB1.out.trans (hb2.mono HB1.out.size))
      go_wp2_with fail
      refine scrubs_any.mono ?_
      rintro e wz ⟨rfl, hbz⟩
      go_wp2_with fail
      go_ret
      exact ⟨rfl, HB2.out.trans (hbz.mono HB2.out.size)⟩
    | true =>
      rw [hsp] at hss
      have HPT := Lib.hid (ptOk_small s8 hsp (pt_gen R1.out) HBY.out)
      obtain ⟨l1, l2, _⟩ := smallP_ok s8 hsp
      rw [R1.out.1] at l1 l2
      clear hsp
      go_wp2_with fail
      refine hss.mono ?_
      clear hss c1g
      rintro e w2 ⟨rfl, hb2⟩
      have HB2 := Lib.hid (HB1.out.trans (hb2.mono HB1.out.size))
      have BG2 := Lib.hid (BG1.out.below hb2)
      clear hb2 BG1
      have hmd := made_m (w0 := w2) (w := w2) (k := k) (m := m) (n := s) (Below.refl _ _) k1 m1 (by omega) s1 (by omega)
      have c2g : w2.cell? ⟨q, 0, none⟩ = some (.int .i64 (k : Int)) ∧ w2.cell? ⟨q, 1, none⟩ = some (.int .i64 (m : Int)) ∧ w2.cell? ⟨q, 2, none⟩ = some (.int .i64 (s : Int)) := ⟨BG2.out.cell 0, BG2.out.cell 1, BG2.out.cell 2⟩
      unfold geoC at hmd
      go_wp2_with fail
      refine hmd.mono ?_
      clear hmd c2g
      rintro e w3 ⟨a, cb, bf, rfl, hM3, hb3⟩
      have hR3 := RdL.bound PtR.stable (R1.out.below PtR.stable HB2.out)
      have hla := laid_any (c := c1) hM3 (hR3.below PtR.stable hb3) (fun j hj => hj.2) HPT.out
      have HB3 := Lib.hid (HB2.out.trans (hb3.mono HB2.out.size))
      have BG3 := Lib.hid (BG2.out.below hb3)
      have BG2lt := Lib.hid BG2.out.lt
      clear hM3 hb3 hR3 BG2
      go_wp2_with fail
      refine hla.mono ?_
      clear hla
      rintro e w4 ⟨A4, c4, sts, rfl, hc4, hM4, hK4, hR4, hQ4, hS4, hV4⟩
      have HR4 := Lib.hid hR4
      have e1 : ((L : Int) != (L : Int)) = false := by simp
      obtain ⟨t, ht⟩ : ∃ t : Nat, max 0 (min which ((L : Int) - 1)) = (t : Int) := ⟨(max 0 (min which ((L : Int) - 1))).toNat, by omega⟩
      have htl : t < L := by omega
      have q0 : (L : Int) ≤ 8 := by omega
      have q1 : (1 : Int) ≤ (L : Int) := by omega
      have q2 : (m : Int) ≤ 10 := by omega
      have HL4 := Lib.hid (show LsI (fun j => j < w2.heap.size ∨ RwX (.slice A4 L c4) j) w2 w4 a cb bf k m s ps (lostG t 0 0) from ⟨sts, hM4, hQ4, fun i p hi => (hV4 i p hi).congr fun x _ => lostG_zero t i x, fun i p x st hi hx => by rw [lostG_zero]; exact rtv_sld (N := k + m) hS4 HPT.out i p x st hi hx⟩)
      have BG4 := Lib.hid (hK4.box BG3.out BG2lt.out)
      clear hM4 hK4 hR4 hQ4 hV4 hS4
      go_wp2_with fail
      clear ht
      go_loopw [11] (fun vd wr => ∃ d : Nat, d ≤ m + 1 ∧ vd = .int .i64 d ∧ Hid (LsI (fun j => j < w2.heap.size ∨ RwX (.slice A4 L c4) j) w2 wr a cb bf k m s ps (lostG t d 0)) ∧ Hid (KpX (fun j => j < w2.heap.size ∨ RwX (.slice A4 L c4) j) w4 wr)) (fun vd _ => (m + 1) - (intOf vd).toNat)
      case atStart => exact ⟨0, Nat.zero_le _, rfl, HL4, Lib.hid KpX.refl⟩
      case round =>
        clear HL4
        obtain ⟨d, hd, rfl, HI, HK⟩ := hrel
        have p0 : (0 : Int) ≤ (d : Int) := Int.natCast_nonneg _
        have bGr := HK.out.box BG4.out (.inl BG2lt.out)
        have kg : wr.cell? ⟨q, 1, none⟩ = some (.int .i64 (m : Int)) := bGr.cell 1
        by_cases hlt : d < m + 1
        · have p1 : (d : Int) ≤ (m : Int) := by omega
          clear bGr
          go_wp2_with fail
          go_loopw [12] (fun vi wi => ∃ i : Nat, i ≤ L ∧ vi = .int .i64 i ∧ Hid (LsI (fun j => j < w2.heap.size ∨ RwX (.slice A4 L c4) j) w2 wi a cb bf k m s ps (lostG t d i)) ∧ Hid (KpX (fun j => j < w2.heap.size ∨ RwX (.slice A4 L c4) j) w4 wi)) (fun vi _ => L - (intOf vi).toNat)
          case atStart => exact ⟨0, Nat.zero_le _, rfl, HI, HK⟩
          case round =>
            clear HI HK
            obtain ⟨i, hi, rfl, HI, HK⟩ := hrel
            have r0 : (0 : Int) ≤ (i : Int) := Int.natCast_nonneg _
            by_cases hil : i < L
            · have r1 : (i : Int) < (L : Int) := by omega
              by_cases hit : i = t ∨ d = 0
              · have hrt := HI.out.rot HPT.out (d := d) (z := i) (by omega)
                have HG := Lib.hid (fun p x => (lostG_rot (kk := t) (d := d) (i := i) (p := p) (x := x) hit).symm)
                by_cases hi2 : i = t
                · subst hi2
                  clear hit
                  go_wp2_with fail
                  refine hrt.mono ?_
                  clear hrt
                  rintro e w5 ⟨⟨E, rfl⟩, hI5, hK5⟩
                  have HI5 := Lib.hid (hI5.congr fun p _ x => HG.out p x)
                  have HK5 := Lib.hid (HK.out.trans hK5)
                  clear hI5 hK5
                  go_wp2_with fail
                  exact ⟨⟨i + 1, by omega, by go_num, HI5, HK5⟩, by simp [intOf]; omega⟩
                · have hd0 : d = 0 := hit.resolve_left hi2
                  have f2 : ((d : Int) == 0) = true := by rw [hd0]; rfl
                  have f1 : ((i : Int) == (t : Int)) = false := by
                    have : (i : Int) ≠ (t : Int) := by omega
                    simpa using this
                  clear hit hi2 hd0
                  go_wp2_with fail
                  refine hrt.mono ?_
                  clear hrt
                  rintro e w5 ⟨⟨E, rfl⟩, hI5, hK5⟩
                  have HI5 := Lib.hid (hI5.congr fun p _ x => HG.out p x)
                  have HK5 := Lib.hid (HK.out.trans hK5)
                  clear hI5 hK5
                  go_wp2_with fail
                  exact ⟨⟨i + 1, by omega, by go_num, HI5, HK5⟩, by simp [intOf]; omega⟩
              · have HG := Lib.hid (fun p x => (lostG_not (kk := t) (d := d) (i := i) (p := p) (x := x) hit).symm)
                have f1 : ((i : Int) == (t : Int)) = false := by
                  have : (i : Int) ≠ (t : Int) := by omega
                  simpa using this
                have f2 : ((d : Int) == 0) = false := by
                  have : (d : Int) ≠ 0 := by omega
                  simpa using this
                have HI5 := Lib.hid (HI.out.congr fun p _ x => HG.out p x)
                have hd0 : ¬ d = 0 := by omega
                have ht0 : ¬ i = t := by omega
                clear hit
                go_wp2_with fail
                exact ⟨⟨i + 1, by omega, by go_num, HI5, HK⟩, by simp [intOf]; omega⟩
            · have r1 : ¬ (i : Int) < (L : Int) := by omega
              obtain rfl : i = L := by omega
              have HI5 := Lib.hid (HI.out.congr (gs' := lostG t (d + 1) 0) fun p hp x => (lostG_row (by rw [← R1.out.1]; exact hp)).symm)
              go_wp2_with fail
              exact ⟨⟨d + 1, by omega, by go_num, HI5, HK⟩, by simp [intOf]; omega⟩
        · have p1 : ¬ (d : Int) ≤ (m : Int) := by omega
          obtain rfl : d = m + 1 := by omega
          clear bGr
          have HI' := Lib.hid (HI.out.congr (gs' := lostH m t 0) fun p _ x => lostH_zero.symm)
          have HK' := HK
          clear HI
          have hsn := snew_any (w := wr)
          go_wp2_with fail
          refine hsn.mono ?_
          clear hsn
          rintro e w7 ⟨sc, rfl, hs6, bS, hb7⟩
          obtain ⟨X, hX⟩ : ∃ X : Nat → Prop, (fun j => j < w2.heap.size ∨ RwX (.slice A4 L c4) j) = X := ⟨_, rfl⟩
          rw [hX] at HI' HK'
          obtain ⟨sts6, hM6, hQ6, hV6, _⟩ := HI'.out
          have hXs : ∀ j, X j → j < wr.heap.size := fun j hj => hM6.lt hj
          have HS7 := Lib.hid (show ∃ sts, MX (fun j => X j ∨ j = sc) w2 w7 a cb bf k m s sts ∧ Qt s (k + m) sts ∧ Vws k (k + m) ps (lostH m t 0) sts from ⟨sts6, (hM6.below hb7).sub (fun j hj => by
            rcases hj with h | h
            · exact .inl h
            · have := bS.lt; exact .inr (by omega)), hQ6, hV6⟩)
          have HX4 := Lib.hid (show ∀ j, RwX (.slice A4 L c4) j → X j by rw [← hX]; exact fun j hj => .inr hj)
          have HXW := Lib.hid (show ∀ j, j < w2.heap.size → X j by rw [← hX]; exact fun j hj => .inl hj)
          have HSX := Lib.hid (show ¬ X sc from fun h => by have := hXs sc h; omega)
          have HS0 := Lib.hid (show w2.heap.size ≤ sc from Nat.le_trans (hM6.bel.size) hs6)
          have HK7 := Lib.hid (HK'.out.trans (KpX.of_below hb7 hXs))
          have BS7 := Lib.hid (show BoxAt w7 sc (scS L 0) from bS)
          clear hs6 bS hb7 hX hXs hM6 hQ6 hV6 HI' HK HK'
          go_wp2_with fail
          go_loopw [14] (fun vi wr => ∃ i : Nat, i ≤ L ∧ vi = .int .i64 i ∧ Hid (∃ sts, MX (fun j => X j ∨ j = sc) w2 wr a cb bf k m s sts ∧ Qt s (k + m) sts ∧ Vws k (k + m) ps (lostH m t i) sts) ∧ Hid (KpX X w4 wr) ∧ Hid (BoxAt wr sc (scS L i))) (fun vi _ => L - (intOf vi).toNat)
          case atStart => exact ⟨0, Nat.zero_le _, rfl, HS7, HK7, BS7⟩
          case round =>
            clear HS7 BS7 HK7
            obtain ⟨i, hi, rfl, HS, HK, HB⟩ := hrel
            have r0 : (0 : Int) ≤ (i : Int) := Int.natCast_nonneg _
            by_cases hil : i < L
            · have r1 : (i : Int) < (L : Int) := by omega
              obtain ⟨sts, hM, hQ, hV⟩ := HS.out
              have HQS := Lib.hid hQ
              have HVS := Lib.hid hV
              have hMi := Nat.mod_eq_of_lt hil
              by_cases hit : i = t
              · have hst := sstep_lost (c := c4) hM HB.out HSX.out HS0.out (HK.out.rd RfIR.stable HR4.out HX4.out) hc4 (by omega) (by omega) (by omega) (by have := around_pt ps; rw [R1.out.1] at this; exact this) R1.out.1 HPT.out hQ hV (by rw [hMi, hit, lostH_cnt, if_pos rfl]; omega)
                have f1 : ((i : Int) == (t : Int)) = true := by rw [hit]; simp
                have f2 : ((i : Int) != (t : Int)) = false := by rw [hit]; simp
                have HPS := Lib.hid (show ∀ p x, lostH m t (i + 1) p x = lostH m t i p x from fun p x => by rw [hit]; exact lostH_pass.symm)
                clear hit hMi
                rw [Nat.mod_eq_of_lt hil] at hst
                obtain ⟨x, hxe⟩ : ∃ x, ptR ps i = x := ⟨_, rfl⟩
                have hx3 : x.kind = 3 ∧ x.place = (i : Int) := by rw [← hxe]; exact ⟨rfl, rfl⟩
                rw [hxe] at hst
                have HXE := Lib.hid hxe
                obtain ⟨xk, xp, xg⟩ := x
                obtain ⟨rfl, rfl⟩ := hx3
                unfold RfI.C at hst
                dsimp only at hst
                clear hxe hM hQ hV HS
                go_wp2_with fail
                refine hst.mono ?_
                clear hst
                rintro e w8 ⟨rfl, hM8, hK8, hB8⟩
                have HS8 := Lib.hid (show ∃ sts, MX (fun j => X j ∨ j = sc) w2 w8 a cb bf k m s sts ∧ Qt s (k + m) sts ∧ Vws k (k + m) ps (lostH m t (i + 1)) sts from ⟨sts, hM8, HQS.out, fun j p hj => (HVS.out j p hj).congr fun x _ => HPS.out j x⟩)
                have HK8 := Lib.hid (HK.out.trans (hK8.mono fun j hj => hj))
                have HB8 := Lib.hid hB8
                clear hM8 hK8 hB8
                obtain ⟨b5, o5, x, e5, hx, hbl, _, x0, x1, x2⟩ := rfi_at (HK8.out.rd RfIR.stable HR4.out HX4.out) hil
                rw [ptRs_at ps (by rw [R1.out.1]; exact hil), HXE.out] at hx
                obtain rfl := Option.some.inj hx
                dsimp only at x0 x1 x2
                obtain ⟨W, hW⟩ : ∃ W, w8.alloc (.cells #[.int .u8 3, .int .i64 (i : Int), .int .u64 xg] 38) = W := ⟨_, rfl⟩
                obtain ⟨y, hy⟩ : ∃ y, w8.heap.size = y := ⟨_, rfl⟩
                have hbW : Below w8.heap.size w8 W := by rw [← hW]; exact (Below.refl _ _).alloc (Nat.le_refl _) _
                have bY : BoxAt W y #[.int .u8 3, .int .i64 (i : Int), .int .u64 xg] := by rw [← hW, ← hy]; exact BoxAt.new _ _ _
                have y0 : W.cell? ⟨y, 0, none⟩ = some (.int .u8 3) := bY.cell 0
                have y1 : W.cell? ⟨y, 1, none⟩ = some (.int .i64 (i : Int)) := bY.cell 1
                have y2 : W.cell? ⟨y, 2, none⟩ = some (.int .u64 xg) := bY.cell 2
                have v0 : W.cell? ⟨b5, o5 + i * 3, none⟩ = some (.int .u8 3) := (hbW.cell (p := ⟨b5, _, none⟩) hbl).trans x0
                have v1 : W.cell? ⟨b5, o5 + i * 3 + 1, none⟩ = some (.int .i64 (i : Int)) := (hbW.cell (p := ⟨b5, _, none⟩) hbl).trans x1
                have v2 : W.cell? ⟨b5, o5 + i * 3 + 2, none⟩ = some (.int .u64 xg) := (hbW.cell (p := ⟨b5, _, none⟩) hbl).trans x2
                have hyW := bY.lt
                have hbW4 : b5 < W.heap.size := Nat.lt_of_lt_of_le hbl hbW.size
                have HBW := Lib.hid hbW
                subst e5
                clear hx hbl x0 x1 x2 bY hbW HK
                go_wp2_with fail
                refine wp_region_later (by kernel_rfl) (by kernel_rfl) ?_
                repeat (go_big_quiet_step (fail))
                refine wpQuiet_nil ?_
                rintro _ ⟨z, rfl⟩
                have hbz := HBW.out.trans (z.ok.mono HBW.out.size)
                have HS9 := Lib.hid (show ∃ sts, MX (fun j => X j ∨ j = sc) w2 z.to a cb bf k m s sts ∧ Qt s (k + m) sts ∧ Vws k (k + m) ps (lostH m t (i + 1)) sts from by
                  obtain ⟨sts, h1, h2, h3⟩ := HS8.out
                  exact ⟨sts, h1.below' hbz, h2, h3⟩)
                have HK9 := Lib.hid (HK8.out.trans (KpX.of_below hbz fun j hj => by obtain ⟨sts, h1, _⟩ := HS8.out; exact h1.lt (.inl hj)))
                have HB9 := Lib.hid (HB8.out.below hbz)
                clear hbz y0 y1 y2 v0 v1 v2
                go_wp2_with fail
                exact ⟨⟨i + 1, by omega, by go_num, HS9, HK9, HB9⟩, by simp [intOf]; omega⟩
              · have hst := sstep_mend (c := c4) hM HB.out HSX.out HS0.out (HK.out.rd RfIR.stable HR4.out HX4.out) hc4 (by omega) (by omega) (by omega) (by have := around_pt ps; rw [R1.out.1] at this; exact this) R1.out.1 HPT.out hQ hV (by rw [hMi, lostH_cnt, if_neg hit, if_neg (by omega)]; omega)
                have hmn : misN (lostH m t i) (k + m) i = 1 := by rw [lostH_mis (by omega), if_neg hit, if_neg (by omega)]
                have f1 : ((i : Int) == (t : Int)) = false := by
                  have : (i : Int) ≠ (t : Int) := by omega
                  simpa using this
                have f2 : ((i : Int) != (t : Int)) = true := by
                  have : (i : Int) ≠ (t : Int) := by omega
                  simpa using this
                have HPS := Lib.hid (show ∀ p x, lostH m t (i + 1) p x = mendG (lostH m t i) i p x from fun p x => (lostH_mend hit).symm)
                clear hit hMi
                rw [Nat.mod_eq_of_lt hil, hmn] at hst
                obtain ⟨x, hxe⟩ : ∃ x, ptR ps i = x := ⟨_, rfl⟩
                have hx3 : x.kind = 3 ∧ x.place = (i : Int) := by rw [← hxe]; exact ⟨rfl, rfl⟩
                rw [hxe] at hst
                have HXE := Lib.hid hxe
                obtain ⟨xk, xp, xg⟩ := x
                obtain ⟨rfl, rfl⟩ := hx3
                unfold RfI.C at hst
                dsimp only at hst
                clear hxe hmn hM hQ hV HS
                go_wp2_with fail
                refine hst.mono ?_
                clear hst
                rintro e w8 ⟨sts', rfl, hM8, hK8, hB8, hQ8, hV8⟩
                have HS8 := Lib.hid (show ∃ sts, MX (fun j => X j ∨ j = sc) w2 w8 a cb bf k m s sts ∧ Qt s (k + m) sts ∧ Vws k (k + m) ps (lostH m t (i + 1)) sts from ⟨sts', hM8, hQ8, fun j p hj => (hV8 j p hj).congr fun x _ => HPS.out j x⟩)
                have HK8 := Lib.hid (HK.out.trans (hK8.mono fun j hj => hj))
                have HB8 := Lib.hid hB8
                clear hM8 hK8 hB8 hQ8 hV8
                obtain ⟨b5, o5, x, e5, hx, hbl, _, x0, x1, x2⟩ := rfi_at (HK8.out.rd RfIR.stable HR4.out HX4.out) hil
                rw [ptRs_at ps (by rw [R1.out.1]; exact hil), HXE.out] at hx
                obtain rfl := Option.some.inj hx
                dsimp only at x0 x1 x2
                obtain ⟨W, hW⟩ : ∃ W, w8.alloc (.cells #[.int .u8 3, .int .i64 (i : Int), .int .u64 xg] 38) = W := ⟨_, rfl⟩
                obtain ⟨y, hy⟩ : ∃ y, w8.heap.size = y := ⟨_, rfl⟩
                have hbW : Below w8.heap.size w8 W := by rw [← hW]; exact (Below.refl _ _).alloc (Nat.le_refl _) _
                have bY : BoxAt W y #[.int .u8 3, .int .i64 (i : Int), .int .u64 xg] := by rw [← hW, ← hy]; exact BoxAt.new _ _ _
                have y0 : W.cell? ⟨y, 0, none⟩ = some (.int .u8 3) := bY.cell 0
                have y1 : W.cell? ⟨y, 1, none⟩ = some (.int .i64 (i : Int)) := bY.cell 1
                have y2 : W.cell? ⟨y, 2, none⟩ = some (.int .u64 xg) := bY.cell 2
                have v0 : W.cell? ⟨b5, o5 + i * 3, none⟩ = some (.int .u8 3) := (hbW.cell (p := ⟨b5, _, none⟩) hbl).trans x0
                have v1 : W.cell? ⟨b5, o5 + i * 3 + 1, none⟩ = some (.int .i64 (i : Int)) := (hbW.cell (p := ⟨b5, _, none⟩) hbl).trans x1
                have v2 : W.cell? ⟨b5, o5 + i * 3 + 2, none⟩ = some (.int .u64 xg) := (hbW.cell (p := ⟨b5, _, none⟩) hbl).trans x2
                have hyW := bY.lt
                have hbW4 : b5 < W.heap.size := Nat.lt_of_lt_of_le hbl hbW.size
                have HBW := Lib.hid hbW
                subst e5
                clear hx hbl x0 x1 x2 bY hbW HK
                go_wp2_with fail
                refine wp_region_later (by kernel_rfl) (by kernel_rfl) ?_
                repeat (go_big_quiet_step (fail))
                refine wpQuiet_nil ?_
                rintro _ ⟨z, rfl⟩
                have hbz := HBW.out.trans (z.ok.mono HBW.out.size)
                have HS9 := Lib.hid (show ∃ sts, MX (fun j => X j ∨ j = sc) w2 z.to a cb bf k m s sts ∧ Qt s (k + m) sts ∧ Vws k (k + m) ps (lostH m t (i + 1)) sts from by
                  obtain ⟨sts, h1, h2, h3⟩ := HS8.out
                  exact ⟨sts, h1.below' hbz, h2, h3⟩)
                have HK9 := Lib.hid (HK8.out.trans (KpX.of_below hbz fun j hj => by obtain ⟨sts, h1, _⟩ := HS8.out; exact h1.lt (.inl hj)))
                have HB9 := Lib.hid (HB8.out.below hbz)
                clear hbz y0 y1 y2 v0 v1 v2
                go_wp2_with fail
                exact ⟨⟨i + 1, by omega, by go_num, HS9, HK9, HB9⟩, by simp [intOf]; omega⟩
            · have r1 : ¬ (i : Int) < (L : Int) := by omega
              obtain rfl : i = L := by omega
              obtain ⟨sts, hM, hQ, hV⟩ := HS.out
              have hdr : Below wr.heap.size wr wr.drew := (Below.refl _ _).drew
              have hMd := hM.below' hdr
              have HWH := Lib.hid (show ∀ j r, (ptRs ps)[j]? = some r → WhC wr.drew (.pointer (some ⟨a, 0, none⟩)) (.pointer (some ⟨cb, 0, none⟩)) r (lostH m t i j) (k + m) from fun j r hj => by
                have hjl : j < ps.length := by rw [← ptRs_len]; exact (List.getElem?_eq_some_iff.1 hj).1
                rw [ptRs_at ps hjl] at hj
                obtain rfl := Option.some.inj hj
                obtain ⟨p, hpj⟩ : ∃ p, ps[j]? = some p := ⟨_, List.getElem?_eq_getElem hjl⟩
                exact hMd.whc (HPT.out.ref hpj) (HPT.out.hgen hpj) (HPT.out.byt p (List.mem_of_getElem? hpj)) (HPT.out.sz p (List.mem_of_getElem? hpj)) (hV j p hpj) (ptR_C hpj) rfl)
              have HRd := Lib.hid ((HK.out.rd RfIR.stable HR4.out HX4.out).below RfIR.stable hdr)
              have HCN := Lib.hid hMd.cnt
              have HCM := Lib.hid hMd.cmt
              have hto := ltotal_any (c := c4) HRd.out (by omega) HCN.out (by omega) HWH
              rw [lost_sum (by omega) htl] at hto
              have hbGd := (HK.out.box BG4.out (HXW.out _ BG2lt.out)).below hdr
              have BGd := Lib.hid hbGd
              have s0 : wr.drew.cell? ⟨q, 1, none⟩ = some (.int .i64 (m : Int)) := hbGd.cell 1
              have HLO := Lib.hid (fun W (hW : Below wr.drew.heap.size wr.drew W) => llost_any (m := m) (c := c4) (HRd.out.below RfIR.stable hW) (by omega) (HCN.out.below hW) (show k + m ≤ 255 by omega) (Lib.hid fun j r hj => (HWH.out j r hj).below hW) (HCM.out.below hW))
              have HL1 := Lib.hid (lost_one (m := m) (kk := t) (L := i) (N := k + m) (rs := ptRs ps) (by omega) htl)
              have HBD := Lib.hid (HB2.out.trans (hMd.bel.mono HB2.out.size))
              have mw : IntKind.i64.wrap ((m : Int) + 1) = (m : Int) + 1 := by rw [IntKind.wrap_i64]; omega
              have x1 : (((m + 1 : Nat) : Int) == (m : Int) + 1) = true := by push_cast; simp
              clear hM hQ hV hdr hMd hbGd HS HK HB HWH
              go_wp2_with fail
              refine wp_region_held_drew (S := fun w' => w'.cell? ⟨q, 1, none⟩ = some (.int .i64 (m : Int))) (by kernel_rfl) (by first | exact s0 | exact s5 | exact s6 | exact s7) (fun hHeld => ?_)
              refine wpAnyH_take (i := 0) (v := ?_) rfl (by kernel_rfl) (by kernel_rfl) (by kernel_rfl) (fun _ _ _ h => h) (Or.inl ⟨by first | kernel_rfl | rfl, ?_⟩) (by assumption) ?_
              rotate_left
              · (intro wq hSw; (try dsimp only at hSw); (try simp (maxSteps := 2000000) only [zz1, zz2, zz3]); go_simp); try with_reducible rfl
              try simp (maxSteps := 2000000) only [zz1, zz2, zz3, Act.put, zz4, zz5, zz6]
              refine wpAnyH_take (i := 1) (v := ?_) rfl (by kernel_rfl) (by kernel_rfl) (by kernel_rfl) (fun _ _ _ h => h) (Or.inl ⟨by first | kernel_rfl | rfl, ?_⟩) (by assumption) ?_
              rotate_left
              · (intro wq hSw; (try dsimp only at hSw); (try simp (maxSteps := 2000000) only [zz1, zz2, zz3]); go_simp); try with_reducible rfl
              try simp (maxSteps := 2000000) only [zz1, zz2, zz3, Act.put, zz4, zz5, zz6]
              refine wpAnyH_take (i := 2) (v := ?_) rfl (by kernel_rfl) (by kernel_rfl) (by kernel_rfl) (fun _ _ _ h => h) (Or.inl ⟨by first | kernel_rfl | rfl, ?_⟩) (by assumption) ?_
              rotate_left
              · (intro wq hSw; (try dsimp only at hSw); (try simp (maxSteps := 2000000) only [zz1, zz2, zz3]); go_simp); try with_reducible rfl
              try simp (maxSteps := 2000000) only [zz1, zz2, zz3, Act.put, zz4, zz5, zz6]
              refine wpAnyH_take (i := 4) (v := ?_) rfl (by kernel_rfl) (by kernel_rfl) (by kernel_rfl) (fun _ _ _ h => h) (Or.inl ⟨by first | kernel_rfl | rfl, ?_⟩) (by assumption) ?_
              rotate_left
              · (intro wq hSw; (try dsimp only at hSw); (try simp (maxSteps := 2000000) only [zz1, zz2, zz3]); go_simp); try with_reducible rfl
              try simp (maxSteps := 2000000) only [zz1, zz2, zz3, Act.put, zz4, zz5, zz6]
              refine wpAnyH_take (i := 5) (v := ?_) rfl (by kernel_rfl) (by kernel_rfl) (by kernel_rfl) (fun _ _ _ h => h) (Or.inl ⟨by first | kernel_rfl | rfl, ?_⟩) (by assumption) ?_
              rotate_left
              · (intro wq hSw; (try dsimp only at hSw); (try simp (maxSteps := 2000000) only [zz1, zz2, zz3]); go_simp); try with_reducible rfl
              try simp (maxSteps := 2000000) only [zz1, zz2, zz3, Act.put, zz4, zz5, zz6]
              refine wpAnyH_take (i := 6) (v := ?_) rfl (by kernel_rfl) (by kernel_rfl) (by kernel_rfl) (fun _ _ _ h => h) (Or.inl ⟨by first | kernel_rfl | rfl, ?_⟩) (by assumption) ?_
              rotate_left
              · (intro wq hSw; (try dsimp only at hSw); (try simp (maxSteps := 2000000) only [zz1, zz2, zz3]); go_simp); try with_reducible rfl
              try simp (maxSteps := 2000000) only [zz1, zz2, zz3, Act.put, zz4, zz5, zz6]
              refine wpAnyH_ready (rs := [3]) (by kernel_rfl) (by simp) ?_
              refine AllReadyH.cons rfl (fun K hK => ?_) AllReadyH.nil
              try simp (maxSteps := 2000000) only [zz1, zz2, zz3]
              go_simp
              go_at_call 19
              refine hto.mono ?_
              clear hto
              rintro e w5 ⟨rfl, hb5⟩
              have s5 : w5.cell? ⟨q, 1, none⟩ = some (.int .i64 (m : Int)) := (BGd.out.below hb5).cell 1
              have hlo := HLO.out w5 hb5
              have HB5 := Lib.hid hb5
              clear hb5
              try (go_wp2_with fail)
              refine hK.out _ _ (by first | exact s0 | exact s5 | exact s6 | exact s7) (fun hHeld => ?_)
              clear hK K
              try simp (maxSteps := 2000000) only [zz1, zz2, zz3, Act.put, zz4, zz5, zz6]
              refine wpAnyH_take (i := 7) (v := ?_) rfl (by kernel_rfl) (by kernel_rfl) (by kernel_rfl) (fun _ _ _ h => h) (Or.inl ⟨by first | kernel_rfl | rfl, ?_⟩) (by assumption) ?_
              rotate_left
              · (intro wq hSw; (try dsimp only at hSw); (try simp (maxSteps := 2000000) only [zz1, zz2, zz3]); go_simp); try with_reducible rfl
              try simp (maxSteps := 2000000) only [zz1, zz2, zz3, Act.put, zz4, zz5, zz6]
              refine wpAnyH_take (i := 8) (v := ?_) rfl (by kernel_rfl) (by kernel_rfl) (by kernel_rfl) (fun _ _ _ h => h) (Or.inl ⟨by first | kernel_rfl | rfl, ?_⟩) (by assumption) ?_
              rotate_left
              · (intro wq hSw; (try dsimp only at hSw); (try simp (maxSteps := 2000000) only [zz1, zz2, zz3]); go_simp); try with_reducible rfl
              try simp (maxSteps := 2000000) only [zz1, zz2, zz3, Act.put, zz4, zz5, zz6]
              refine wpAnyH_take (i := 9) (v := ?_) rfl (by kernel_rfl) (by kernel_rfl) (by kernel_rfl) (fun _ _ _ h => h) (Or.inl ⟨by first | kernel_rfl | rfl, ?_⟩) (by assumption) ?_
              rotate_left
              · (intro wq hSw; (try dsimp only at hSw); (try simp (maxSteps := 2000000) only [zz1, zz2, zz3]); go_simp); try with_reducible rfl
              try simp (maxSteps := 2000000) only [zz1, zz2, zz3, Act.put, zz4, zz5, zz6]
              refine wpAnyH_take (i := 10) (v := ?_) rfl (by kernel_rfl) (by kernel_rfl) (by kernel_rfl) (fun _ _ _ h => h) (Or.inl ⟨by first | kernel_rfl | rfl, ?_⟩) (by assumption) ?_
              rotate_left
              · (intro wq hSw; (try dsimp only at hSw); (try simp (maxSteps := 2000000) only [zz1, zz2, zz3]); go_simp); try with_reducible rfl
              try simp (maxSteps := 2000000) only [zz1, zz2, zz3, Act.put, zz4, zz5, zz6]
              refine wpAnyH_take (i := 11) (v := ?_) rfl (by kernel_rfl) (by kernel_rfl) (by kernel_rfl) (fun _ _ _ h => h) (Or.inl ⟨by first | kernel_rfl | rfl, ?_⟩) (by assumption) ?_
              rotate_left
              · (intro wq hSw; (try dsimp only at hSw); (try simp (maxSteps := 2000000) only [zz1, zz2, zz3]); go_simp); try with_reducible rfl
              try simp (maxSteps := 2000000) only [zz1, zz2, zz3, Act.put, zz4, zz5, zz6]
              refine wpAnyH_ready (rs := [12]) (by kernel_rfl) (by simp) ?_
              refine AllReadyH.cons rfl (fun K hK => ?_) AllReadyH.nil
              try simp (maxSteps := 2000000) only [zz1, zz2, zz3]
              go_simp
              go_at_call 29
              refine hlo.mono ?_
              clear hlo
              rintro e w6 ⟨A6, l6, c6, rfl, hc6, hr6, hb6⟩
              have e6 : l6 = 1 := by rw [← hr6.1]; exact HL1.out
              subst e6
              have hb6' := HB5.out.trans (hb6.mono HB5.out.size)
              have s6 : w6.cell? ⟨q, 1, none⟩ = some (.int .i64 (m : Int)) := (BGd.out.below hb6').cell 1
              have HB6 := Lib.hid hb6'
              clear hb6 hb6' hr6
              try (go_wp2_with fail)
              refine hK.out _ _ (by first | exact s0 | exact s5 | exact s6 | exact s7) (fun hHeld => ?_)
              clear hK K
              try simp (maxSteps := 2000000) only [zz1, zz2, zz3, Act.put, zz4, zz5, zz6]
              refine wpAnyH_take (i := 13) (v := ?_) rfl (by kernel_rfl) (by kernel_rfl) (by kernel_rfl) (fun _ _ _ h => h) (Or.inl ⟨by first | kernel_rfl | rfl, ?_⟩) (by assumption) ?_
              rotate_left
              · (intro wq hSw; (try dsimp only at hSw); (try simp (maxSteps := 2000000) only [zz1, zz2, zz3]); go_simp); try with_reducible rfl
              try simp (maxSteps := 2000000) only [zz1, zz2, zz3, Act.put, zz4, zz5, zz6]
              refine wpAnyH_take (i := 14) (v := ?_) rfl (by kernel_rfl) (by kernel_rfl) (by kernel_rfl) (fun _ _ _ h => h) (Or.inl ⟨by first | kernel_rfl | rfl, ?_⟩) (by assumption) ?_
              rotate_left
              · (intro wq hSw; (try dsimp only at hSw); (try simp (maxSteps := 2000000) only [zz1, zz2, zz3]); go_simp); try with_reducible rfl
              try simp (maxSteps := 2000000) only [zz1, zz2, zz3, Act.put, zz4, zz5, zz6]
              refine wpAnyH_take (i := 15) (v := ?_) rfl (by kernel_rfl) (by kernel_rfl) (by kernel_rfl) (fun _ _ _ h => h) (Or.inl ⟨by first | kernel_rfl | rfl, ?_⟩) (by assumption) ?_
              rotate_left
              · (intro wq hSw; (try dsimp only at hSw); (try simp (maxSteps := 2000000) only [zz1, zz2, zz3]); go_simp); try with_reducible rfl
              try simp (maxSteps := 2000000) only [zz1, zz2, zz3, Act.put, zz4, zz5, zz6]
              refine wpAnyH_take (i := 16) (v := ?_) rfl (by kernel_rfl) (by kernel_rfl) (by kernel_rfl) (fun _ _ _ h => h) (Or.inl ⟨by first | kernel_rfl | rfl, ?_⟩) (by assumption) ?_
              rotate_left
              · (intro wq hSw; (try dsimp only at hSw); (try simp (maxSteps := 2000000) only [zz1, zz2, zz3]); go_simp); try with_reducible rfl
              try simp (maxSteps := 2000000) only [zz1, zz2, zz3, Act.put, zz4, zz5, zz6]
              refine wpAnyH_ready (rs := [17]) (by kernel_rfl) (by simp) ?_
              refine AllReadyH.cons rfl (fun K hK => ?_) AllReadyH.nil
              try simp (maxSteps := 2000000) only [zz1, zz2, zz3]
              go_simp
              go_at_call 34
              refine scrubs_any.mono ?_
              rintro e w7 ⟨rfl, hb7⟩
              have hb7q := HB6.out.trans (hb7.mono HB6.out.size)
              have s7 : w7.cell? ⟨q, 1, none⟩ = some (.int .i64 (m : Int)) := (BGd.out.below hb7q).cell 1
              have HB7 := Lib.hid hb7q
              clear hb7 hb7q
              try (go_wp2_with fail)
              refine hK.out _ _ (by first | exact s0 | exact s5 | exact s6 | exact s7) (fun hHeld => ?_)
              clear hK K
              try simp (maxSteps := 2000000) only [zz1, zz2, zz3, Act.put, zz4, zz5, zz6]
              refine wpAnyH_take (i := 18) (v := ?_) rfl (by kernel_rfl) (by kernel_rfl) (by kernel_rfl) (fun _ _ _ h => h) (Or.inl ⟨by first | kernel_rfl | rfl, ?_⟩) (by assumption) ?_
              rotate_left
              · (intro wq hSw; (try dsimp only at hSw); (try simp (maxSteps := 2000000) only [zz1, zz2, zz3]); go_simp); try with_reducible rfl
              try simp (maxSteps := 2000000) only [zz1, zz2, zz3, Act.put, zz4, zz5, zz6]
              refine wpAnyH_take (i := 19) (v := ?_) rfl (by kernel_rfl) (by kernel_rfl) (by kernel_rfl) (fun _ _ _ h => h) (Or.inl ⟨by first | kernel_rfl | rfl, ?_⟩) (by assumption) ?_
              rotate_left
              · (intro wq hSw; (try dsimp only at hSw); (try simp (maxSteps := 2000000) only [zz1, zz2, zz3]); go_simp); try with_reducible rfl
              try simp (maxSteps := 2000000) only [zz1, zz2, zz3, Act.put, zz4, zz5, zz6]
              refine wpAnyH_done (by kernel_rfl) ?_ _
              go_wp2_with fail
              go_ret
              exact ⟨rfl, HBD.out.trans (HB7.out.mono HBD.out.size)⟩
end
section
open Go.ChangeShapes Go.WideShapes Go.ChangeAt Go.Deep
theorem opens_by : Opens Tryz.prog 5 ByR 1 :=
  ⟨by kernel_rfl, by omega, fun H enc w base spare held fuel cs x _ hx => by
    obtain ⟨n, rfl, _, hw⟩ := DataW.trod_int Tryz.underlying5 hx
    have h2 : 0 ≤ n ∧ n ≤ 255 := by
      simp [Lit.wf, IntKind.min, IntKind.max, IntKind.signed, IntKind.bits] at hw
      omega
    exact ⟨n.toNat, by omega, by rw [show ((n.toNat : Nat) : Int) = n by omega]⟩⟩
theorem u64_bounds {z : Int} (h : (Lit.int .u64 z).wf = true) : 0 ≤ z ∧ z < 18446744073709551616 := by
  simp [Lit.wf, IntKind.min, IntKind.max, IntKind.bits, IntKind.signed] at h
  omega
set_option maxRecDepth 100000 in
theorem open_geo {H : Type} {enc : TypeId × Value → H} {w : World} {base b0 : Nat} {spare : Nat → Bool} {held : Bool} {r : Reach} {v : Value} {d : DataW H} {ps : List MemPlace}
    (hval : Value.okWide Tryz.prog w r b0 23 v) (h : DataW.Trod enc Tryz.prog w base spare held 23 v d ps) : ∃ k m s : Int, v = .agg #[.int .i64 k, .int .i64 m, .int .i64 s] := by
  obtain ⟨cs, rfl, hsz⟩ := okWide_struct Tryz.underlying23 hval
  obtain ⟨fuel, hx⟩ := h
  have h5 : cs.size = 3 := hsz.trans (by kernel_rfl)
  have hl : (Value.agg cs).cells.toList.length = 3 := by simpa [Value.cells] using h5
  obtain ⟨xs, n, _, _, hlen, hxl, hf⟩ := DataW.trod_struct Tryz.underlying23 hx
  have e0 : (Value.agg cs).cells.toList = cs.toList := rfl
  rw [e0] at hf hl
  match hc : cs.toList, hl with
  | [c0, c1, c2], _ =>
    rw [hc] at hf
    have f0 := hf 0 _ rfl
    have f1 := hf 1 _ rfl
    have f2 := hf 2 _ rfl
    have k1 : Tryz.prog.cellsOf 3 = 1 := by kernel_rfl
    have hx3 : xs.length = 3 := hxl
    simp only [List.getElem_toArray, List.getElem_cons_zero, List.getElem_cons_succ, k1, List.drop_zero, List.drop_succ_cons, List.take_succ_cons, List.take_zero] at f0 f1 f2
    rw [List.getElem?_eq_getElem (by omega)] at f0 f1 f2
    obtain ⟨s, e1, _, _⟩ := DataW.trod_int Tryz.underlying3 f0
    obtain ⟨t, e2, _, _⟩ := DataW.trod_int Tryz.underlying3 f1
    obtain ⟨u, e3, _, _⟩ := DataW.trod_int Tryz.underlying3 f2
    simp only [List.cons.injEq, and_true] at e1 e2 e3
    subst e1; subst e2; subst e3
    refine ⟨s, t, u, ?_⟩
    rw [show cs = cs.toList.toArray by simp, hc]
end
section
open Go.ChangeShapes Go.WideShapes Go.ChangeAt Go.Deep
theorem sl_pt31 : Tryz.prog.underlying 58 = some (.slice 104) := by kernel_rfl
set_option maxRecDepth 100000 in
theorem opens_pt31 : Opens Tryz.prog 104 PtR 2 := by
  refine ⟨by kernel_rfl, by omega, fun H enc w base spare held fuel cs x hl hx => ?_⟩
  obtain ⟨xs, n, _, _, hlen, hxl, hf⟩ := DataW.trod_struct Tryz.underlying104 hx
  match cs, hl with
  | [c0, c1], _ =>
    have f0 := hf 0 _ rfl
    have f1 := hf 1 _ rfl
    have k1 : Tryz.prog.cellsOf 36 = 1 := by kernel_rfl
    have k2 : Tryz.prog.cellsOf 68 = 1 := by kernel_rfl
    have hx3 : xs.length = 2 := hxl
    simp only [List.getElem_toArray, List.getElem_cons_zero, List.getElem_cons_succ, k1, k2, List.drop_zero, List.drop_succ_cons, List.take_succ_cons, List.take_zero] at f0 f1
    rw [List.getElem?_eq_getElem (by omega)] at f0 f1
    obtain ⟨g, e1, _, wg⟩ := DataW.trod_int Tryz.underlying36 f0
    obtain ⟨A, n2, c, ys, e2, hnc, _, hr⟩ := opens_slice sl_by.und opens_by f1
    simp only [List.cons.injEq, and_true] at e1 e2
    subst e1; subst e2
    obtain ⟨h0, h1⟩ := u64_bounds wg
    exact ⟨(g.toNat, ys), A, n2, c, by show [_, _] = [Value.int .u64 ((g.toNat : Nat) : Int), _]; rw [show ((g.toNat : Nat) : Int) = g by omega], hnc, hr, by show g.toNat < 2 ^ 64; omega⟩
end
end Go.Proofs.YtihnlhfngmbglaaGreat
