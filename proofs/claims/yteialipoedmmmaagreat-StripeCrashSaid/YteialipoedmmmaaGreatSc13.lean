/-
  What a crash leaves of two stripes: the walk.
  A geometry among the arguments; bounds of whole numbers.
-/
import Derived.Test.YteialipoedmmmaaGreatSc12
import Derived.Test.YteialipoedmmmaaGreatSc3
import Derived.Test.YteialipoedmmmaaGreatSc2
set_option linter.unusedSimpArgs false
set_option linter.unusedVariables false
namespace Go.Proofs.YteialipoedmmmaaGreat
open Go.RowKit Go.Cib
attribute [local go_sem] cell_set Later.cell Later.frozen Grw.cell Grw.frozen
set_option maxRecDepth 100000 in
set_option maxHeartbeats 64000000 in
theorem tears_any {w : World} {k m s place : Int} {A1 A2 A4 : Option Addr} {n1 c1 n2 c2 n4 c4 : Nat} {b other : List Nat} {keep : List Bool} (R1 : Hid (RdL ByR 1 (fun _ => True) w A1 n1 b)) (hc1 : n1 ≤ c1) (R2 : Hid (RdL ByR 1 (fun _ => True) w A2 n2 other)) (hc2 : n2 ≤ c2) (R4 : Hid (RdL BoolR 1 (fun _ => True) w A4 n4 keep)) :
    Calls Tryz.prog 4 #[.agg (geoC k m s), .slice A1 n1 c1, .slice A2 n2 c2, .int .i64 place, .slice A4 n4 c4] w fun e w' => e = .returned (.bool true) ∧ Below w.heap.size w w' := by
  have hsm := fun w => small_any (w := w) k m s
  have bG := BoxAt.new w (geoC k m s) 23
  have hb0 : Below w.heap.size w (w.alloc (.cells (geoC k m s) 23)) := (Below.refl _ _).alloc (Nat.le_refl _) _
  obtain ⟨q, hq⟩ : ∃ q, w.heap.size = q := ⟨_, rfl⟩
  go_enter Tryz.func4, Tryz.ntmps4
  unfold geoC at hsm bG hb0 ⊢
  go_wp2_with fail
  obtain ⟨wA, hwA⟩ : ∃ wA, w.alloc (.cells #[.int .i64 k, .int .i64 m, .int .i64 s] 23) = wA := ⟨_, rfl⟩
  rw [hwA] at bG hb0 ⊢
  have HQ := Lib.hid hq
  have HB0 := Lib.hid hb0
  rw [hq] at bG
  clear hwA hq hb0
  cases hs : smallB k m s with
  | false =>
    rw [hs] at hsm
    refine (hsm _).mono ?_
    clear hsm
    rintro e w1 ⟨rfl, hb1⟩
    have HB1 := Lib.hid (HB0.out.trans (hb1.mono HB0.out.size))
    go_wp2_with fail
    refine holds_any.mono ?_
    rintro e wz ⟨rfl, hbz⟩
    go_wp2_with fail
    go_ret
    exact ⟨rfl, HB1.out.trans (hbz.mono HB1.out.size)⟩
  | true =>
    rw [hs] at hsm
    refine (hsm _).mono ?_
    clear hsm
    rintro e w1 ⟨rfl, hb1⟩
    obtain ⟨k, m, s, rfl, rfl, rfl, k1, m1, km, s1, s8⟩ := small_nat hs
    clear hs
    have HB1 := Lib.hid (HB0.out.trans (hb1.mono HB0.out.size))
    have bG1 := bG.below hb1
    have c1 : w1.cell? ⟨q, 0, none⟩ = some (.int .i64 (k : Int)) ∧ w1.cell? ⟨q, 1, none⟩ = some (.int .i64 (m : Int)) ∧ w1.cell? ⟨q, 2, none⟩ = some (.int .i64 (s : Int)) := ⟨bG1.cell 0, bG1.cell 1, bG1.cell 2⟩
    clear hb1 bG HB0
    have q0 : (0 : Int) ≤ (k : Int) := Int.natCast_nonneg _
    have q1 : (0 : Int) ≤ (m : Int) := Int.natCast_nonneg _
    have q2 : (k : Int) + (m : Int) ≤ 10 := by omega
    by_cases g0 : (s : Int) < 2
    · go_wp2_with fail
      refine holds_any.mono ?_
      rintro e wz ⟨rfl, hbz⟩
      go_wp2_with fail
      go_ret
      exact ⟨rfl, HB1.out.trans (hbz.mono HB1.out.size)⟩
    by_cases g1 : place < 0
    · go_wp2_with fail
      refine holds_any.mono ?_
      rintro e wz ⟨rfl, hbz⟩
      go_wp2_with fail
      go_ret
      exact ⟨rfl, HB1.out.trans (hbz.mono HB1.out.size)⟩
    by_cases g2 : place ≥ (s : Int)
    · go_wp2_with fail
      refine holds_any.mono ?_
      rintro e wz ⟨rfl, hbz⟩
      go_wp2_with fail
      go_ret
      exact ⟨rfl, HB1.out.trans (hbz.mono HB1.out.size)⟩
    by_cases g3 : (n1 : Int) > 44 * (k : Int)
    · go_wp2_with fail
      refine holds_any.mono ?_
      rintro e wz ⟨rfl, hbz⟩
      go_wp2_with fail
      go_ret
      exact ⟨rfl, HB1.out.trans (hbz.mono HB1.out.size)⟩
    by_cases g6 : (n2 : Int) > 44 * (k : Int)
    · go_wp2_with fail
      refine holds_any.mono ?_
      rintro e wz ⟨rfl, hbz⟩
      go_wp2_with fail
      go_ret
      exact ⟨rfl, HB1.out.trans (hbz.mono HB1.out.size)⟩
    obtain ⟨p, rfl⟩ : ∃ p : Nat, place = (p : Int) := ⟨place.toNat, by omega⟩
    have hps : p < s := by omega
    have hs2 : 2 ≤ s := by omega
    have hl1 : n1 ≤ k * 44 := by omega
    have hl2 : n2 ≤ k * 44 := by omega
    obtain ⟨po, hpo⟩ : ∃ po, (p + 1) % s = po := ⟨_, rfl⟩
    have hpos : po < s := by rw [← hpo]; exact Nat.mod_lt _ (by omega)
    have hpne : po ≠ p := by
      rw [← hpo]
      by_cases h : p + 1 < s
      · rw [Nat.mod_eq_of_lt h]; omega
      · rw [show p + 1 = s by omega, Nat.mod_self]; omega
    have hpI : ((p : Int) + 1) % (s : Int) = (po : Int) := by rw [← hpo]; push_cast; rfl
    have hpI2 : Int.tmod ((p : Int) + 1) (s : Int) = (po : Int) := by rw [Int.tmod_eq_emod_of_nonneg (by omega)]; exact hpI
    have hmd := made_law (w0 := w1) (w := w1) (k := k) (m := m) (n := s) (Below.refl _ _) k1 m1 (by omega) s1 (by omega)
    unfold geoC at hmd
    have hsz : ((s : Int) == 0) = false := by simp; omega
    clear hpo
    go_wp2_with fail
    refine hmd.mono ?_
    clear hmd
    rintro e w2 ⟨a, cb, bf, rfl, hM, hb2⟩
    have hM : SMid w1 w2 a cb bf k m s (newS s (k + m)) := hM
    have bG2 := bG1.below hb2
    have bO := BoxAt.new w2 (refC ⟨2, po, 1⟩) 33
    have hbO : Below w2.heap.size w2 (w2.alloc (.cells (refC ⟨2, po, 1⟩) 33)) := (Below.refl _ _).alloc (Nat.le_refl _) _
    obtain ⟨wO, hwO⟩ : ∃ wO, w2.alloc (.cells (refC ⟨2, po, 1⟩) 33) = wO := ⟨_, rfl⟩
    obtain ⟨qo, hqo⟩ : ∃ qo, w2.heap.size = qo := ⟨_, rfl⟩
    have hszO : wO.heap.size = qo + 1 := by rw [← hwO, ← hqo, World.size_alloc]
    rw [hwO] at bO hbO
    have bR := BoxAt.new wO (refC ⟨3, p, 2⟩) 33
    have hbR : Below wO.heap.size wO (wO.alloc (.cells (refC ⟨3, p, 2⟩) 33)) := (Below.refl _ _).alloc (Nat.le_refl _) _
    obtain ⟨wR, hwR⟩ : ∃ wR, wO.alloc (.cells (refC ⟨3, p, 2⟩) 33) = wR := ⟨_, rfl⟩
    obtain ⟨qr, hqr⟩ : ∃ qr, wO.heap.size = qr := ⟨_, rfl⟩
    have hszR : wR.heap.size = qr + 1 := by rw [← hwR, ← hqr, World.size_alloc]
    rw [hwR] at bR hbR
    have hMX := ((hM.x0.below hbO).below hbR).sub (Y := fun j => j < w1.heap.size ∨ j = qo ∨ j = qr) (fun j hj => by
      rcases hj with h | h | h
      · exact .inl (.inl h)
      · exact .inl (.inr (by omega))
      · exact .inr (by omega))
    have bG3 := (bG2.below hbO).below hbR
    have bO3 := bO.below hbR
    have hql : q < w1.heap.size := bG1.lt
    rw [hqo] at bO3
    rw [hqr] at bR
    have HM3 := Lib.hid hMX
    have HR1 := Lib.hid (RdL.bound ByR.stable (R1.out.below ByR.stable HB1.out))
    have HR2 := Lib.hid (RdL.bound ByR.stable (R2.out.below ByR.stable HB1.out))
    have HR4 := Lib.hid (RdL.bound BoolR.stable (R4.out.below BoolR.stable HB1.out))
    have hK3 : KpX (fun j => j < w1.heap.size) w1 wR := KpX.of_below (hMX.bel) (fun j h => h)
    have hg1 : Hid (1 < 2 ^ 64) := Lib.hid (by decide)
    have hg2 : Hid (2 < 2 ^ 64) := Lib.hid (by decide)
    have HOK : Hid (Ref.ok ⟨2, po, 1⟩ s) := Lib.hid ⟨(by decide : 1 ≤ 2), (by decide : 2 ≤ 4), hpos⟩
    have HRK : Hid (Ref.ok ⟨3, p, 2⟩ s) := Lib.hid (ref3_ok hps)
    have hpu := put_x HM3.out (r := ⟨2, po, 1⟩) HOK.out hg1 cache_new (hK3.rd ByR.stable HR2.out (fun j hj => hj.2)) hc2 hl2
    have eO : refC ⟨2, po, 1⟩ = #[.int .u8 2, .int .i64 (po : Int), .int .u64 1] := rfl
    have eR : refC ⟨3, p, 2⟩ = #[.int .u8 3, .int .i64 (p : Int), .int .u64 2] := rfl
    rw [live_new, eO] at hpu
    have HPU := Lib.hid hpu
    have HEO := Lib.hid eO
    have HER := Lib.hid eR
    rw [eO] at hwO
    rw [eR] at hwR
    clear eO eR
    have HK3 := Lib.hid hK3
    have HQL := Lib.hid hql
    have BG3 := Lib.hid bG3
    have BO3 := Lib.hid bO3
    have BR3 := Lib.hid bR
    have c2 : w2.cell? ⟨q, 0, none⟩ = some (.int .i64 (k : Int)) ∧ w2.cell? ⟨q, 1, none⟩ = some (.int .i64 (m : Int)) ∧ w2.cell? ⟨q, 2, none⟩ = some (.int .i64 (s : Int)) := ⟨bG2.cell 0, bG2.cell 1, bG2.cell 2⟩
    have c3 : wR.cell? ⟨qo, 0, none⟩ = some (.int .u8 2) ∧ wR.cell? ⟨qo, 1, none⟩ = some (.int .i64 (po : Int)) ∧ wR.cell? ⟨qo, 2, none⟩ = some (.int .u64 1) := ⟨bO3.cell 0, bO3.cell 1, bO3.cell 2⟩
    have HXB := Lib.hid (show Byt b from by_byt HR1.out)
    have HXO := Lib.hid (show Byt other from by_byt HR2.out)
    have HB44 := Lib.hid (show b.length ≤ k * 44 by rw [HR1.out.1]; exact hl1)
    have HO44 := Lib.hid (show other.length ≤ k * 44 by rw [HR2.out.1]; exact hl2)
    clear hM hb2 bG2 hbO hbR hMX bG3 hK3 hpu bG1 c1 hszO hszR hql bO bO3 bR
    go_wp2_with fail
    refine HPU.out.mono ?_
    clear HPU c2 c3 hwO hwR HM3 hqo hqr
    rintro e w4 ⟨rfl, hM4, hK4⟩
    have hM4 : SMidX (fun j => j < w1.heap.size ∨ j = qo ∨ j = qr) w1 w4 a cb bf k m s (putS s k (k + m) ⟨2, po, 1⟩ other) := hM4
    have HM4 := Lib.hid hM4
    have BG4 := Lib.hid (hK4.box BG3.out (.inl HQL.out))
    have BO4 := Lib.hid (hK4.box BO3.out (.inr (.inl rfl)))
    have BR4 := Lib.hid (hK4.box BR3.out (.inr (.inr rfl)))
    have HK4 := Lib.hid (HK3.out.trans (hK4.mono fun j hj => .inl hj))
    have hfl := flush_x HM4.out (fun st hst => by have := putS_cache (D := []) st (by rw [goneS_nil]; exact hst); omega)
    rw [put_alive HOK.out HXO.out] at hfl
    push_cast at hfl
    have f0 : ((k : Int) + (m : Int) != (k : Int) + (m : Int)) = false := by simp
    clear hM4 hK4 BG3 BO3 BR3 HK3
    push_cast
    go_wp2_with fail
    refine hfl.mono ?_
    clear hfl
    rintro e w5 ⟨rfl, hM5, hK5⟩
    obtain ⟨F, hF⟩ : ∃ F, (putS s k (k + m) ⟨2, po, 1⟩ other).map flushG = F := ⟨_, rfl⟩
    have hFc : ∀ st ∈ F, st.cache.length < 900000 := fun st hst => by
      rw [← hF] at hst
      obtain ⟨d, hd, rfl⟩ := List.mem_iff_getElem.1 hst
      rw [(flush_at HOK.out HXO.out (List.getElem?_eq_getElem hd)).2.1]; decide
    have hFl : ∀ (d : Nat) (st : DSt), F[d]? = some st → st.dead = !((fun _ => true) d) := fun d st h => by
      rw [← hF] at h
      exact (flush_at HOK.out HXO.out h).1.1
    rw [hF] at hM5
    have HF := Lib.hid hF
    have HM5 := Lib.hid hM5
    have BG5 := Lib.hid (hK5.box BG4.out (.inl HQL.out))
    have BO5 := Lib.hid (hK5.box BO4.out (.inr (.inl rfl)))
    have BR5 := Lib.hid (hK5.box BR4.out (.inr (.inr rfl)))
    have HK5 := Lib.hid (HK4.out.trans (hK5.mono fun j hj => .inl hj))
    have c5 : w5.cell? ⟨qr, 0, none⟩ = some (.int .u8 3) ∧ w5.cell? ⟨qr, 1, none⟩ = some (.int .i64 (p : Int)) ∧ w5.cell? ⟨qr, 2, none⟩ = some (.int .u64 2) := ⟨BR5.out.cell 0, BR5.out.cell 1, BR5.out.cell 2⟩
    have hpu := put_x HM5.out (r := ⟨3, p, 2⟩) HRK.out hg2 hFc (HK5.out.rd ByR.stable HR1.out (fun j hj => hj.2)) hc1 hl1
    have hlF : liveC F = k + m := by rw [live_cnt hFl, cntP_all, hM5.len]
    rw [hlF, HER.out] at hpu
    have HPU := Lib.hid hpu
    clear hM5 hK5 HM4 BG4 BO4 BR4 HK4 hFc hFl hlF hF hpu
    go_wp2_with fail
    refine HPU.out.mono ?_
    clear HPU c5
    rintro e w6 ⟨rfl, hM6, hK6⟩
    have HM6 := Lib.hid hM6
    have BG6 := Lib.hid (hK6.box BG5.out (.inl HQL.out))
    have BO6 := Lib.hid (hK6.box BO5.out (.inr (.inl rfl)))
    have BR6 := Lib.hid (hK6.box BR5.out (.inr (.inr rfl)))
    have HK6 := Lib.hid (HK5.out.trans (hK6.mono fun j hj => .inl hj))
    obtain ⟨N, hN⟩ : ∃ N, k + m = N := ⟨_, rfl⟩
    have hNI : (k : Int) + (m : Int) = (N : Int) := by omega
    have hmk := makeBoolsS N (by omega) w6
    have ho := OutB.made w6 N 42
    have hb67 : Below w6.heap.size w6 (w6.alloc (.cells (Array.replicate N (.slice none 0 0)) 42)) := (Below.refl _ _).alloc (Nat.le_refl _) _
    obtain ⟨w7, hw7⟩ : ∃ w7, w6.alloc (.cells (Array.replicate N (.slice none 0 0)) 42) = w7 := ⟨_, rfl⟩
    obtain ⟨gb, hgb⟩ : ∃ gb, w6.heap.size = gb := ⟨_, rfl⟩
    rw [hw7] at hmk ho hb67
    have HGB := Lib.hid hgb
    rw [hgb] at hmk ho
    have HO := Lib.hid (show OutB w7 gb gb N (onU (onK keep) N 0) by unfold onU; exact ho)
    have HB := Lib.hid hb67
    have HN := Lib.hid hN
    clear hM6 hK6 HM5 BG5 BO5 BR5 HK5 ho hb67 hw7 hgb hN f0
    rw [hNI]
    go_wp2_with fail
    clear hmk
    go_loopw [20, 22] (fun vk vd wr => ∃ (d : Nat), d ≤ N ∧ vd = .int .i64 d ∧ vk = .int .i64 (cntP (onK keep) d : Nat) ∧ Hid (OutB wr gb gb N (onU (onK keep) N d)) ∧ Hid (Below w6.heap.size w6 wr)) (fun _ vd _ => N - (intOf vd).toNat)
    case atStart => exact ⟨0, Nat.zero_le _, rfl, rfl, HO, HB⟩
    case round =>
      clear HO HB
      obtain ⟨d, hd, rfl, rfl, HO, HB⟩ := hrel
      have p0 : (0 : Int) ≤ (d : Int) := Int.natCast_nonneg _
      by_cases hlt : d < N
      · have p1 : (d : Int) < (N : Int) := by omega
        have p2 : d < 11 := by omega
        obtain ⟨cn, hcn⟩ : ∃ cn, cntP (onK keep) d = cn := ⟨_, rfl⟩
        have hcn2 : cn ≤ d := by
          rw [← hcn]
          unfold cntP
          exact Nat.le_trans (List.length_filter_le ..) (by simp)
        have hnx := cntP_next (on := onK keep) (i := d)
        rw [hcn] at hnx ⊢
        have HNX := Lib.hid hnx
        have hxo := fun b : Bool => (HO.out.below ((Below.refl _ _).alloc (Nat.le_refl _) (.cells #[.bool b] 4))).set (i := d) (m := 1) (c := 1) (r := [b]) hlt (by
          have h1 := RdL.one (R := BoolR) BoolR.stable (E := 4) (s := 1) (S := fun _ => True) (W := wr) (cs := #[.bool b]) (y := b) rfl rfl
          refine ⟨h1.1, fun hp => ?_⟩
          obtain ⟨b1, o1, e1, _, e2, e3⟩ := h1.2 hp
          refine ⟨b1, o1, e1, ?_, e2, e3⟩
          injection e1 with e1
          injection e1 with e1 _ _
          have := HO.out.lt
          have := HO.out.hg
          subst e1
          exact ⟨by omega, by omega⟩)
        have hcx := fun b : Bool => (HO.out.below ((Below.refl _ _).alloc (Nat.le_refl _) (.cells #[.bool b] 4))).cellx hlt
        obtain ⟨gl, hgl⟩ : ∃ gl, wr.heap.size = gl := ⟨_, rfl⟩
        have hfin : ∀ b : Bool, onK keep d = b → Hid (OutB ((wr.alloc (.cells #[.bool b] 4)).setCell ⟨gb, d, none⟩ (.slice (some ⟨wr.heap.size, 0, none⟩) 1 1)) gb gb N (onU (onK keep) N (d + 1))) ∧ Hid (Below w6.heap.size w6 ((wr.alloc (.cells #[.bool b] 4)).setCell ⟨gb, d, none⟩ (.slice (some ⟨wr.heap.size, 0, none⟩) 1 1))) := fun b hb => by
          have h1 := hxo b
          have h2 := onU_next (on := onK keep) hlt
          change (onU (onK keep) N d).set d [onK keep d] = _ at h2
          rw [hb] at h2
          rw [h2] at h1
          exact ⟨Lib.hid h1, Lib.hid ((HB.out.alloc HB.out.size _).setCell (p := ⟨gb, d, none⟩) (by show w6.heap.size ≤ gb; rw [HGB.out]; exact Nat.le_refl _) _)⟩
        have hgl2 := HO.out.lt
        by_cases hdk : d < n4
        · have p3 : (d : Int) < (n4 : Int) := by omega
          have hrd := HK6.out.rd BoolR.stable HR4.out (fun j hj => hj.2)
          have hrd := hrd.below BoolR.stable HB.out
          obtain ⟨bk, ok, x, rfl, hx, v1⟩ := bool_at hrd hdk
          have hgx : onK keep d = x := by unfold onK; rw [List.getD_eq_getElem?_getD, hx]; rfl
          have hfx := hfin x hgx
          have hbk : bk < wr.heap.size := (hrd.addr hdk).elim fun b h => h.elim fun o h => by have h1 := h.1; injection h1 with h1; injection h1 with h1 _ _; rw [h1]; exact h.2.2
          clear hrd hx hfin hxo
          rw [hgl] at hfx hgl2 hbk
          have hcx2 := hcx x
          clear hcx
          cases x with
          | true =>
            obtain ⟨wB, hwB⟩ : ∃ wB, wr.alloc (.cells #[.bool true] 4) = wB := ⟨_, rfl⟩
            rw [hwB] at hfx hcx2
            obtain ⟨⟨v, hv⟩, hv2⟩ := hcx2
            have HF1 := hfx.1
            have HF2 := hfx.2
            have HC1 : cntP (onK keep) (d + 1) = cn + 1 := by rw [HNX.out, if_pos (by exact hgx)]
            have HC := Lib.hid HC1
            clear hfx HC1 hgx HO HB
            go_wp2_with fail
            exact ⟨⟨d + 1, by omega, by go_num, by rw [HC.out]; go_num, HF1, HF2⟩, by simp [intOf]; omega⟩
          | false =>
            obtain ⟨wB, hwB⟩ : ∃ wB, wr.alloc (.cells #[.bool false] 4) = wB := ⟨_, rfl⟩
            rw [hwB] at hfx hcx2
            obtain ⟨⟨v, hv⟩, hv2⟩ := hcx2
            have HF1 := hfx.1
            have HF2 := hfx.2
            have HC1 : cntP (onK keep) (d + 1) = cn := by rw [HNX.out, if_neg (by show ¬ onK keep d = true; rw [hgx]; decide)]; rfl
            have HC := Lib.hid HC1
            clear hfx HC1 hgx HO HB
            go_wp2_with fail
            exact ⟨⟨d + 1, by omega, by go_num, by rw [HC.out], HF1, HF2⟩, by simp [intOf]; omega⟩
        · have p3 : ¬ (d : Int) < (n4 : Int) := by omega
          have hgx : onK keep d = false := by unfold onK; rw [List.getD_eq_getElem?_getD, List.getElem?_eq_none (by rw [HR4.out.1]; omega)]; rfl
          have hfx := hfin false hgx
          clear hfin hxo
          rw [hgl] at hfx hgl2
          have hcx2 := hcx false
          clear hcx
          obtain ⟨wB, hwB⟩ : ∃ wB, wr.alloc (.cells #[.bool false] 4) = wB := ⟨_, rfl⟩
          rw [hwB] at hfx hcx2
          obtain ⟨⟨v, hv⟩, hv2⟩ := hcx2
          have HF1 := hfx.1
          have HF2 := hfx.2
          have HC1 : cntP (onK keep) (d + 1) = cn := by rw [HNX.out, if_neg (by show ¬ onK keep d = true; rw [hgx]; decide)]; rfl
          have HC := Lib.hid HC1
          clear hfx HC1 hgx HO HB
          go_wp2_with fail
          exact ⟨⟨d + 1, by omega, by go_num, by rw [HC.out], HF1, HF2⟩, by simp [intOf]; omega⟩
      · have p1 : ¬ (d : Int) < (N : Int) := by omega
        obtain rfl : d = N := by omega
        have hM7 := HM6.out.below HB.out
        have hRB := RdL.bound BoolsR.stable HO.out.rd
        have hca : ∀ st ∈ F.mapIdx (putQ s k (k + m) ⟨3, p, 2⟩ b), st.cache.length < 1000000 := fun st hst => by
          obtain ⟨i, hi, rfl⟩ := List.mem_iff_getElem.1 hst
          obtain ⟨s1, h1, e1⟩ := mapIdx_at (List.getElem?_eq_getElem hi)
          rw [e1]
          rw [← HF.out] at h1
          have h2 := (flush_at HOK.out HXO.out h1).2.1
          have h3 := putQ_cache (n := s) (k := k) (N := k + m) (d := i) (r := ⟨3, p, 2⟩) (xs := b) (st := s1)
          rw [h2] at h3
          have : ([] : List (Int × List Int)).length = 0 := rfl
          omega
        have hcr := crash_x (c := d) hM7 hca hRB (fun j hj => .inr (by have := HGB.out; omega))
        have BGr := Lib.hid (BG6.out.below HB.out)
        have BOr := Lib.hid (BO6.out.below HB.out)
        have BRr := Lib.hid (BR6.out.below HB.out)
        have HKr := Lib.hid (HK6.out.trans (KpX.of_below HB.out fun j hj => HM6.out.lt (.inl hj)))
        have HON := Lib.hid (fun i (hi : i < d) => onU_at (on := onK keep) hi)
        obtain ⟨ks, hks⟩ : ∃ ks, onU (onK keep) d d = ks := ⟨_, rfl⟩
        rw [hks] at hcr HON
        clear hM7 hRB hca HM6 BG6 BO6 BR6 HK6 HO HB hks
        go_wp2_with fail
        refine hcr.mono ?_
        clear hcr
        rintro e w8 ⟨rfl, hM8, hK8⟩
        have HM8 := Lib.hid hM8
        have BG8 := Lib.hid (hK8.box BGr.out (.inl (.inl HQL.out)))
        have BO8 := Lib.hid (hK8.box BOr.out (.inl (.inr (.inl rfl))))
        have BR8 := Lib.hid (hK8.box BRr.out (.inl (.inr (.inr rfl))))
        have HK8 := Lib.hid (HKr.out.trans (hK8.mono fun j hj => .inl (.inl hj)))
        have hv := fun (i : Nat) st (h : ((F.mapIdx (putQ s k (k + m) ⟨3, p, 2⟩ b)).mapIdx (crashG ks))[i]? = some st) => crash_at (n := s) (k := k) (N := k + m) (d := i) (o := ⟨2, po, 1⟩) (r := ⟨3, p, 2⟩) HOK.out HRK.out (by exact hpne) HXO.out HXB.out (on := onK keep) (ks := ks) (fun i hi => HON.out i (by have := HN.out; omega)) (by rw [HF.out]; exact h)
        have hg1v := get_view (g := onK keep) (r := ⟨3, p, 2⟩) (xs := b) HM8.out.mid HRK.out hg2 HXB.out HB44.out (fun i st h => (hv i st h).2)
        have HV := Lib.hid (fun (i : Nat) st h => (hv i st h).1)
        rw [HN.out, HER.out, HR1.out.1] at hg1v
        obtain ⟨cn, hcn⟩ : ∃ cn, cntP (onK keep) d = cn := ⟨_, rfl⟩
        rw [hcn] at hg1v ⊢
        have c8 : w8.cell? ⟨qr, 0, none⟩ = some (.int .u8 3) ∧ w8.cell? ⟨qr, 1, none⟩ = some (.int .i64 (p : Int)) ∧ w8.cell? ⟨qr, 2, none⟩ = some (.int .u64 2) := ⟨BR8.out.cell 0, BR8.out.cell 1, BR8.out.cell 2⟩
        clear hM8 hK8 BGr BOr BRr HKr hv hcn
        go_wp2_with fail
        refine hg1v.mono ?_
        clear hg1v c8
        rintro e w9 ⟨hb9, hcase⟩
        have hg2v := get_view (g := fun _ => true) (r := ⟨2, po, 1⟩) (xs := other) (HM8.out.below' hb9).mid HOK.out hg1 HXO.out HO44.out (fun i st h => .inl ⟨rfl, HV.out i st h⟩)
        rw [HN.out, cntP_all, HEO.out, HR2.out.1] at hg2v
        have HM9 := Lib.hid (HM8.out.below' hb9)
        have BG9 := Lib.hid (BG8.out.below hb9)
        have bO9 := BO8.out.below hb9
        have HK9 := Lib.hid (HK8.out.trans (KpX.of_below hb9 fun j hj => HM8.out.lt (.inl (.inl hj))))
        have c9 : w9.cell? ⟨qo, 0, none⟩ = some (.int .u8 2) ∧ w9.cell? ⟨qo, 1, none⟩ = some (.int .i64 (po : Int)) ∧ w9.cell? ⟨qo, 2, none⟩ = some (.int .u64 1) := ⟨bO9.cell 0, bO9.cell 1, bO9.cell 2⟩
        clear hb9 BG8 BO8 BR8 HK8 HM8 HV bO9
        rcases hcase with ⟨hlk, rfl⟩ | ⟨hlk, AX, cX, rfl, hcX, hrX⟩
        · go_wp2_with fail
          refine hg2v.mono ?_
          clear hg2v c9
          rintro e wB ⟨hbB, ⟨hlt2, _⟩ | ⟨_, AY, cY, rfl, hcY, hrY⟩⟩
          · exact absurd hlt2 (by omega)
          · have HB9 := Lib.hid (HB1.out.trans ((HM9.out.below' hbB).bel.mono HB1.out.size))
            have bGB := BG9.out.below hbB
            have t1 := text_run (c := cY) hrY
            have t2 := text_run (c := c2) ((HK9.out.trans (KpX.of_below hbB fun j hj => HM9.out.lt (.inl (.inl hj)))).rd ByR.stable HR2.out (fun j hj => hj.2))
            have cB : wB.cell? ⟨q, 0, none⟩ = some (.int .i64 (k : Int)) := bGB.cell 0
            have hlk2 : (cn : Int) < (k : Int) := by omega
            clear hrY hbB
            go_wp2_with fail
            refine holds_any.mono ?_
            rintro e wz ⟨rfl, hbz⟩
            go_wp2_with fail
            go_ret
            exact ⟨rfl, HB9.out.trans (hbz.mono HB9.out.size)⟩
        · have HRX := Lib.hid hrX
          clear hrX
          go_wp2_with fail
          refine hg2v.mono ?_
          clear hg2v c9
          rintro e wB ⟨hbB, ⟨hlt2, _⟩ | ⟨_, AY, cY, rfl, hcY, hrY⟩⟩
          · exact absurd hlt2 (by omega)
          · have HB9 := Lib.hid (HB1.out.trans ((HM9.out.below' hbB).bel.mono HB1.out.size))
            have bGB := BG9.out.below hbB
            have t1 := text_run (c := cY) hrY
            have hKB := HK9.out.trans (KpX.of_below hbB fun j hj => HM9.out.lt (.inl (.inl hj)))
            have t2 := text_run (c := c2) (hKB.rd ByR.stable HR2.out (fun j hj => hj.2))
            have t3 := text_run (c := cX) (HRX.out.below ByR.stable hbB)
            have t4 := text_run (c := c1) (hKB.rd ByR.stable HR1.out (fun j hj => hj.2))
            have cB : wB.cell? ⟨q, 0, none⟩ = some (.int .i64 (k : Int)) := bGB.cell 0
            have hlk2 : ¬ (cn : Int) < (k : Int) := by omega
            clear hrY hbB hKB
            go_wp2_with fail
            refine holds_any.mono ?_
            rintro e wz ⟨rfl, hbz⟩
            go_wp2_with fail
            go_ret
            exact ⟨rfl, HB9.out.trans (hbz.mono HB9.out.size)⟩
end Go.Proofs.YteialipoedmmmaaGreat

set_option linter.unusedSimpArgs false
set_option linter.unusedVariables false
namespace Go.Proofs.YteialipoedmmmaaGreat
open Go.RowKit Go.Cib
attribute [local go_sem] cell_set Later.cell Later.frozen Grw.cell Grw.frozen
open Go.ChangeShapes Go.WideShapes Go.ChangeAt Go.Deep
theorem opens_by : Opens Tryz.prog 5 ByR 1 :=
  ⟨by kernel_rfl, by omega, fun H enc w base spare held fuel cs x _ hx => by
    obtain ⟨n, rfl, _, hw⟩ := DataW.trod_int Tryz.underlying5 hx
    have h2 : 0 ≤ n ∧ n ≤ 255 := by
      simp [Lit.wf, IntKind.min, IntKind.max, IntKind.signed, IntKind.bits] at hw
      omega
    exact ⟨n.toNat, by omega, by rw [show ((n.toNat : Nat) : Int) = n by omega]⟩⟩
set_option maxRecDepth 100000 in
theorem open_geo {H : Type} {enc : TypeId × Value → H} {w : World} {base b0 : Nat} {spare : Nat → Bool} {held : Bool} {r : Reach} {v : Value} {d : DataW H} {ps : List MemPlace}
    (hval : Value.okWide Tryz.prog w r b0 23 v) (h : DataW.Trod enc Tryz.prog w base spare held 23 v d ps) : ∃ k m s : Int, v = .agg #[.int .i64 k, .int .i64 m, .int .i64 s] := by
  obtain ⟨cs, rfl, hsz⟩ := okWide_struct Tryz.underlying23 hval
  obtain ⟨fuel, hx⟩ := h
  have h5 : cs.size = 3 := hsz.trans (by kernel_rfl)
  have hl : (Value.agg cs).cells.toList.length = 3 := by simpa [Value.cells] using h5
  obtain ⟨xs, n, _, _, hlen, hxl, hf⟩ := DataW.trod_struct Tryz.underlying23 hx
  have e0 : (Value.agg cs).cells.toList = cs.toList := rfl
  rw [e0] at hf hl
  match hc : cs.toList, hl with
  | [c0, c1, c2], _ =>
    rw [hc] at hf
    have f0 := hf 0 _ rfl
    have f1 := hf 1 _ rfl
    have f2 := hf 2 _ rfl
    have k1 : Tryz.prog.cellsOf 3 = 1 := by kernel_rfl
    have hx3 : xs.length = 3 := hxl
    simp only [List.getElem_toArray, List.getElem_cons_zero, List.getElem_cons_succ, k1, List.drop_zero, List.drop_succ_cons, List.take_succ_cons, List.take_zero] at f0 f1 f2
    rw [List.getElem?_eq_getElem (by omega)] at f0 f1 f2
    obtain ⟨s, e1, _, _⟩ := DataW.trod_int Tryz.underlying3 f0
    obtain ⟨t, e2, _, _⟩ := DataW.trod_int Tryz.underlying3 f1
    obtain ⟨u, e3, _, _⟩ := DataW.trod_int Tryz.underlying3 f2
    simp only [List.cons.injEq, and_true] at e1 e2 e3
    subst e1; subst e2; subst e3
    refine ⟨s, t, u, ?_⟩
    rw [show cs = cs.toList.toArray by simp, hc]
end Go.Proofs.YteialipoedmmmaaGreat
