/-
  Sorting a row of uint64: the sort itself.
-/
import Derived.Test.YtpibaahiboajhaaSrt9
import Derived.Sort.Walk13a
import Derived.Sort.Walk13
import Derived.Sort.AssemblyPlain
import Derived.Deep.CutRange
set_option linter.unusedSimpArgs false
set_option linter.unusedVariables false
namespace Go.Proofs.Ytpibaahiboajhaa
open Go.RowKit Go.Cib
attribute [local go_sem] cell_set Later.cell Later.frozen Grw.cell Grw.frozen
open Go.Sort Go.Proofs Go.Shelf

theorem swoI : SWO ltInt where
  irrefl x := by simp [ltInt]
  trans x y z h1 h2 := by simp only [ltInt, decide_eq_true_eq] at *; omega
  ntrans x y z h1 h2 := by simp only [ltInt, decide_eq_false_iff_not] at *; omega

set_option maxRecDepth 1000000 in
set_option maxHeartbeats 32000000 in
theorem pdq_u {w : World} {blk off n cap : Nat} (hn : n ≤ 1000000) : ∀ (N a b limit : Nat) (d : Array Int) (wr : World), b - a < N → RowIs w blk off n wr d → a ≤ b → b ≤ n → limit ≤ 1000000 → Sort.Below ltInt a b d →
    Calls Try.prog 131 #[.slice (some ⟨blk, off, none⟩) n cap, .int .i64 a, .int .i64 b, .int .i64 limit] wr fun e w' => e = .returned (.tuple #[]) ∧ RowIs w blk off n w' (pdq ltInt d a b limit true true) := by
  intro N
  induction N with
  | zero => intro _ _ _ _ _ h; exact absurd h (Nat.not_lt_zero _)
  | succ N ih =>
    intro a b limit d wr hN h hab hb hlimit hBel0
    have H := Lib.hid h
    have IH := Lib.hid ih
    have HBel0 := Lib.hid hBel0
    clear h ih hBel0
    go_enter Try.func131, Try.ntmps131
    go_wp2
    go_loopg [1, 2, 3, 8, 9] (b - a) (fun k s1 s2 s3 s8 s9 wq => ∃ (a' b' lim : Nat) (wb wp : Bool) (dk : Array Int), s1 = .int .i64 a' ∧ s2 = .int .i64 b' ∧ s3 = .int .i64 lim ∧ s8 = .bool wb ∧ s9 = .bool wp ∧
      a' ≤ b' ∧ b' ≤ n ∧ b' - a' ≤ k ∧ k ≤ b - a ∧ lim ≤ 1000000 ∧ Hid (Sort.Below ltInt a' b' dk) ∧ Hid (RowIs w blk off n wq dk) ∧ Hid (pdq ltInt dk a' b' lim wb wp = pdq ltInt d a b limit true true))
    case atStart => exact ⟨a, b, limit, true, true, d, rfl, rfl, rfl, rfl, rfl, hab, hb, Nat.le_refl _, Nat.le_refl _, hlimit, HBel0, H, Lib.hid rfl⟩
    case round =>
      clear H HBel0 hab hb hlimit
      obtain ⟨wq, rfl⟩ : ∃ wq, wq = wr := ⟨_, rfl⟩
      obtain ⟨a', b', lim, wb, wp, dk, rfl, rfl, rfl, rfl, rfl, hab', hb', hk, hkN, hlim, HBel, HR, HE⟩ := hrel
      have hds : dk.size = n := HR.out.size
      by_cases h12 : b' - a' ≤ 12
      · have h12z : (b' : Int) - (a' : Int) ≤ 12 := by omega
        have hc := insertion_u HR.out hab' hb' hn (cap := cap)
        go_wp2_with (go_at_call 146; refine hc.mono ?_; rintro e w1 ⟨rfl, t1⟩)
        (try simp only [Exit.inBlock, Exit.then])
        refine bodyPost_ret (results_none rfl _ _ _) rfl ?_
        refine ⟨rfl, ?_⟩
        rw [← HE.out, pdq_small h12]
        exact t1
      · have h12z : ¬ ((b' : Int) - (a' : Int) ≤ 12) := by omega
        by_cases hl0 : lim = 0
        · subst hl0
          have hc := heap_u HR.out hab' hb' hn (cap := cap)
          go_wp2_with (go_at_call 147; refine hc.mono ?_; rintro e w1 ⟨rfl, t1⟩)
          (try simp only [Exit.inBlock, Exit.then])
          refine bodyPost_ret (results_none rfl _ _ _) rfl ?_
          refine ⟨rfl, ?_⟩
          rw [← HE.out, pdq_heap h12 rfl]
          exact t1
        · have hl0z : ¬ ((lim : Int) = 0) := by omega
          obtain ⟨s1, B1, hc1, s2, B2, hpv, s3, B3⟩ := rd_facts (limit := lim) (wb := wb) (wp := wp) swoI partialInsertionSort_holds reverseRange_holds (show a' < b' by omega) (show b' ≤ dk.size by omega) HBel.out
          obtain ⟨r, hr⟩ : ∃ r, rd ltInt dk a' b' lim wb wp = r := ⟨_, rfl⟩
          rw [hr] at s1 B1 hc1 s2 B2 hpv s3 B3
          have hlle : r.lim ≤ lim := by rw [← hr]; exact rd_lim_le
          have HRD := Lib.hid hr
          have HB3 := Lib.hid B3
          clear hr B1 B2 B3
          go_upto_if 35 with fail
          go_cut [3] from 19 to 133 (fun s3 wc => s3 = .int .i64 r.lim ∧ Hid (RowIs w blk off n wc r.d1))
          case first =>
            cases wb
            · have hc := break_u HR.out hab' hb' hn (cap := cap)
              go_wp2_with (go_at_call 148; refine hc.mono ?_; rintro e w1 ⟨rfl, t1⟩)
              go_meet
              case rel =>
                refine ⟨?_, Lib.hid (by rw [← HRD.out, rd_false.1]; exact t1)⟩
                rw [← HRD.out, rd_false.2]
                show Value.int .i64 ((lim : Int) - 1) = Value.int .i64 ((lim - 1 : Nat) : Int)
                congr 1
                omega
            · go_wp2_with fail
              go_meet
              case rel => exact ⟨by rw [← HRD.out, rd_true.2], Lib.hid (by rw [← HRD.out, rd_true.1]; exact HR.out)⟩
          case rest =>
            obtain ⟨rfl, HR1⟩ := hcut
            have hc17 : Calls Try.prog 149 #[.slice (some ⟨blk, off, none⟩) n cap, .int .i64 a', .int .i64 b'] wc fun e w' => e = .returned (.tuple #[.int .i64 r.c.1, .int .i64 (hintCode r.c.2)]) ∧ RowIs w blk off n w' r.d1 := by
              have := pivot_u HR1.out (show a' < b' by omega) hb' hn (cap := cap)
              have e : choosePivot ltInt r.d1 a' b' = r.c := by rw [← HRD.out]; exact rd_c.symm
              rw [e] at this
              exact this
            go_upto_if 50 with (go_at_call 149; refine hc17.mono ?_; rintro e w2 ⟨rfl, t2⟩)
            have HR2 := Lib.hid t2
            clear t2 hc17 HR1
            go_cut [11, 12] from 19 to 133 (fun s11 s12 wc => s11 = .int .i64 r.pivot ∧ s12 = .int .i64 (hintCode r.hint) ∧ Hid (RowIs w blk off n wc r.d2))
            case first =>
              by_cases hh : r.c.2 = .decreasing
              · have hcode : hintCode r.c.2 = 2 := by rw [hh]; rfl
                obtain ⟨e2, epv, eht⟩ := rd_dec (by rw [HRD.out]; exact hh)
                rw [HRD.out] at e2 epv eht
                have E2 := Lib.hid e2
                have EPV := Lib.hid epv
                have EHT := Lib.hid eht
                clear e2 epv eht hh
                have hc18 := reverse_u HR2.out hab' hb' hn (cap := cap)
                go_wp2_with (go_at_call 150; refine hc18.mono ?_; rintro e w3 ⟨rfl, t3⟩)
                go_meet
                case rel =>
                  refine ⟨?_, by rw [EHT.out]; rfl, Lib.hid (by rw [E2.out]; exact t3)⟩
                  rw [EPV.out]
                  congr 1
                  omega
              · have hcode : ¬ (hintCode r.c.2 = 2) := fun h => hh (hintCode_two h)
                obtain ⟨e2, epv, eht⟩ := rd_not (by rw [HRD.out]; exact hh)
                rw [HRD.out] at e2 epv eht
                have E2 := Lib.hid e2
                have EPV := Lib.hid epv
                have EHT := Lib.hid eht
                clear e2 epv eht hh
                go_wp2_with fail
                go_meet
                case rel => exact ⟨by rw [EPV.out], by rw [EHT.out], Lib.hid (by rw [E2.out]; exact HR2.out)⟩
            case rest =>
              obtain ⟨rfl, rfl, HR3⟩ := hcut
              clear HR2 HR
              go_upto_region 15 with fail
              go_cut [12, 68] from 19 to 133 (fun s12 s68 wx => s12 = .int .i64 (hintCode r.hint) ∧ s68 = .bool (wb && wp && decide (r.hint = .increasing)) ∧ wx = wc)
              case first =>
                cases wb <;> cases wp <;> cases hh3 : r.hint <;>
                  (have hcode3 := congrArg hintCode hh3
                   simp only [hintCode] at hcode3
                   go_wp2_with fail
                   go_meet
                   exact ⟨by simp [hh3, hintCode], by simp [hh3, hintCode], rfl⟩)
              case rest =>
                obtain ⟨rfl, rfl, hwx⟩ := hcut
                subst hwx
                go_upto_if 68 with fail
                go_cut [] from 19 to 133 (fun wx => r.pi.2 = false ∧ Hid (RowIs w blk off n wx r.pi.1))
                case first =>
                  cases h68 : (wb && wp && decide (r.hint = .increasing))
                  · have epi := rd_pi_no (by rw [HRD.out]; exact h68)
                    rw [HRD.out] at epi
                    have EPI := Lib.hid epi
                    clear epi
                    go_wp2_with fail
                    go_meet
                    case rel => exact ⟨by rw [EPI.out], Lib.hid (by rw [EPI.out]; exact HR3.out)⟩
                  · have epi := rd_pi_yes (by rw [HRD.out]; exact h68)
                    rw [HRD.out] at epi
                    have hc19 := partialIns_u HR3.out (show a' < b' by omega) hb' hn (cap := cap)
                    rw [← epi] at hc19
                    clear epi
                    cases hp2 : r.pi.2 with
                    | false =>
                      rw [hp2] at hc19
                      go_wp2_with (go_at_call 151; refine hc19.mono ?_; rintro e w4 ⟨rfl, t4⟩)
                      go_meet
                      case rel => exact ⟨by first | rfl | exact hp2, Lib.hid t4⟩
                    | true =>
                      rw [hp2] at hc19
                      go_wp2_with (go_at_call 151; refine hc19.mono ?_; rintro e w4 ⟨rfl, t4⟩)
                      (try simp only [Exit.inBlock, Exit.then])
                      refine bodyPost_ret (results_none rfl _ _ _) rfl ?_
                      refine ⟨rfl, ?_⟩
                      rw [← HE.out, pdq_done h12 hl0 (by rw [HRD.out]; exact hp2), HRD.out]
                      exact t4
                case rest =>
                  obtain ⟨hp2, HR5⟩ := hcut
                  have HP2 := Lib.hid hp2
                  clear hp2 HR3
                  obtain ⟨G, cw, fw, HG⟩ := HR5.out.family
                  go_upto_region 17 with fail
                  go_cut [87] from 19 to 133 (fun s87 wx => s87 = .bool (decide (a' > 0) && !ltInt (G (a' - 1)) (G r.pivot)) ∧ Hid (RowIs w blk off n wx r.pi.1))
                  case first =>
                    rcases Nat.eq_zero_or_pos a' with ha0 | ha0
                    · have ha0z : decide ((a' : Int) > 0) = false := decide_eq_false (by omega)
                      go_quiet (first | (go_at_call 152; refine Calls.quiet_of_same (less_u _ _ _)))
                      go_wp2_with fail
                      go_meet
                      case rel => exact ⟨by simp [ha0], Lib.hid (HR5.out.drewN nq)⟩
                    · have ha0z : (a' : Int) > 0 := by omega
                      go_quiet (first | (go_at_call 152; refine Calls.quiet_of_same (less_u _ _ _)))
                      go_wp2_with fail
                      go_meet
                      case rel => exact ⟨by simp [ha0], Lib.hid (HR5.out.drewN nq)⟩
                  case rest =>
                    obtain ⟨rfl, HR6⟩ := hcut
                    clear cw fw HR5
                    cases h87 : (decide (a' > 0) && !ltInt (G (a' - 1)) (G r.pivot)) with
                    | false =>
                      have H87 : Hid ((decide (a' > 0) && !ltInt r.pi.1[a' - 1]! r.pi.1[r.pivot]!) = false) := Lib.hid (by rw [← HG.out, ← HG.out]; exact h87)
                      obtain ⟨mid, ap, d4, hx⟩ : ∃ mid ap d4, partition ltInt r.pi.1 a' b' r.pivot = (mid, ap, d4) := ⟨(partition ltInt r.pi.1 a' b' r.pivot).1, (partition ltInt r.pi.1 a' b' r.pivot).2.1, (partition ltInt r.pi.1 a' b' r.pivot).2.2, rfl⟩
                      obtain ⟨r1, r2, r3, r4, r5, r6, r7⟩ := round_part swoI (partition_holds ltInt) hpv.1 hpv.2 (show b' ≤ r.pi.1.size by omega) HB3.out hx
                      have hc22 := part_u HR6.out hpv.1 hpv.2 hb' hn (cap := cap)
                      rw [hx] at hc22
                      have X := Lib.hid hx
                      have R4 := Lib.hid r4
                      have R5 := Lib.hid r5
                      have R6 := Lib.hid r6
                      have R7 := Lib.hid r7
                      clear hx r4 r5 r6 r7
                      go_upto_if 113 with (go_at_call 154; refine hc22.mono ?_; rintro e w7 ⟨rfl, t7⟩)
                      have HR7 := Lib.hid t7
                      have hd4 : d4.size = n := t7.size
                      clear t7 hc22 HR6
                      by_cases h4 : mid - a' < b' - mid
                      · have h4z : (mid : Int) - (a' : Int) < (b' : Int) - (mid : Int) := by omega
                        have hih := IH.out a' mid r.lim d4 w7 (by omega) HR7.out (by omega) (by omega) (by omega) R4.out
                        obtain ⟨pL, sL⟩ := pdq_sorts ltInt swoI d4 a' mid r.lim true true (by omega) (by omega) R4.out
                        have PL := Lib.hid (R6.out _ pL sL).1
                        clear pL sL
                        go_wp2_with (go_at_call 131; refine hih.mono ?_; rintro e w8 ⟨rfl, t8⟩)
                        go_roundg (b' - (mid + 1))
                        case measure => omega
                        case rel =>
                          refine ⟨mid + 1, b', r.lim, decide (mid - a' ≥ (b' - a') / 8), ap, pdq ltInt d4 a' mid r.lim true true, by simp, rfl, rfl, ?_, rfl, by omega, by omega, Nat.le_refl _, by omega, by omega, PL, Lib.hid t8, Lib.hid ?_⟩
                          · exact congrArg Value.bool (eighth (by omega) (by omega))
                          · rw [← HE.out, pdq_left h12 hl0 (by rw [HRD.out]; exact HP2.out) (by rw [HRD.out]; exact H87.out) (by rw [HRD.out, X.out]; exact ⟨r1, r2⟩) (by rw [HRD.out, X.out]; exact h4), HRD.out, X.out]
                      · have h4z : ¬ ((mid : Int) - (a' : Int) < (b' : Int) - (mid : Int)) := by omega
                        have hih := IH.out (mid + 1) b' r.lim d4 w7 (by omega) HR7.out (by omega) (by omega) (by omega) R5.out
                        obtain ⟨pL, sL⟩ := pdq_sorts ltInt swoI d4 (mid + 1) b' r.lim true true (by omega) (by omega) R5.out
                        have PL := Lib.hid (R7.out _ pL sL).1
                        clear pL sL
                        go_wp2_with (go_at_call 131; refine hih.mono ?_; rintro e w8 ⟨rfl, t8⟩)
                        go_roundg (mid - a')
                        case measure => omega
                        case rel =>
                          refine ⟨a', mid, r.lim, decide (b' - mid ≥ (b' - a') / 8), ap, pdq ltInt d4 (mid + 1) b' r.lim true true, rfl, rfl, rfl, ?_, rfl, by omega, by omega, Nat.le_refl _, by omega, by omega, PL, Lib.hid t8, Lib.hid ?_⟩
                          · exact congrArg Value.bool (eighth (by omega) (by omega))
                          · rw [← HE.out, pdq_right h12 hl0 (by rw [HRD.out]; exact HP2.out) (by rw [HRD.out]; exact H87.out) (by rw [HRD.out, X.out]; exact ⟨r1, r2⟩) (by rw [HRD.out, X.out]; exact h4), HRD.out, X.out]
                    | true =>
                      have h87' := h87
                      simp only [Bool.and_eq_true, decide_eq_true_eq, Bool.not_eq_true'] at h87'
                      rw [HG.out, HG.out] at h87'
                      have H87 : Hid ((decide (a' > 0) && !ltInt r.pi.1[a' - 1]! r.pi.1[r.pivot]!) = true) := Lib.hid (by rw [← HG.out, ← HG.out]; exact h87)
                      obtain ⟨mid, d4, hx⟩ : ∃ mid d4, partitionEqual ltInt r.pi.1 a' b' r.pivot = (mid, d4) := ⟨(partitionEqual ltInt r.pi.1 a' b' r.pivot).1, (partitionEqual ltInt r.pi.1 a' b' r.pivot).2, rfl⟩
                      obtain ⟨r1, r2, r3, r4, _⟩ := round_eq swoI (partitionEqual_holds ltInt) h87'.1 hpv.1 hpv.2 (show b' ≤ r.pi.1.size by omega) HB3.out h87'.2 hx
                      have hc21 := partEq_u HR6.out hpv.1 hpv.2 hb' hn (cap := cap)
                      rw [hx] at hc21
                      have X := Lib.hid hx
                      have R4 := Lib.hid r4
                      clear hx r4 h87'
                      go_wp2_with (go_at_call 153; refine hc21.mono ?_; rintro e w7 ⟨rfl, t7⟩)
                      go_roundg (b' - mid)
                      case measure => omega
                      case rel =>
                        exact ⟨mid, b', r.lim, wb, wp, d4, rfl, rfl, rfl, rfl, rfl, r2, hb', Nat.le_refl _, by omega, by omega, R4, Lib.hid t7, Lib.hid (by rw [← HE.out, pdq_eq h12 hl0 (by rw [HRD.out]; exact HP2.out) (by rw [HRD.out]; exact H87.out) (by rw [HRD.out, X.out]; exact ⟨r1, r2⟩), HRD.out, X.out])⟩
end Go.Proofs.Ytpibaahiboajhaa
