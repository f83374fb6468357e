/-
  ciboriumref22.Prune: its contract.
-/
import Derived.Test.YtnceaimhhfjmdaaRef2
set_option linter.unusedSimpArgs false
set_option linter.unusedVariables false
namespace Go.Proofs.Ytnceaimhhfjmdaa
open Go.RowKit Go.Cib
attribute [local go_sem] cell_set Later.cell Later.frozen Grw.cell Grw.frozen

def refP (l : List Ver) (starts : List Int) (i : Nat) : Bool := !rightL l || neededB l starts i
def refPruneL (l : List Ver) (starts : List Int) : List Ver × List Ver :=
  if rightL l then match sel (refP l starts) 0 l with
    | [x] => if x.dead && starts.all (fun s => !decide (x.stamp > s)) then ([], l) else (sel (refP l starts) 0 l, sel (fun i => !refP l starts i) 0 l)
    | _ => (sel (refP l starts) 0 l, sel (fun i => !refP l starts i) 0 l)
  else (sel (refP l starts) 0 l, sel (fun i => !refP l starts i) 0 l)

set_option maxRecDepth 100000 in
set_option maxHeartbeats 2000000 in
theorem refPrune_any {S S2 : Nat → Prop} {l : List Ver} {starts : List Int} (A A2 : Option Addr) (n c n2 c2 : Nat) (w : World) (hn : n ≤ 65535) (hn2 : n2 ≤ 65536) (hr : Hid (RdL VerR 5 S w A n l)) (hsm : Small l) (hr2 : Hid (RdL U64R 1 S2 w A2 n2 starts)) :
    Calls Try.prog 33 #[.slice A n c, .slice A2 n2 c2] w fun e w' => ∃ A3 n3 c3 A4 n4 c4, e = .returned (.tuple #[.slice A3 n3 c3, .slice A4 n4 c4]) ∧
      RdL VerR 5 (fun _ => True) w' A3 n3 (refPruneL l starts).1 ∧ RdL VerR 5 (fun _ => True) w' A4 n4 (refPruneL l starts).2 ∧ Below w.heap.size w w' := by
  have hr1 := Lib.hid (hr.out.stable VerR.stable (S' := fun b => b < w.heap.size) fun b _ hlt => ⟨hlt, rfl⟩)
  have HL := Lib.hid hr.out.1
  clear hr
  go_enter Try.func33, Try.ntmps33
  go_wp2_with fail
  go_loopw [6, 7, 8] (fun v1 v2 vi wx => ∃ (k n1 : Nat) (A1 : Option Addr) (c1 n3 : Nat) (A3 : Option Addr) (c3 : Nat), k ≤ n ∧ vi = .int .i64 k ∧ v1 = .slice A1 n1 c1 ∧ v2 = .slice A3 n3 c3 ∧ Below w.heap.size w wx ∧ Own2 VerR 46 5 w.heap.size (fun b => b < w.heap.size) wx (.slice A1 n1 c1) (.slice A3 n3 c3) n1 n3 (sel (refP l starts) 0 (l.take k)) (sel (fun i => !refP l starts i) 0 (l.take k))) (fun _ _ vi _ => n - (intOf vi).toNat)
  case atStart => exact ⟨0, 0, none, 0, 0, none, 0, Nat.zero_le _, rfl, rfl, rfl, Below.refl _ _, Own2.nil_⟩
  case round =>
    obtain ⟨W0, rfl⟩ : ∃ W0 : World, W0 = wr := ⟨_, rfl⟩
    obtain ⟨k, n1, A1, c1, n3, A3, c3, hk, rfl, rfl, rfl, hb, htwo⟩ := hrel
    by_cases hlt : k < n
    · obtain ⟨b, o, rfl, hS, hb0⟩ := hr1.out.addr hlt
      obtain ⟨x, B1, m1, d1, hx, hmc, hpl, e0, e1, e2, e3, e4⟩ := vers_at hr1.out hlt
      have HX := Lib.hid hx
      have HP := Lib.hid hpl
      clear hS hx hpl
      have hl1 : n1 ≤ k := by have h1 := htwo.1.len; have h2 := sel_length (refP l starts) (l.take k) 0; simp at h2; omega
      have hl3 : n3 ≤ k := by have h1 := htwo.2.1.len; have h2 := sel_length (fun i => !refP l starts i) (l.take k) 0; simp at h2; omega
      cases hR : rightL l
      · have HR := Lib.hid hR; clear hR
        have HK := Lib.hid (show refP l starts k = true by rw [refP, HR.out]; rfl)
        have hfr := fun b (hb : b < w.heap.size) => show Cib.Rest (fun b => b < w.heap.size ∧ some b ≠ (Value.slice A3 n3 c3).ownBlock) (.slice A1 n1 c1) b from ⟨⟨hb, fun e => by have := (htwo.2.1.lt b e.symm).1; omega⟩, fun e => by have := (htwo.1.lt b e.symm).1; omega⟩
        have hlen := htwo.1.len
        go_wp2_with (first | (go_at_call 25; refine (refRight_any (some ⟨b, o, none⟩) n c _ (by omega) (Lib.hid (hr1.out.below VerR.stable hb)) hsm).mono ?_; rw [HR.out]; rintro e w1 ⟨rfl, hq⟩; have hwq := hb.trans (hq.mono hb.size); obtain ⟨q, rfl⟩ := Later.ex hwq; have htwo2 := htwo.keep VerR.stable hq; clear htwo) | (at_builtin; refine wpList_push1 VerR.stable VerR.one sl_ver rfl rfl (by exact rfl) (by exact rfl) htwo2.1 (y := x) rfl ⟨B1, m1, d1, rfl, hmc, (HP.out.below IntR.stable hwq).stable IntR.stable fun b hb hbl => ⟨hfr b hb, rfl⟩⟩ (by unfold maxLen; omega) (by omega) hwq.size ?_; intro A5 c5 u hc5 hown3 hus hub hat))
        refine ⟨⟨k + 1, _, _, _, _, _, _, by omega, by go_num, rfl, rfl, hwq.trans hub, ?_⟩, by simp [intOf]; omega⟩
        rw [sel_take _ HX.out, sel_take _ HX.out, HK.out]
        simp only [Bool.not_true, Bool.not_false, if_true, if_false, Bool.false_eq_true, List.append_nil]
        exact htwo2.pushed VerR.stable u.ok (hat.imp id fun e => ⟨_, by omega, e⟩) hown3
      · have HR := Lib.hid hR; clear hR
        cases hz : neededB l starts (k : Int)
        · have HZ := Lib.hid hz; clear hz
          have HK := Lib.hid (show refP l starts k = false by rw [refP, HR.out, HZ.out]; rfl)
          have hfr := fun b (hb : b < w.heap.size) => show Cib.Rest (fun b => b < w.heap.size ∧ some b ≠ (Value.slice A1 n1 c1).ownBlock) (.slice A3 n3 c3) b from ⟨⟨hb, fun e => by have := (htwo.swap.2.1.lt b e.symm).1; omega⟩, fun e => by have := (htwo.swap.1.lt b e.symm).1; omega⟩
          have hlen := htwo.swap.1.len
          go_wp2_with (first | (go_at_call 25; refine (refRight_any (some ⟨b, o, none⟩) n c _ (by omega) (Lib.hid (hr1.out.below VerR.stable hb)) hsm).mono ?_; rw [HR.out]; rintro e w0 ⟨rfl, hq0⟩; have hwq0 := hb.trans (hq0.mono hb.size)) | (go_at_call 57; refine (needed_any (some ⟨b, o, none⟩) A2 n c n2 c2 _ _ (by omega) hn2 (Lib.hid (hr1.out.below VerR.stable hwq0)) (Lib.hid (hr2.out.below U64R.stable hwq0)) HZ).mono ?_; rintro e w1 ⟨rfl, hq1⟩; have hq := hq0.trans (hq1.mono hq0.size); clear hq1 hq0 hwq0; have hwq := hb.trans (hq.mono hb.size); obtain ⟨q, rfl⟩ := Later.ex hwq; have htwo2 := htwo.swap.keep VerR.stable hq; clear htwo) | (at_builtin; refine wpList_push1 VerR.stable VerR.one sl_ver rfl rfl (by exact rfl) (by exact rfl) htwo2.1 (y := x) rfl ⟨B1, m1, d1, rfl, hmc, (HP.out.below IntR.stable hwq).stable IntR.stable fun b hb hbl => ⟨hfr b hb, rfl⟩⟩ (by unfold maxLen; omega) (by omega) hwq.size ?_; intro A5 c5 u hc5 hown3 hus hub hat))
          refine ⟨⟨k + 1, _, _, _, _, _, _, by omega, by go_num, rfl, rfl, hwq.trans hub, ?_⟩, by simp [intOf]; omega⟩
          rw [sel_take _ HX.out, sel_take _ HX.out, HK.out]
          simp only [Bool.not_true, Bool.not_false, if_true, if_false, Bool.false_eq_true, List.append_nil]
          exact (htwo2.pushed VerR.stable u.ok (hat.imp id fun e => ⟨_, by omega, e⟩) hown3).swap
        · have HZ := Lib.hid hz; clear hz
          have HK := Lib.hid (show refP l starts k = true by rw [refP, HR.out, HZ.out]; rfl)
          have hfr := fun b (hb : b < w.heap.size) => show Cib.Rest (fun b => b < w.heap.size ∧ some b ≠ (Value.slice A3 n3 c3).ownBlock) (.slice A1 n1 c1) b from ⟨⟨hb, fun e => by have := (htwo.2.1.lt b e.symm).1; omega⟩, fun e => by have := (htwo.1.lt b e.symm).1; omega⟩
          have hlen := htwo.1.len
          go_wp2_with (first | (go_at_call 25; refine (refRight_any (some ⟨b, o, none⟩) n c _ (by omega) (Lib.hid (hr1.out.below VerR.stable hb)) hsm).mono ?_; rw [HR.out]; rintro e w0 ⟨rfl, hq0⟩; have hwq0 := hb.trans (hq0.mono hb.size)) | (go_at_call 57; refine (needed_any (some ⟨b, o, none⟩) A2 n c n2 c2 _ _ (by omega) hn2 (Lib.hid (hr1.out.below VerR.stable hwq0)) (Lib.hid (hr2.out.below U64R.stable hwq0)) HZ).mono ?_; rintro e w1 ⟨rfl, hq1⟩; have hq := hq0.trans (hq1.mono hq0.size); clear hq1 hq0 hwq0; have hwq := hb.trans (hq.mono hb.size); obtain ⟨q, rfl⟩ := Later.ex hwq; have htwo2 := htwo.keep VerR.stable hq; clear htwo) | (at_builtin; refine wpList_push1 VerR.stable VerR.one sl_ver rfl rfl (by exact rfl) (by exact rfl) htwo2.1 (y := x) rfl ⟨B1, m1, d1, rfl, hmc, (HP.out.below IntR.stable hwq).stable IntR.stable fun b hb hbl => ⟨hfr b hb, rfl⟩⟩ (by unfold maxLen; omega) (by omega) hwq.size ?_; intro A5 c5 u hc5 hown3 hus hub hat))
          refine ⟨⟨k + 1, _, _, _, _, _, _, by omega, by go_num, rfl, rfl, hwq.trans hub, ?_⟩, by simp [intOf]; omega⟩
          rw [sel_take _ HX.out, sel_take _ HX.out, HK.out]
          simp only [Bool.not_true, Bool.not_false, if_true, if_false, Bool.false_eq_true, List.append_nil]
          exact htwo2.pushed VerR.stable u.ok (hat.imp id fun e => ⟨_, by omega, e⟩) hown3
    · have hkn : l.take k = l := List.take_of_length_le (by rw [HL.out]; omega)
      rw [hkn] at htwo
      obtain ⟨r1, r2⟩ := htwo.rd VerR.stable (S' := fun _ => True) (fun _ _ => trivial) (fun _ _ => trivial)
      obtain ⟨r3, r4⟩ := htwo.swap.rd VerR.stable (S' := fun _ => True) (fun _ _ => trivial) (fun _ _ => trivial)
      have HR1 := Lib.hid r1; have HR3 := Lib.hid r3
      clear htwo r1 r3 hkn
      cases hR : rightL l
      · have HR := Lib.hid hR; clear hR
        go_wp2_with (go_at_call 25; refine (refRight_any A n c _ (by omega) (Lib.hid (hr1.out.below VerR.stable hb)) hsm).mono ?_; rw [HR.out]; rintro e w1 ⟨rfl, hq⟩; have hwq := hb.trans (hq.mono hb.size))
        go_ret2
        have hp : refPruneL l starts = (sel (refP l starts) 0 l, sel (fun i => !refP l starts i) 0 l) := by rw [refPruneL, if_neg (by rw [HR.out]; simp)]
        rw [hp]
        exact ⟨A1, n1, c1, A3, n3, c3, rfl, HR1.out.below VerR.stable hq, HR3.out.below VerR.stable hq, hwq⟩
      · have HR := Lib.hid hR; clear hR
        by_cases h1 : n1 = 1
        · subst h1
          obtain ⟨b, o, rfl, hS, hb0⟩ := HR1.out.addr (show 0 < 1 by omega)
          obtain ⟨x, B1, m1, d1, hx, hmc, hpl, e0, e1, e2, e3, e4⟩ := vers_at HR1.out (show 0 < 1 by omega)
          simp only [Nat.zero_mul, Nat.add_zero] at e0 e1 e2 e3 e4
          have hone : sel (refP l starts) 0 l = [x] := by
            have h1 := HR1.out.1
            match hs : sel (refP l starts) 0 l, h1, hx with
            | [y], _, hx => simp at hx; rw [hx]
            | [], h1, _ => simp at h1
            | _ :: _ :: _, h1, _ => simp at h1
          have HO := Lib.hid hone
          clear hx hpl hS hone
          cases hd : x.dead
          · have HD := Lib.hid hd
            rw [hd] at e1
            clear hd
            go_wp2_with (go_at_call 25; refine (refRight_any A n c _ (by omega) (Lib.hid (hr1.out.below VerR.stable hb)) hsm).mono ?_; rw [HR.out]; rintro e w1 ⟨rfl, hq⟩; have hwq := hb.trans (hq.mono hb.size); obtain ⟨q, rfl⟩ := Later.ex hq)
            go_ret2
            have hp : refPruneL l starts = (sel (refP l starts) 0 l, sel (fun i => !refP l starts i) 0 l) := by rw [refPruneL, if_pos HR.out, HO.out]; simp only [HD.out, Bool.false_and, Bool.false_eq_true, if_false]
            rw [hp]
            exact ⟨_, 1, c1, A3, n3, c3, rfl, HR1.out.below VerR.stable hq, HR3.out.below VerR.stable hq, hwq⟩
          · have HD := Lib.hid hd
            rw [hd] at e1
            clear hd
            go_wp2_with (go_at_call 25; refine (refRight_any A n c _ (by omega) (Lib.hid (hr1.out.below VerR.stable hb)) hsm).mono ?_; rw [HR.out]; rintro e w1 ⟨rfl, hq⟩; have hwq := hb.trans (hq.mono hb.size); obtain ⟨q, rfl⟩ := Later.ex hq)
            have HL2 := Lib.hid hr2.out.1
            go_loopw [9] (fun vi wx => ∃ j : Nat, j ≤ n2 ∧ vi = .int .i64 j ∧ Below W0.heap.size W0 wx ∧ Hid (∀ i, i < j → x.stamp ≤ starts.getD i 0)) (fun vi _ => n2 - (intOf vi).toNat)
            case atStart => exact ⟨0, Nat.zero_le _, rfl, q.ok, Lib.hid fun i hi => absurd hi (by omega)⟩
            case round =>
              clear hq hwq
              obtain ⟨j, hj, rfl, hq, hall⟩ := hrel
              have hwq := hb.trans (hq.mono hb.size)
              by_cases hlt2 : j < n2
              · obtain ⟨b2, o2, rfl, _, hb2⟩ := hr2.out.addr hlt2
                obtain ⟨hjl, cs, hcs, hu, hcell⟩ := (hr2.out.below U64R.stable hb).at hlt2
                have hc0 := hcell 0 (.int .u64 starts[j]) (by rw [hu]; rfl)
                simp only [Nat.mul_one, Nat.add_zero] at hc0
                have hbs : b2 < W0.heap.size := Nat.lt_of_lt_of_le hb2 hb.size
                clear hcell hu hcs
                have HJ := Lib.hid (show starts.getD j 0 = starts[j] by simp [hjl])
                obtain ⟨y, rfl⟩ := Later.ex hq
                have hys := hq.size
                have g1 : b < y.to.heap.size := by omega
                have g2 : b2 < y.to.heap.size := by omega
                by_cases hcmp : starts[j] < x.stamp
                all_goals
                  go_wp2_with fail
                  refine wp_region_later (by kernel_rfl) (by kernel_rfl) ?_
                  repeat (go_big_quiet_step (fail))
                  refine wpQuiet_nil ?_
                  rintro _ ⟨z, rfl⟩
                · have hdc : decide (starts[j] < x.stamp) = true := by simpa using hcmp
                  go_wp2_with fail
                  go_ret2
                  have hp : refPruneL l starts = (sel (refP l starts) 0 l, sel (fun i => !refP l starts i) 0 l) := by
                    have hne : (x.dead && starts.all (fun s => !decide (x.stamp > s))) = false := by
                      rw [HD.out, Bool.true_and, Bool.eq_false_iff]
                      intro h
                      have := List.all_eq_true.1 h starts[j] (List.getElem_mem _)
                      simp at this; omega
                    rw [refPruneL, if_pos HR.out, HO.out]
                    simp only [hne, Bool.false_eq_true, if_false]
                  rw [hp]
                  exact ⟨_, 1, c1, A3, n3, c3, rfl, (HR1.out.below VerR.stable y.ok).below VerR.stable z.ok, (HR3.out.below VerR.stable y.ok).below VerR.stable z.ok, hwq.trans (z.ok.mono hwq.size)⟩
                · have hdc : decide (starts[j] < x.stamp) = false := by simpa using hcmp
                  go_wp2_with fail
                  refine ⟨⟨j + 1, by omega, by go_num, hq.trans (z.ok.mono hq.size), Lib.hid fun i hi => ?_⟩, by simp [intOf]; omega⟩
                  rcases Nat.lt_or_ge i j with h | h
                  · exact hall.out i h
                  · rw [show i = j by omega, HJ.out]; omega
              · go_wp2_with fail
                go_ret2
                have hp : refPruneL l starts = ([], l) := by
                  have hyes : (x.dead && starts.all (fun s => !decide (x.stamp > s))) = true := by
                    rw [HD.out, Bool.true_and, List.all_eq_true]
                    intro s hs
                    obtain ⟨i, hi, rfl⟩ := List.mem_iff_getElem.1 hs
                    have := hall.out i (by have := HL2.out; omega)
                    rw [show starts.getD i 0 = starts[i] by simp [hi]] at this
                    simp; omega
                  rw [refPruneL, if_pos HR.out, HO.out]
                  simp only [hyes, if_true]
                rw [hp]
                exact ⟨none, 0, 0, A, n, c, rfl, RdL.nil, ((hr1.out.below VerR.stable hwq).weaken VerR.stable fun _ _ => trivial), hwq⟩
        · have hne : ((n1 : Int) != 1) = true := by simp; omega
          go_wp2_with (go_at_call 25; refine (refRight_any A n c _ (by omega) (Lib.hid (hr1.out.below VerR.stable hb)) hsm).mono ?_; rw [HR.out]; rintro e w1 ⟨rfl, hq⟩; have hwq := hb.trans (hq.mono hb.size))
          go_ret2
          have hp : refPruneL l starts = (sel (refP l starts) 0 l, sel (fun i => !refP l starts i) 0 l) := by
            rw [refPruneL, if_pos HR.out]
            split
            · rename_i x hx
              have := HR1.out.1
              rw [hx] at this; simp at this; omega
            · rfl
          rw [hp]
          exact ⟨A1, n1, c1, A3, n3, c3, rfl, HR1.out.below VerR.stable hq, HR3.out.below VerR.stable hq, hwq⟩
end Go.Proofs.Ytnceaimhhfjmdaa
