/-
  The document's drive: Crash, walked.
-/
import Derived.Test.YtnceaimhhfjmdaaRefD4
import Derived.Deep.RegionLaw
set_option linter.unusedSimpArgs false
set_option linter.unusedVariables false
namespace Go.Proofs.Ytnceaimhhfjmdaa
open Go.RowKit Go.Cib
attribute [local go_sem] cell_set Later.cell Later.frozen Grw.cell Grw.frozen

set_option maxRecDepth 100000 in
set_option maxHeartbeats 8000000 in
theorem rcrash_any {G : Nat → Prop} {w : World} {x n : Nat} {rs : RSt} (h : Hid (RefAt G w x n rs)) (hcl : rs.L.length + rs.wait.length < 1000000) {S : Nat → Prop} {A : Option Addr} {m c : Nat} {ks : List Bool} (hr : Hid (RdL BoolR 1 S w A m ks)) (hS : ∀ b, S b → ¬ G b) :
    Calls Try.prog 61 #[.pointer (some ⟨x, 0, none⟩), .slice A m c] w fun e w' => e = .returned (.tuple #[]) ∧ RUpd G w w' x n { rs with L := rs.L ++ keptE (keepOf ks) 0 rs.wait, wait := [] } := by
  go_enter Try.func61, Try.ntmps61
  go_wp2_with fail
  go_loopw [4] (fun vi wr => ∃ (i : Nat) (G1 : Nat → Prop) (L1 : List Ev), i ≤ rs.wait.length ∧ i ≤ m ∧ vi = .int .i64 i ∧ Hid (L1 = rs.L ++ keptE (keepOf ks) 0 (rs.wait.take i)) ∧ Hid (RefAt G1 wr x n ⟨L1, rs.wait, rs.gone⟩) ∧ Hid (∀ k, G1 k → k < w.heap.size → G k) ∧ Hid (Keep G w wr)) (fun vi _ => rs.wait.length - (intOf vi).toNat)
  case atStart => exact ⟨0, G, rs.L, Nat.zero_le _, Nat.zero_le _, rfl, Lib.hid (by simp [keptE]), Lib.hid h.out, Lib.hid (fun k hk _ => hk), Lib.hid (Keep.refl _ _)⟩
  case round =>
    obtain ⟨i, G1, L1, hi, him, rfl, hL1, hR, hG1, hK⟩ := hrel
    obtain ⟨Sb, vL, vW, hB, g1, g2, g3, g4, lt⟩ := hR.out
    obtain ⟨AL, cL, rfl⟩ := ownL_form hB.oL
    obtain ⟨AW, cW, rfl⟩ := ownL_form hB.oW
    have k1 : wr.cell? ⟨x, 1, none⟩ = some (.slice AL L1.length cL) := hB.box.cell 1
    have k2 : wr.cell? ⟨x, 2, none⟩ = some (.slice AW rs.wait.length cW) := hB.box.cell 2
    have z1 := hB.box.frozen 1
    have z2 := hB.box.frozen 2
    have HB := Lib.hid hB
    by_cases hw : i < rs.wait.length
    · by_cases hm : i < m
      · have hm2 : (i : Int) < (m : Int) := by omega
        have hw2 : (i : Int) < (rs.wait.length : Int) := by omega
        have hi0 : (0 : Int) ≤ (i : Int) := Int.natCast_nonneg _
        have hkr := hr.out.keep BoolR.stable hK.out hS
        obtain ⟨kb, ko, rfl, _, _⟩ := hkr.addr hm
        obtain ⟨hkl, cs, c1, c2, c3⟩ := hkr.at hm
        have c4 : cs = [.bool ks[i]] := c2
        subst c4
        have q0 : wr.cell? ⟨kb, ko + i, none⟩ = some (.bool ks[i]) := by have := c3 0 _ rfl; simpa using this
        have hkeep : keepOf ks i = ks[i] := by simp [keepOf, hkl]
        have htk : rs.wait.take (i + 1) = rs.wait.take i ++ [rs.wait[i]] := List.take_succ_eq_append_getElem hw
        have hlt : (rs.wait.take i).length = i := by simp; omega
        cases hv : ks[i] with
        | false =>
          rw [hv] at q0
          have hnext : keptE (keepOf ks) 0 (rs.wait.take (i + 1)) = keptE (keepOf ks) 0 (rs.wait.take i) := by
            rw [htk, keptE_snoc, hlt, Nat.zero_add, hkeep, hv]; rfl
          have HN := Lib.hid hnext
          clear hkr c1 c2 c3 hkeep hnext htk hlt hB
          go_wp2_with fail
          exact ⟨⟨i + 1, G1, L1, by omega, by omega, by go_num, Lib.hid (by rw [HN.out]; exact hL1.out), hR, hG1, hK⟩, by simp [intOf]; omega⟩
        | true =>
          rw [hv] at q0
          obtain ⟨g, e, B, mm, d, e0, he, hre, y0, y1, y2, y3⟩ := ev_at hB.oW hw
          obtain rfl : AW = some ⟨g, 0, none⟩ := e0
          have hnext : keptE (keepOf ks) 0 (rs.wait.take (i + 1)) = keptE (keepOf ks) 0 (rs.wait.take i) ++ [e] := by
            rw [htk, keptE_snoc, hlt, Nat.zero_add, hkeep, hv, (List.getElem?_eq_some_iff.1 he).2]; rfl
          have HN := Lib.hid hnext
          have hl1 : L1.length < 1000000 := by
            have := keptE_len (keepOf ks) (rs.wait.take i) 0
            rw [hL1.out]
            simp at this ⊢; omega
          have hxL : some x ≠ (Value.slice AL L1.length cL).ownBlock := fun e => hB.lx e.symm
          have own1 : OwnL EvR 112 4 0 Sb wr.drew (.slice AL L1.length cL) L1.length L1 := hB.oL.keep EvR.stable ((Below.refl _ _).drew)
          have hye : EvR (Go.Cib.Rest Sb (.slice AL L1.length cL)) wr.drew (#[.int .i64 e.at_, .slice B mm d, .int .i64 e.off, .int .u32 e.mask] : Array Value).toList e := ⟨B, mm, d, rfl, hre.stable U8R.stable fun b hb _ => ⟨⟨hb.1, (hB.sx b hb.1).2.1⟩, rfl⟩⟩
          have k1a : ∀ o, (wr.alloc o).cell? ⟨x, 1, none⟩ = some (.slice AL L1.length cL) := fun o => cell_alloc2 k1 o
          have k2a : ∀ o, (wr.alloc o).cell? ⟨x, 2, none⟩ = some (.slice (some ⟨g, 0, none⟩) rs.wait.length cW) := fun o => cell_alloc2 k2 o
          have KF := Lib.hid (fun (u : Grw (Value.slice AL L1.length cL).ownBlock wr.drew) => And.intro (cell_far2 (w := wr.drew) (a := ⟨x, 1, none⟩) k1 u.ok hxL) (frozen_far2 (w := wr.drew) (a := ⟨x, 1, none⟩) k1 z1 u.ok hxL))
          have HE := Lib.hid he
          clear hkr c1 c2 c3 hkeep hnext htk hlt hB hre he hxL
          go_wp2_with fail
          go_region_law (refine step_of_list (by rfl) (wpList_push1 EvR.stable EvR.one slEv (by rfl) (by rfl) (W := wr.drew) (base := 0) (S := Sb) (cs := #[.int .i64 e.at_, .slice B mm d, .int .i64 e.off, .int .u32 e.mask]) (y := e) (by rfl) (by rfl) own1 (by rfl) hye (by unfold maxLen; omega) (by omega) (Nat.zero_le _) ?_); intro A11 c11 u11 hc11 own11 hlt11 hb11 hat11; refine And.intro rfl ?_; obtain ⟨k30, k31⟩ := KF.out u11)
          all_goals go_wp2_with fail
          all_goals
            have hp := rpush_post HB.out g1 g2 g3 g4 lt (undrew u11.ok) own11 hat11
            obtain ⟨G2, hR2, hG2, hK2⟩ := RUpd.trans hG1.out hK.out hp
            exact ⟨⟨i + 1, G2, L1 ++ [e], by omega, by omega, by go_num, Lib.hid (by rw [HN.out, hL1.out, List.append_assoc]), Lib.hid hR2, Lib.hid hG2, Lib.hid hK2⟩, by simp [intOf]; omega⟩
      · have hmi : i = m := by omega
        have hm2 : ¬ (i : Int) < (m : Int) := by omega
        have hw2 : (i : Int) < (rs.wait.length : Int) := by omega
        have hend : L1 = rs.L ++ keptE (keepOf ks) 0 rs.wait := by
          rw [hL1.out]
          congr 1
          have e1 : rs.wait = rs.wait.take i ++ rs.wait.drop i := (List.take_append_drop i rs.wait).symm
          conv => rhs; rw [e1, keptE_app]
          rw [keptE_far _ (rs.wait.drop i) _ (fun j hj => ?_), List.append_nil]
          have := hr.out.1
          simp at hj
          simp [keepOf, List.getElem?_eq_none (show ks.length ≤ j by omega)]
        have HEnd := Lib.hid hend
        clear hend hmi hB
        go_wp2_with fail
        go_end0
        have hp := RUpd.trans hG1.out hK.out hR.out.noWait
        rw [HEnd.out] at hp
        exact ⟨rfl, hp⟩
    · have hwi : rs.wait.take i = rs.wait := List.take_of_length_le (by omega)
      have hw2 : ¬ (i : Int) < (rs.wait.length : Int) := by omega
      have HEnd : Hid (L1 = rs.L ++ keptE (keepOf ks) 0 rs.wait) := Lib.hid (by rw [hL1.out, hwi])
      clear hwi hB
      go_wp2_with fail
      go_end0
      have hp := RUpd.trans hG1.out hK.out hR.out.noWait
      rw [HEnd.out] at hp
      exact ⟨rfl, hp⟩
end Go.Proofs.Ytnceaimhhfjmdaa
