/-
  ciboriumref22.Right, seen, At, Add: their contracts.
-/
import Derived.Test.YtnceaimhhfjmdaaChain5
set_option linter.unusedSimpArgs false
set_option linter.unusedVariables false
namespace Go.Proofs.Ytnceaimhhfjmdaa
open Go.RowKit Go.Cib
attribute [local go_sem] cell_set Later.cell Later.frozen Grw.cell Grw.frozen

theorem bare_same (v : Ver) : v.blob.same .none_ = v.bare := by
  rw [Blob.same, Ver.bare, Blob.none_]
  congr 2
  rw [Bool.eq_iff_iff]; simp

set_option maxRecDepth 100000 in
set_option maxHeartbeats 2000000 in
theorem refRight_any {S : Nat → Prop} {l : List Ver} (A : Option Addr) (n c : Nat) (w : World) (hn : n ≤ 65536) (hr : Hid (RdL VerR 5 S w A n l)) (hsm : Small l) :
    Calls Try.prog 25 #[.slice A n c] w fun e w' => e = .returned (.bool (rightL l)) ∧ Below w.heap.size w w' := by
  go_enter Try.func25, Try.ntmps25
  go_wp2_with fail
  go_loopw [3] (fun i wr => ∃ k : Nat, k ≤ n ∧ i = .int .i64 k ∧ Below w.heap.size w wr ∧ Hid (∀ j, j < k → okAt l j = true)) (fun i _ => n - (intOf i).toNat)
  case atStart => exact ⟨0, Nat.zero_le _, rfl, Below.refl _ _, Lib.hid fun j hj => absurd hj (by omega)⟩
  case round =>
    obtain ⟨k, hk, rfl, hb, HA⟩ := hrel
    obtain ⟨y, rfl⟩ := Later.ex hb
    have hyb := y.ok.size
    by_cases hlt : k < n
    · obtain ⟨b, o, rfl, hS, hb0⟩ := hr.out.addr hlt
      obtain ⟨x, A1, m1, c1, hx, hmc, hpl, e0, e1, e2, e3, e4⟩ := vers_at hr.out hlt
      obtain ⟨x', A2, m2, c2, hx', _, _, f0, _, _, _, _⟩ := vers_at hr.out (show k - 1 < n by omega)
      have hb1 : b < y.to.heap.size := by omega
      have hb2 : b ≤ y.to.heap.size := by omega
      have hm : m1 ≤ 65536 := by rw [← hpl.1]; exact hsm x (List.mem_of_getElem? hx)
      have HP := Lib.hid hpl
      have hkl : k < l.length := by rw [hr.out.1]; exact hlt
      clear hS hpl
      by_cases hcmp : 0 < k ∧ x'.stamp ≤ x.stamp
      · obtain ⟨hk0, hc⟩ := hcmp
        have HOK := Lib.hid (okAt_of hx hx' rfl rfl)
        clear hx hx'
        go_wp2_with fail
        refine wp_region_later (by kernel_rfl) (by kernel_rfl) ?_
        repeat (go_big_quiet_step (fail))
        refine wpQuiet_nil ?_
        rintro _ ⟨z, rfl⟩
        go_wp2_with fail
        go_ret
        refine ⟨ret_bool (rightL_false hkl ?_).symm, (by repeat (first | (with_reducible exact Below.refl _ _) | (with_reducible assumption) | (with_reducible refine Below.drew ?_) | (with_reducible refine Below.setCell ?_ ?_ _) | (with_reducible refine Below.alloc ?_ ?_ _) | (with_reducible refine Below.later ?_ ?_ _) | (first | (with_reducible exact Nat.le_refl _) | omega | (simp only [World.size_alloc, World.size_setCell, World.size_drew] <;> omega))))⟩
        rw [HOK.out]; simp; omega
      · cases hd : x.dead <;> cases hbr : x.bare <;> by_cases hk0 : 0 < k
        all_goals
          have HOK := Lib.hid (okAt_of hx hx' hd hbr)
          have HB := Lib.hid ((bare_same x).trans hbr)
          rw [hd] at e1
          clear hx hx' hd hbr
          first | (have hc : decide (x'.stamp ≤ x.stamp) = false := by simp; omega) | skip
          go_wp2_with fail
          refine wp_region_later (by kernel_rfl) (by kernel_rfl) ?_
          repeat (go_big_quiet_step ((go_at_call 31; exact Later.call _ (blobSame_any (S2 := fun _ => True) (y := .none_) A1 none m1 c1 0 0 _ hm (Lib.hid ((HP.out.below IntR.stable y.ok).below IntR.stable (Later.ok _))) (Lib.hid RdL.nil) HB) (Nat.le_refl _))))
          refine wpQuiet_nil ?_
          rintro _ ⟨z, rfl⟩
          go_wp2_with fail
        all_goals first
          | (go_ret
             refine ⟨ret_bool (rightL_false hkl ?_).symm, (by repeat (first | (with_reducible exact Below.refl _ _) | (with_reducible assumption) | (with_reducible refine Below.drew ?_) | (with_reducible refine Below.setCell ?_ ?_ _) | (with_reducible refine Below.alloc ?_ ?_ _) | (with_reducible refine Below.later ?_ ?_ _) | (first | (with_reducible exact Nat.le_refl _) | omega | (simp only [World.size_alloc, World.size_setCell, World.size_drew] <;> omega))))⟩
             rw [HOK.out]; first | (simp; done) | (simp; omega))
          | (refine ⟨⟨k + 1, by omega, by go_num, (by repeat (first | (with_reducible exact Below.refl _ _) | (with_reducible assumption) | (with_reducible refine Below.drew ?_) | (with_reducible refine Below.setCell ?_ ?_ _) | (with_reducible refine Below.alloc ?_ ?_ _) | (with_reducible refine Below.later ?_ ?_ _) | (first | (with_reducible exact Nat.le_refl _) | omega | (simp only [World.size_alloc, World.size_setCell, World.size_drew] <;> omega)))), Lib.hid (upto_succ HA.out ?_)⟩, by simp [intOf]; omega⟩
             rw [HOK.out]; first | (simp; done) | (simp; omega))
    · go_wp2_with fail
      go_ret
      refine ⟨ret_bool ?_, (by repeat (first | (with_reducible exact Below.refl _ _) | (with_reducible assumption) | (with_reducible refine Below.drew ?_) | (with_reducible refine Below.setCell ?_ ?_ _) | (with_reducible refine Below.alloc ?_ ?_ _) | (with_reducible refine Below.later ?_ ?_ _) | (first | (with_reducible exact Nat.le_refl _) | omega | (simp only [World.size_alloc, World.size_setCell, World.size_drew] <;> omega))))⟩
      have : n = k := by omega
      subst this
      symm
      simp only [rightL, List.all_eq_true, List.mem_range, hr.out.1]
      exact HA.out

/-! ### seen, At -/
/-- Where the version lies that is seen: -1: nowhere. -/
def seenZ (l : List Ver) (s : Int) : Int := if seenIdx l s < l.length then (seenIdx l s : Int) else -1

set_option maxHeartbeats 1000000 in
theorem refSeen_any {S : Nat → Prop} {l : List Ver} (A : Option Addr) (n c : Nat) (s : Int) (w : World) (hn : n ≤ 65536) (hr : Hid (RdL VerR 5 S w A n l)) :
    Calls Try.prog 55 #[.slice A n c, .int .u64 s] w fun e w' => e = .returned (.int .i64 (seenZ l s)) ∧ Below w.heap.size w w' := by
  have HL := Lib.hid hr.out.1
  go_enter Try.func55, Try.ntmps55
  go_wp2_with fail
  go_loopw [5] (fun i wr => ∃ k : Nat, k ≤ n ∧ i = .int .i64 k ∧ Below w.heap.size w wr ∧ Hid (∀ j, j < k → leAt l s j = false)) (fun i _ => n - (intOf i).toNat)
  case atStart => exact ⟨0, Nat.zero_le _, rfl, Below.refl _ _, Lib.hid fun j hj => absurd hj (by omega)⟩
  case round =>
    obtain ⟨k, hk, rfl, hb, HA⟩ := hrel
    obtain ⟨y, rfl⟩ := Later.ex hb
    by_cases hlt : k < n
    · obtain ⟨b, o, rfl, hS, hb0⟩ := hr.out.addr hlt
      obtain ⟨x, A1, m1, c1, hx, hmc, hpl, e0, e1, e2, e3, e4⟩ := vers_at hr.out hlt
      have HX := Lib.hid hx
      clear hx hpl hS
      have HLE := Lib.hid (show leAt l s k = decide (x.stamp ≤ s) by rw [leAt, getD_of HX.out])
      by_cases hc : x.stamp ≤ s
      · go_wp2_with fail
        go_ret
        have hidx : seenIdx l s = k := by
          rw [seenIdx, List.findIdx_eq (by rw [HL.out]; exact hlt)]
          have h1 := (List.getElem?_eq_some_iff.1 HX.out).2
          refine ⟨by rw [h1]; simpa using hc, fun j hj => ?_⟩
          have := HA.out j hj
          simpa [leAt, show j < l.length by have := HL.out; omega] using this
        exact ⟨by rw [seenZ, hidx, if_pos (by rw [HL.out]; exact hlt)]; rfl, hb⟩
      · have hc2 : decide (x.stamp ≤ s) = false := by simpa using hc
        go_wp2_with fail
        refine ⟨⟨k + 1, by omega, by go_num, hb, Lib.hid fun j hj => ?_⟩, by simp [intOf]; omega⟩
        rcases Nat.lt_or_ge j k with h | h
        · exact HA.out j h
        · rw [show j = k by omega, HLE.out]; exact hc2
    · go_wp2_with fail
      go_ret
      have hidx : seenIdx l s = l.length := by
        rw [seenIdx, List.findIdx_eq_length]
        intro v hv
        obtain ⟨j, hj, rfl⟩ := List.mem_iff_getElem.1 hv
        have := HA.out j (by have := HL.out; omega)
        simpa [leAt, hj] using this
      exact ⟨by rw [seenZ, hidx, if_neg (Nat.lt_irrefl _)]; rfl, hb⟩

theorem atL_idx {l : List Ver} (h : rightL l = true) (s : Int) : atL l s = l[seenIdx l s]? := by
  rw [atL, if_pos h, seenIdx, List.find?_eq_getElem?_findIdx]

set_option maxHeartbeats 1000000 in
theorem refAt_any {S : Nat → Prop} {l : List Ver} (A : Option Addr) (n c : Nat) (s : Int) (w : World) (hn : n ≤ 65536) (hr : Hid (RdL VerR 5 S w A n l)) (hsm : Small l) :
    Calls Try.prog 28 #[.slice A n c, .int .u64 s] w fun e w' => ∃ v, e = .returned (.tuple #[v, .bool (atL l s).isSome]) ∧ VerV S w' ((atL l s).getD .none_) v ∧ Below w.heap.size w w' := by
  have HL := Lib.hid hr.out.1
  by_cases hin : seenIdx l s < l.length
  · have hz : seenZ l s = (seenIdx l s : Int) := by rw [seenZ, if_pos hin]
    cases hR : rightL l
    · have HR := Lib.hid hR; have HZ := Lib.hid hz
      clear hR hz
      go_enter Try.func28, Try.ntmps28
      go_wp2_with fail
      refine (refSeen_any A n c s _ hn (Lib.hid (hr.out.below VerR.stable (by repeat (first | (with_reducible exact Below.refl _ _) | (with_reducible assumption) | (with_reducible refine Below.drew ?_) | (with_reducible refine Below.setCell ?_ ?_ _) | (with_reducible refine Below.alloc ?_ ?_ _) | (with_reducible refine Below.later ?_ ?_ _) | (first | (with_reducible exact Nat.le_refl _) | omega | (simp only [World.size_alloc, World.size_setCell, World.size_drew] <;> omega))))))).mono ?_
      rintro e w' ⟨rfl, hb⟩
      obtain ⟨y, rfl⟩ := Later.ex hb
      have hyb : Below w.heap.size w y.to := (by repeat (first | (with_reducible exact Below.refl _ _) | (with_reducible assumption) | (with_reducible refine Below.drew ?_) | (with_reducible refine Below.setCell ?_ ?_ _) | (with_reducible refine Below.alloc ?_ ?_ _) | (with_reducible refine Below.later ?_ ?_ _) | (first | (with_reducible exact Nat.le_refl _) | omega | (simp only [World.size_alloc, World.size_setCell, World.size_drew] <;> omega))))
      have hys := hb.size
      simp only [World.size_alloc] at hys
      rw [HZ.out]
      have hneg : decide ((seenIdx l s : Int) < 0) = false := by simp
      go_wp2_with (go_at_call 25; refine (refRight_any A n c _ hn (Lib.hid (hr.out.below VerR.stable hyb)) hsm).mono ?_; rw [HR.out]; rintro e w' ⟨rfl, hb2⟩; obtain ⟨z, rfl⟩ := Later.ex hb2; have hys2 : w.heap.size < y.to.heap.size := (by omega))
      refine bodyPost_ret (v := .tuple #[.agg #[.int .u64 0, .bool false, .slice none 0 0, .int .u64 0, .int .i64 0], .bool false]) (by simp [results, Try.results28, go_sem, *]) rfl ?_
      have hno : atL l s = none := by rw [atL, HR.out]; rfl
      rw [hno]
      exact ⟨_, rfl, VerV.zero, (by repeat (first | (with_reducible exact Below.refl _ _) | (with_reducible assumption) | (with_reducible refine Below.drew ?_) | (with_reducible refine Below.setCell ?_ ?_ _) | (with_reducible refine Below.alloc ?_ ?_ _) | (with_reducible refine Below.later ?_ ?_ _) | (first | (with_reducible exact Nat.le_refl _) | omega | (simp only [World.size_alloc, World.size_setCell, World.size_drew] <;> omega))))⟩
    · have HR := Lib.hid hR; have HZ := Lib.hid hz
      have hlt : seenIdx l s < n := by rw [← HL.out]; exact hin
      have HI := Lib.hid (atL_idx hR s)
      clear hR hz hin
      obtain ⟨b, o, rfl, hS, hb0⟩ := hr.out.addr hlt
      obtain ⟨x, A1, m1, c1, hx, hmc, hpl, e0, e1, e2, e3, e4⟩ := vers_at hr.out hlt
      have HX := Lib.hid hx
      have HP := Lib.hid hpl
      clear hx hpl hS
      generalize hk : seenIdx l s = k at *
      have HK := Lib.hid hk; clear hk
      have hb2 : b ≤ w.heap.size := by omega
      go_enter Try.func28, Try.ntmps28
      go_wp2_with fail
      refine (refSeen_any (some ⟨b, o, none⟩) n c s _ hn (Lib.hid (hr.out.below VerR.stable (by repeat (first | (with_reducible exact Below.refl _ _) | (with_reducible assumption) | (with_reducible refine Below.drew ?_) | (with_reducible refine Below.setCell ?_ ?_ _) | (with_reducible refine Below.alloc ?_ ?_ _) | (with_reducible refine Below.later ?_ ?_ _) | (first | (with_reducible exact Nat.le_refl _) | omega | (simp only [World.size_alloc, World.size_setCell, World.size_drew] <;> omega))))))).mono ?_
      rintro e w' ⟨rfl, hb⟩
      obtain ⟨y, rfl⟩ := Later.ex hb
      have hyb : Below w.heap.size w y.to := (by repeat (first | (with_reducible exact Below.refl _ _) | (with_reducible assumption) | (with_reducible refine Below.drew ?_) | (with_reducible refine Below.setCell ?_ ?_ _) | (with_reducible refine Below.alloc ?_ ?_ _) | (with_reducible refine Below.later ?_ ?_ _) | (first | (with_reducible exact Nat.le_refl _) | omega | (simp only [World.size_alloc, World.size_setCell, World.size_drew] <;> omega))))
      have hys := hb.size
      simp only [World.size_alloc] at hys
      rw [HZ.out]
      have hneg : decide ((k : Int) < 0) = false := by simp
      go_wp2_with (go_at_call 25; refine (refRight_any (some ⟨b, o, none⟩) n c _ hn (Lib.hid (hr.out.below VerR.stable hyb)) hsm).mono ?_; rw [HR.out]; rintro e w' ⟨rfl, hb2'⟩; obtain ⟨z, rfl⟩ := Later.ex hb2'; have hys2 : w.heap.size < y.to.heap.size := (by omega); have hys3 : b < y.to.heap.size := (by omega))
      refine bodyPost_ret (v := .tuple #[.agg #[.int .u64 x.stamp, .bool x.dead, .slice A1 m1 c1, .int .u64 x.blob.gen, .int .i64 x.blob.size], .bool true]) (by simp [results, Try.results28, go_sem, *]) rfl ?_
      have hyes : atL l s = some x := by rw [HI.out]; exact HX.out
      rw [hyes]
      refine ⟨_, rfl, ⟨A1, m1, c1, rfl, hmc, HP.out.below IntR.stable (by repeat (first | (with_reducible exact Below.refl _ _) | (with_reducible assumption) | (with_reducible refine Below.drew ?_) | (with_reducible refine Below.setCell ?_ ?_ _) | (with_reducible refine Below.alloc ?_ ?_ _) | (with_reducible refine Below.later ?_ ?_ _) | (first | (with_reducible exact Nat.le_refl _) | omega | (simp only [World.size_alloc, World.size_setCell, World.size_drew] <;> omega))))⟩, (by repeat (first | (with_reducible exact Below.refl _ _) | (with_reducible assumption) | (with_reducible refine Below.drew ?_) | (with_reducible refine Below.setCell ?_ ?_ _) | (with_reducible refine Below.alloc ?_ ?_ _) | (with_reducible refine Below.later ?_ ?_ _) | (first | (with_reducible exact Nat.le_refl _) | omega | (simp only [World.size_alloc, World.size_setCell, World.size_drew] <;> omega))))⟩
  · have hz : seenZ l s = -1 := by rw [seenZ, if_neg hin]
    have hno : atL l s = none := by
      cases hR : rightL l with
      | false => rw [atL, hR]; rfl
      | true => rw [atL_idx hR]; exact List.getElem?_eq_none (by omega)
    have HZ := Lib.hid hz; have HN := Lib.hid hno
    clear hz hno hin
    go_enter Try.func28, Try.ntmps28
    go_wp2_with fail
    refine (refSeen_any A n c s _ hn (Lib.hid (hr.out.below VerR.stable (by repeat (first | (with_reducible exact Below.refl _ _) | (with_reducible assumption) | (with_reducible refine Below.drew ?_) | (with_reducible refine Below.setCell ?_ ?_ _) | (with_reducible refine Below.alloc ?_ ?_ _) | (with_reducible refine Below.later ?_ ?_ _) | (first | (with_reducible exact Nat.le_refl _) | omega | (simp only [World.size_alloc, World.size_setCell, World.size_drew] <;> omega))))))).mono ?_
    rintro e w' ⟨rfl, hb⟩
    obtain ⟨y, rfl⟩ := Later.ex hb
    have hys := hb.size
    simp only [World.size_alloc] at hys
    have hys2 : w.heap.size < y.to.heap.size := by omega
    rw [HZ.out]
    go_wp2_with fail
    refine bodyPost_ret (v := .tuple #[.agg #[.int .u64 0, .bool false, .slice none 0 0, .int .u64 0, .int .i64 0], .bool false]) (by simp [results, Try.results28, go_sem, *]) rfl ?_
    rw [HN.out]
    exact ⟨_, rfl, VerV.zero, (by repeat (first | (with_reducible exact Below.refl _ _) | (with_reducible assumption) | (with_reducible refine Below.drew ?_) | (with_reducible refine Below.setCell ?_ ?_ _) | (with_reducible refine Below.alloc ?_ ?_ _) | (with_reducible refine Below.later ?_ ?_ _) | (first | (with_reducible exact Nat.le_refl _) | omega | (simp only [World.size_alloc, World.size_setCell, World.size_drew] <;> omega))))⟩
end Go.Proofs.Ytnceaimhhfjmdaa
