/-
  ciboriumref22.Right: its contract (turned out of Ref1).
-/
import Derived.Test.YtpibaahiboajhaaChain5
set_option linter.unusedSimpArgs false
set_option linter.unusedVariables false
namespace Go.Proofs.Ytpibaahiboajhaa
open Go.RowKit Go.Cib
attribute [local go_sem] cell_set Later.cell Later.frozen Grw.cell Grw.frozen

theorem bare_same (v : Ver) : v.blob.same .none_ = v.bare := by
  rw [Blob.same, Ver.bare, Blob.none_]
  congr 2
  rw [Bool.eq_iff_iff]; simp

set_option maxRecDepth 100000 in
set_option maxHeartbeats 2000000 in
theorem refRight_any {S : Nat → Prop} {l : List Ver} (A : Option Addr) (n c : Nat) (w : World) (hn : n ≤ 4194304) (hr : Hid (RdL VerR 5 S w A n l)) (hsm : Small l) :
    Calls Try.prog 85 #[.slice A n c] w fun e w' => e = .returned (.bool (rightL l)) ∧ Below w.heap.size w w' := by
  go_enter Try.func85, Try.ntmps85
  go_wp2_with fail
  go_loopw [3] (fun i wr => ∃ k : Nat, k ≤ n ∧ i = .int .i64 k ∧ Below w.heap.size w wr ∧ Hid (∀ j, j < k → okAt l j = true)) (fun i _ => n - (intOf i).toNat)
  case atStart => exact ⟨0, Nat.zero_le _, rfl, Below.refl _ _, Lib.hid fun j hj => absurd hj (by omega)⟩
  case round =>
    obtain ⟨k, hk, rfl, hb, HA⟩ := hrel
    obtain ⟨y, rfl⟩ := Later.ex hb
    have hyb := y.ok.size
    by_cases hlt : k < n
    · obtain ⟨b, o, rfl, hS, hb0⟩ := hr.out.addr hlt
      obtain ⟨x, A1, m1, c1, hx, hmc, hpl, e0, e1, e2, e3, e4⟩ := vers_at hr.out hlt
      obtain ⟨x', A2, m2, c2, hx', _, _, f0, _, _, _, _⟩ := vers_at hr.out (show k - 1 < n by omega)
      have hb1 : b < y.to.heap.size := by omega
      have hb2 : b ≤ y.to.heap.size := by omega
      have hm : m1 ≤ 17592186043904 := by rw [← hpl.1]; exact hsm x (List.mem_of_getElem? hx)
      have HP := Lib.hid hpl
      have hkl : k < l.length := by rw [hr.out.1]; exact hlt
      clear hS hpl
      by_cases hcmp : 0 < k ∧ x'.stamp ≤ x.stamp
      · obtain ⟨hk0, hc⟩ := hcmp
        have HOK := Lib.hid (okAt_of hx hx' rfl rfl)
        clear hx hx'
        go_wp2_with fail
        refine wp_region_later (by kernel_rfl) (by kernel_rfl) ?_
        repeat (go_big_quiet_step (fail))
        refine wpQuiet_nil ?_
        rintro _ ⟨z, rfl⟩
        go_wp2_with fail
        go_ret
        refine ⟨ret_bool (rightL_false hkl ?_).symm, (by repeat (first | (with_reducible exact Below.refl _ _) | (with_reducible assumption) | (with_reducible refine Below.drew ?_) | (with_reducible refine Below.setCell ?_ ?_ _) | (with_reducible refine Below.alloc ?_ ?_ _) | (with_reducible refine Below.later ?_ ?_ _) | (first | (with_reducible exact Nat.le_refl _) | omega | (simp only [World.size_alloc, World.size_setCell, World.size_drew] <;> omega))))⟩
        rw [HOK.out]; simp; omega
      · cases hd : x.dead <;> cases hbr : x.bare <;> by_cases hk0 : 0 < k
        all_goals
          have HOK := Lib.hid (okAt_of hx hx' hd hbr)
          have HB := Lib.hid ((bare_same x).trans hbr)
          rw [hd] at e1
          clear hx hx' hd hbr
          first | (have hc : decide (x'.stamp ≤ x.stamp) = false := by simp; omega) | skip
          go_wp2_with fail
          refine wp_region_later (by kernel_rfl) (by kernel_rfl) ?_
          repeat (go_big_quiet_step ((go_at_call 40; exact Later.call _ (blobSame_any (S2 := fun _ => True) (y := .none_) A1 none m1 c1 0 0 _ hm (Lib.hid ((HP.out.below IntR.stable y.ok).below IntR.stable (Later.ok _))) (Lib.hid RdL.nil) HB) (Nat.le_refl _))))
          refine wpQuiet_nil ?_
          rintro _ ⟨z, rfl⟩
          go_wp2_with fail
        all_goals first
          | (go_ret
             refine ⟨ret_bool (rightL_false hkl ?_).symm, (by repeat (first | (with_reducible exact Below.refl _ _) | (with_reducible assumption) | (with_reducible refine Below.drew ?_) | (with_reducible refine Below.setCell ?_ ?_ _) | (with_reducible refine Below.alloc ?_ ?_ _) | (with_reducible refine Below.later ?_ ?_ _) | (first | (with_reducible exact Nat.le_refl _) | omega | (simp only [World.size_alloc, World.size_setCell, World.size_drew] <;> omega))))⟩
             rw [HOK.out]; first | (simp; done) | (simp; omega))
          | (refine ⟨⟨k + 1, by omega, by go_num, (by repeat (first | (with_reducible exact Below.refl _ _) | (with_reducible assumption) | (with_reducible refine Below.drew ?_) | (with_reducible refine Below.setCell ?_ ?_ _) | (with_reducible refine Below.alloc ?_ ?_ _) | (with_reducible refine Below.later ?_ ?_ _) | (first | (with_reducible exact Nat.le_refl _) | omega | (simp only [World.size_alloc, World.size_setCell, World.size_drew] <;> omega)))), Lib.hid (upto_succ HA.out ?_)⟩, by simp [intOf]; omega⟩
             rw [HOK.out]; first | (simp; done) | (simp; omega))
    · go_wp2_with fail
      go_ret
      refine ⟨ret_bool ?_, (by repeat (first | (with_reducible exact Below.refl _ _) | (with_reducible assumption) | (with_reducible refine Below.drew ?_) | (with_reducible refine Below.setCell ?_ ?_ _) | (with_reducible refine Below.alloc ?_ ?_ _) | (with_reducible refine Below.later ?_ ?_ _) | (first | (with_reducible exact Nat.le_refl _) | omega | (simp only [World.size_alloc, World.size_setCell, World.size_drew] <;> omega))))⟩
      have : n = k := by omega
      subst this
      symm
      simp only [rightL, List.all_eq_true, List.mem_range, hr.out.1]
      exact HA.out

/-! ### seen, At -/
/-- Where the version lies that is seen: -1: nowhere. -/
def seenZ (l : List Ver) (s : Int) : Int := if seenIdx l s < l.length then (seenIdx l s : Int) else -1
end Go.Proofs.Ytpibaahiboajhaa
