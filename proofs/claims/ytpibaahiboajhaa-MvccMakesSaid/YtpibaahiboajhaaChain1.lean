/-
  chain.Right: its contract.
-/
import Derived.Test.YtpibaahiboajhaaSame
set_option linter.unusedSimpArgs false
set_option linter.unusedVariables false
namespace Go.Proofs.Ytpibaahiboajhaa
open Go.RowKit Go.Cib
attribute [local go_sem] cell_set Later.cell Later.frozen Grw.cell Grw.frozen

def okAt (l : List Ver) (i : Nat) : Bool :=
  !((l.getD i .none_).dead && !(l.getD i .none_).bare) && !(decide (0 < i) && decide ((l.getD (i - 1) .none_).stamp ≤ (l.getD i .none_).stamp))
def rightL (l : List Ver) : Bool := (List.range l.length).all (okAt l)

theorem getD_of {l : List Ver} {k : Nat} {x : Ver} (h : l[k]? = some x) : l.getD k .none_ = x := by simp [h]
theorem okAt_of {l : List Ver} {k : Nat} {x x' : Ver} (h : l[k]? = some x) (h' : l[k - 1]? = some x') {d b : Bool} (hd : x.dead = d) (hb : x.bare = b) :
    okAt l k = (!(d && !b) && !(decide (0 < k) && decide (x'.stamp ≤ x.stamp))) := by unfold okAt; rw [getD_of h, getD_of h', hd, hb]
theorem rightL_false {l : List Ver} {k : Nat} (hk : k < l.length) (h : okAt l k = false) : rightL l = false := by
  cases hr : rightL l with
  | false => rfl
  | true =>
    simp only [rightL, List.all_eq_true, List.mem_range] at hr
    rw [hr k hk] at h; cases h
set_option maxHeartbeats 2000000 in
theorem right_any {S : Nat → Prop} {l : List Ver} (A : Option Addr) (n c : Nat) (w : World) (hn : n ≤ 4194304) (hr : Hid (RdL VerR 5 S w A n l)) :
    Calls Try.prog 118 #[.slice A n c] w fun e w' => e = .returned (.bool (rightL l)) ∧ Below w.heap.size w w' := by
  go_enter Try.func118, Try.ntmps118
  go_wp2
  go_loopw [3,4,7] (fun x3 x4 i wr => ∃ k : Nat, k ≤ n ∧ i = .int .i64 k ∧ Below w.heap.size w wr ∧ ∀ j, j < k → okAt l j = true) (fun _ _ i _ => n - (intOf i).toNat)
  case atStart => exact ⟨0, Nat.zero_le _, rfl, Below.refl _ _, fun j hj => absurd hj (by omega)⟩
  case round =>
    obtain ⟨k, hk, rfl, hb, hall⟩ := hrel
    obtain ⟨y, rfl⟩ := Later.ex hb
    have HA := Lib.hid hall; clear hall
    have hyb := y.ok.size
    by_cases hlt : k < n
    · obtain ⟨b, o, rfl, hS, hb0⟩ := hr.out.addr hlt
      obtain ⟨x, A1, m1, c1, hx, hmc, hpl, e0, e1, e2, e3, e4⟩ := vers_at hr.out hlt
      obtain ⟨x', A2, m2, c2, hx', _, _, f0, _, _, _, _⟩ := vers_at hr.out (show k - 1 < n by omega)
      have hb1 : b < y.to.heap.size := by omega
      have hb2 : b ≤ y.to.heap.size := by omega
      have hbv : (x.blob.size == 0 && (x.blob.gen == 0 && m1 == 0)) = x.bare := by rw [Ver.bare, hpl.1]
      have hkl : k < l.length := by rw [hr.out.1]; exact hlt
      clear hS hpl
      cases hd : x.dead <;> cases hbr : x.bare <;> by_cases hk0 : 0 < k
      all_goals
        have HOK := Lib.hid (okAt_of hx hx' hd hbr)
        rw [hd] at e1
        rw [hbr] at hbv
        have HB := Lib.hid hbv
        clear hx hx' hd hbr hbv
        go_wp2
        refine wp_region_later (by kernel_rfl) (by kernel_rfl) ?_
        repeat (go_big_quiet_step ((go_at_call 140; exact Later.call _ (bare_is _ _ _ _ _ _ _ _ HB.out) (Nat.le_refl _))))
        refine wpQuiet_nil ?_
        rintro _ ⟨z, rfl⟩
        go_wp2
      all_goals first
        | (go_ret
           refine ⟨ret_bool (rightL_false hkl ?_).symm, (by repeat (first | (with_reducible exact Below.refl _ _) | (with_reducible assumption) | (with_reducible refine Below.drew ?_) | (with_reducible refine Below.setCell ?_ ?_ _) | (with_reducible refine Below.alloc ?_ ?_ _) | (with_reducible refine Below.later ?_ ?_ _) | (first | (with_reducible exact Nat.le_refl _) | omega | (simp only [World.size_alloc, World.size_setCell, World.size_drew] <;> omega))))⟩
           rw [HOK.out]; first | (simp; done) | (simp; omega))
        | (refine ⟨⟨k + 1, by omega, by go_num, (by repeat (first | (with_reducible exact Below.refl _ _) | (with_reducible assumption) | (with_reducible refine Below.drew ?_) | (with_reducible refine Below.setCell ?_ ?_ _) | (with_reducible refine Below.alloc ?_ ?_ _) | (with_reducible refine Below.later ?_ ?_ _) | (first | (with_reducible exact Nat.le_refl _) | omega | (simp only [World.size_alloc, World.size_setCell, World.size_drew] <;> omega)))), upto_succ HA.out ?_⟩, by simp [intOf]; omega⟩
           rw [HOK.out]; first | (simp; done) | (simp; omega))
    · go_wp2
      go_ret
      refine ⟨ret_bool ?_, (by repeat (first | (with_reducible exact Below.refl _ _) | (with_reducible assumption) | (with_reducible refine Below.drew ?_) | (with_reducible refine Below.setCell ?_ ?_ _) | (with_reducible refine Below.alloc ?_ ?_ _) | (with_reducible refine Below.later ?_ ?_ _) | (first | (with_reducible exact Nat.le_refl _) | omega | (simp only [World.size_alloc, World.size_setCell, World.size_drew] <;> omega))))⟩
      have : n = k := by omega
      subst this
      symm
      simp only [rightL, List.all_eq_true, List.mem_range, hr.out.1]
      exact HA.out

end Go.Proofs.Ytpibaahiboajhaa
