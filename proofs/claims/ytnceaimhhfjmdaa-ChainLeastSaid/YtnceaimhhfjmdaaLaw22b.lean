/-
  The walks of the laws ChainPrunes and ChainLooks.
-/
import Derived.Test.YtnceaimhhfjmdaaLaw22a
set_option linter.unusedSimpArgs false
set_option linter.unusedVariables false
namespace Go.Proofs.Ytnceaimhhfjmdaa
open Go.RowKit Go.Cib
attribute [local go_sem] cell_set Later.cell Later.frozen Grw.cell Grw.frozen

set_option maxHeartbeats 1000000 in
theorem few_any {S : Nat → Prop} {l : List Ver} (z : Int) (A : Option Addr) (n c : Nat) (w : World) (hn : n ≤ 9223372036854775807) (hr : Hid (RdL VerR 5 S w A n l)) :
    Calls Try.prog 20 #[.int .i64 z, .slice A n c] w fun e w' => ∃ b : Bool, e = .returned (.bool b) ∧ (b = true → n ≤ 60 ∧ Small l) ∧ Below w.heap.size w w' := by
  have HL := Lib.hid hr.out.1
  go_enter Try.func20, Try.ntmps20
  go_wp2_with fail
  go_loopw [5] (fun vi wr => ∃ k : Nat, k ≤ n ∧ k ≤ 100 ∧ vi = .int .i64 k ∧ wr = w ∧ Hid (∀ j, j < k → (l.getD j .none_).blob.places.length ≤ 60)) (fun vi _ => n - (intOf vi).toNat)
  case atStart => exact ⟨0, Nat.zero_le _, by omega, rfl, rfl, Lib.hid fun j hj => absurd hj (by omega)⟩
  case round =>
    obtain ⟨k, hk, hk2, rfl, rfl, hall⟩ := hrel
    by_cases hlt : k < n
    · by_cases h100 : k < 100
      · obtain ⟨b, o, rfl, hS, hb0⟩ := hr.out.addr hlt
        obtain ⟨x, A1, m1, c1, hx, hmc, hpl, e0, e1, e2, e3, e4⟩ := vers_at hr.out hlt
        have HX := Lib.hid hx
        have HP := Lib.hid hpl.1
        clear hx hpl hS
        by_cases hm : 60 < m1
        · go_wp2_with fail
          go_ret
          exact ⟨false, rfl, fun h => by simp at h, Below.refl _ _⟩
        · go_wp2_with fail
          refine ⟨⟨k + 1, by omega, by omega, by go_num, trivial, Lib.hid fun j hj => ?_⟩, by simp [intOf]; omega⟩
          rcases Nat.lt_or_ge j k with h | h
          · exact hall.out j h
          · rw [show j = k by omega, getD_of HX.out, HP.out]; omega
      · have h60 : decide (n ≤ 60) = false := by simp; omega
        go_wp2_with fail
        go_ret
        exact ⟨decide ((n : Int) ≤ 60), by simp, fun h => by simp at h; omega, Below.refl _ _⟩
    · go_wp2_with fail
      go_ret
      refine ⟨decide ((n : Int) ≤ 60), by simp, fun h => ⟨by simp at h; omega, fun v hv => ?_⟩, Below.refl _ _⟩
      obtain ⟨j, hj, rfl⟩ := List.mem_iff_getElem.1 hv
      have := hall.out j (by have := HL.out; omega)
      rw [show l.getD j .none_ = l[j] by simp [hj]] at this
      omega

theorem small_sel {l : List Ver} (h : Small l) (p : Nat → Bool) (i : Nat) : Small (sel p i l) := by
  induction l generalizing i with
  | nil => exact h
  | cons v r ih =>
    have hr : Small r := fun x hx => h x (List.mem_cons_of_mem _ hx)
    simp only [sel]
    split
    · intro x hx
      rcases List.mem_cons.1 hx with rfl | hx
      · exact h _ (by simp)
      · exact ih hr _ x hx
    · exact ih hr _

set_option maxRecDepth 100000 in
set_option maxHeartbeats 1000000 in
theorem chainPrunes_any {S S2 : Nat → Prop} {l : List Ver} {starts : List Int} (A A2 : Option Addr) (n c n2 c2 : Nat) (w : World) (hn : n ≤ 9223372036854775807) (hn2 : n2 ≤ 9223372036854775807) (hr : Hid (RdL VerR 5 S w A n l)) (hr2 : Hid (RdL U64R 1 S2 w A2 n2 starts)) :
    Calls Try.prog 6 #[.slice A n c, .slice A2 n2 c2] w fun e w' => e = .returned (.bool true) ∧ Below w.heap.size w w' := by
  go_enter Try.func6, Try.ntmps6
  go_wp2_with fail
  refine (few_any 0 A n c _ hn hr).mono ?_
  rintro e w1 ⟨b, rfl, hb, h1⟩
  have HB := Lib.hid hb; clear hb
  cases b
  · go_wp2_with (go_at_call 21; refine (chains_any _).mono ?_; rintro e w2 ⟨rfl, h2⟩)
    go_ret
    exact ⟨rfl, h1.trans (h2.mono h1.size)⟩
  · obtain ⟨hn60, hsm⟩ := HB.out rfl
    have HS := Lib.hid hsm; clear hsm
    by_cases h40 : 40 < n2
    · go_wp2_with (go_at_call 21; refine (chains_any _).mono ?_; rintro e w2 ⟨rfl, h2⟩)
      go_ret
      exact ⟨rfl, h1.trans (h2.mono h1.size)⟩
    · obtain ⟨p1, p2⟩ := prune_eq l starts
      have P1 := Lib.hid p1; have P2 := Lib.hid p2; clear p1 p2
      go_wp2_with (go_at_call 32; refine (prune_any A A2 n c n2 c2 _ (by omega) (by omega) (Lib.hid (hr.out.below VerR.stable h1)) HS.out (Lib.hid (hr2.out.below U64R.stable h1))).mono ?_; rintro e w2 ⟨A3, n3, c3, A4, n4, c4, rfl, r3, _, r4, _, h2⟩)
      have h12 := h1.trans (h2.mono h1.size)
      have R3 := Lib.hid r3; have R4 := Lib.hid r4; clear r3 r4
      refine (refPrune_any A A2 n c n2 c2 _ (by omega) (by omega) (Lib.hid (hr.out.below VerR.stable h12)) HS.out (Lib.hid (hr2.out.below U64R.stable h12))).mono ?_
      rintro e w3 ⟨A5, n5, c5, A6, n6, c6, rfl, r5, r6, h3⟩
      have h13 := h12.trans (h3.mono h12.size)
      have R5 := Lib.hid r5; have R6 := Lib.hid r6; clear r5 r6
      go_wp2_with fail
      refine (sameAll_any (v := true) A3 A5 n3 c3 n5 c5 _ (by have := R3.out.1; have h := sel_length (keepP l starts) l 0; have := hr.out.1; omega) (Lib.hid (R3.out.below VerR.stable h3)) (Lib.hid R5.out) (small_sel HS.out _ _) (Lib.hid (sameAll_iff.2 P1.out))).mono ?_
      rintro e w4 ⟨rfl, h4⟩
      go_wp2_with fail
      refine (sameAll_any (v := true) A4 A6 n4 c4 n6 c6 _ (by have := R4.out.1; have h := sel_length (fun i => !keepP l starts i) l 0; have := hr.out.1; omega) (Lib.hid ((R4.out.below VerR.stable h3).below VerR.stable h4)) (Lib.hid (R6.out.below VerR.stable h4)) (small_sel HS.out _ _) (Lib.hid (sameAll_iff.2 P2.out))).mono ?_
      rintro e w5 ⟨rfl, h5⟩
      go_wp2_with fail
      refine (chains_any _).mono ?_
      rintro e w6 ⟨rfl, h6⟩
      go_wp2_with fail
      go_ret
      exact ⟨rfl, h13.trans ((h4.trans ((h5.trans (h6.mono h5.size)).mono h4.size)).mono h13.size)⟩
end Go.Proofs.Ytnceaimhhfjmdaa
