/-
  The document's SameRows and Live.
-/
import Derived.Test.YtpibaahiboajhaaMk2
set_option linter.unusedSimpArgs false
set_option linter.unusedVariables false
namespace Go.Proofs.Ytpibaahiboajhaa
open Go.RowKit Go.Cib
attribute [local go_sem] cell_set Later.cell Later.frozen Grw.cell Grw.frozen

set_option maxRecDepth 100000 in
set_option maxHeartbeats 4000000 in
theorem samerows_any {S1 S2 : Nat → Prop} {w : World} {A1 A2 : Option Addr} {n c1 c2 : Nat} {l : List Ent} (R1 : Hid (RdL EntR 2 S1 w A1 n l)) (R2 : Hid (RdL EntR 2 S2 w A2 n l)) (hn : n ≤ 1000) (hv : Hid (∀ y ∈ l, y.vers.length ≤ 1000 ∧ Small y.vers)) :
    Calls Try.prog 43 #[.slice A1 n c1, .slice A2 n c2] w fun e w' => e = .returned (.bool true) ∧ Below w.heap.size w w' := by
  have hll : l.length = n := R1.out.1
  go_enter Try.func43, Try.ntmps43
  go_wp2_with fail
  go_loopw [5] (fun vi wr => ∃ k : Nat, k ≤ n ∧ vi = .int .i64 k ∧ Hid (Below w.heap.size w wr)) (fun vi _ => n - (intOf vi).toNat)
  case atStart => exact ⟨0, Nat.zero_le _, rfl, Lib.hid (Below.refl _ _)⟩
  case round =>
    obtain ⟨wq, rfl⟩ : ∃ wq, wq = wr := ⟨_, rfl⟩
    obtain ⟨k, hk, rfl, HW⟩ := hrel
    have q0 : (0 : Int) ≤ (k : Int) := Int.natCast_nonneg _
    by_cases hlt : k < n
    · have q1 : (k : Int) < (n : Int) := by omega
      obtain ⟨b, o, rfl, _, _⟩ := R1.out.addr hlt
      obtain ⟨b2, o2, rfl, _, _⟩ := R2.out.addr hlt
      obtain ⟨y, VA, vm, vc, hy, hb, hER, c0, c1⟩ := ent2_at (R1.out.below EntR.stable HW.out) hlt
      obtain ⟨y2, WA, um, uc, hy2, hb2, hER2, d0, d1⟩ := ent2_at (R2.out.below EntR.stable HW.out) hlt
      rw [hy] at hy2
      injection hy2 with hy2
      subst hy2
      obtain ⟨_, _, _, hcs, _, hV⟩ := hER
      injection hcs with _ hcs
      injection hcs with hcs _
      injection hcs with e1 e2 e3
      subst e1; subst e2; subst e3
      obtain ⟨_, _, _, hcs, _, hU⟩ := hER2
      injection hcs with _ hcs
      injection hcs with hcs _
      injection hcs with e1 e2 e3
      subst e1; subst e2; subst e3
      have hyv := hv.out y (List.mem_of_getElem? hy)
      have hvm : vm ≤ 4194304 := by have := hV.1; omega
      have hsame := fun w' (h : Below wq.heap.size wq w') => sameAll_any (v := true) VA WA vm vc um uc w' hvm (Lib.hid (hV.below VerR.stable h)) (Lib.hid (hU.below VerR.stable h)) hyv.2 (Lib.hid (sameAll_iff.2 rfl))
      clear hV hU hy hyv
      go_wp2_with fail
      refine wp_region_later (by kernel_rfl) (by kernel_rfl) ?_
      repeat (go_big_quiet_step ((go_at_call 86; exact Later.call _ (hsame _ (Later.ok _)) (Nat.le_refl _))))
      refine wpQuiet_nil ?_
      rintro _ ⟨z, rfl⟩
      go_wp2_with fail
      exact ⟨⟨k + 1, by omega, by go_num, Lib.hid (HW.out.trans (z.ok.mono HW.out.size))⟩, by simp [intOf]; omega⟩
    · have q1 : ¬ (k : Int) < (n : Int) := by omega
      go_wp2_with fail
      go_ret
      exact ⟨rfl, HW.out⟩
set_option maxRecDepth 100000 in
set_option maxHeartbeats 4000000 in
theorem reflive_any {S : Nat → Prop} {w : World} {A : Option Addr} {q n c : Nat} {last : Int} {l : List Ent} (X : Hid (BoxAt w q #[.slice A n c, .int .u64 last])) (R : Hid (RdL EntR 2 S w A n l)) (hn : n ≤ 1000) (hv : Hid (∀ y ∈ l, y.vers ≠ [])) :
    Calls Try.prog 46 #[.pointer (some ⟨q, 0, none⟩)] w fun e w' => e = .returned (.int .i64 (sumL liveW l)) ∧ Below w.heap.size w w' := by
  have hll : l.length = n := R.out.1
  have x0 := X.out.cell 0
  go_enter Try.func46, Try.ntmps46
  go_wp2_with fail
  go_loopw [3, 4] (fun vc vi wr => ∃ k : Nat, k ≤ n ∧ vi = .int .i64 k ∧ vc = .int .i64 (sumL liveW (l.take k)) ∧ wr = w) (fun _ vi _ => n - (intOf vi).toNat)
  case atStart => exact ⟨0, Nat.zero_le _, rfl, rfl, rfl⟩
  case round =>
    obtain ⟨k, hk, rfl, rfl, hw⟩ := hrel
    replace hw := hw.symm
    subst hw
    have q0 : (0 : Int) ≤ (k : Int) := Int.natCast_nonneg _
    by_cases hlt : k < n
    · have q1 : (k : Int) < (n : Int) := by omega
      obtain ⟨b, o, rfl, _, _⟩ := R.out.addr hlt
      obtain ⟨y, VA, vm, vc, hy, hb, hER, c0, c1⟩ := ent2_at R.out hlt
      obtain ⟨_, _, _, hcs, _, hV⟩ := hER
      injection hcs with _ hcs
      injection hcs with hcs _
      injection hcs with e1 e2 e3
      subst e1; subst e2; subst e3
      have hpos : 0 < vm := by rw [← hV.1]; exact List.length_pos_iff.2 (hv.out y (List.mem_of_getElem? hy))
      have q2 : (0 : Int) < (vm : Int) := by omega
      obtain ⟨b2, o2, rfl, _, hb2⟩ := hV.addr hpos
      obtain ⟨x, _, _, _, hx, _, _, _, d1, _⟩ := vers_at hV hpos
      rw [Nat.zero_mul, Nat.add_zero] at d1
      have hx0 : y.vers.getD 0 .none_ = x := by rw [List.getD_eq_getElem?_getD, hx]; rfl
      have hlw : liveW y = if x.dead then 0 else 1 := by unfold liveW; rw [hx0]
      have hst := sumL_take (worth := liveW) hy
      have hle := sumL_le (worth := liveW) (M := 1) (l.take k) (fun z _ => by unfold liveW; split <;> omega)
      have hlt2 : (l.take k).length ≤ n := by rw [List.length_take]; omega
      obtain ⟨t0, ht0⟩ : ∃ t0, sumL liveW (l.take k) = t0 := ⟨_, rfl⟩
      rw [ht0] at hst hle ⊢
      have hr : 0 ≤ t0 ∧ t0 ≤ 1000 := by omega
      have i0 : IntKind.i64.wrap (t0 + 1) = t0 + 1 := by rw [IntKind.wrap_i64]; omega
      have HS : Hid (sumL liveW (l.take (k + 1)) = t0 + (if x.dead then 0 else 1)) := Lib.hid (by rw [hst, hlw])
      clear hst hle hlw hx hx0 hV hy ht0
      cases hd : x.dead with
      | true =>
        rw [hd] at d1 HS
        go_wp2_with fail
        exact ⟨⟨k + 1, by omega, by go_num, by rw [HS.out]; simp, trivial⟩, by simp [intOf]; omega⟩
      | false =>
        rw [hd] at d1 HS
        go_wp2_with fail
        exact ⟨⟨k + 1, by omega, by go_num, by rw [HS.out]; simp, trivial⟩, by simp [intOf]; omega⟩
    · have q1 : ¬ (k : Int) < (n : Int) := by omega
      have HT : Hid (sumL liveW (l.take k) = sumL liveW l) := Lib.hid (by rw [List.take_of_length_le (by omega)])
      go_wp2_with fail
      go_ret
      rw [HT.out]
      exact ⟨rfl, Below.refl _ _⟩
end Go.Proofs.Ytpibaahiboajhaa
