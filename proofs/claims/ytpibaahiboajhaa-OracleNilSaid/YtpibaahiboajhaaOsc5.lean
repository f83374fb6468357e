/-
  OracleNil, walked.
-/
import Derived.Test.YtpibaahiboajhaaOsc4
set_option linter.unusedSimpArgs false
set_option linter.unusedVariables false
namespace Go.Proofs.Ytpibaahiboajhaa
open Go.RowKit Go.Cib
attribute [local go_sem] cell_set Later.cell Later.frozen Grw.cell Grw.frozen
open Go.Sort Go.Proofs Go.Shelf

set_option maxRecDepth 100000 in
set_option maxHeartbeats 8000000 in
theorem nil23_any (x : Int) (w : World) : Calls Try.prog 6 #[.int .u64 x] w fun e w' => e = .returned (.bool true) ∧ Below w.heap.size w w' := by
  have HB0 : Hid (Below w.heap.size w w) := Lib.hid (Below.refl _ _)
  go_enter Try.func6, Try.ntmps6
  go_wp2_with fail
  go_loopw [3, 4] (fun vo vi wq => ∃ (i : Nat) (p : Option Addr), i ≤ 2 ∧ vi = .int .i64 i ∧ vo = .pointer p ∧ Hid (ONone wq p) ∧ Hid (Below w.heap.size w wq)) (fun _ vi _ => 2 - (intOf vi).toNat)
  case atStart => exact ⟨0, none, by omega, rfl, rfl, Lib.hid (ONone.nil _), HB0⟩
  case round =>
    clear HB0
    obtain ⟨wq, rfl⟩ : ∃ wq, wq = wr := ⟨_, rfl⟩
    obtain ⟨i, p, hi, rfl, rfl, HN, HB⟩ := hrel
    by_cases hil : i < 2
    · have q1 : (i : Int) < 2 := by omega
      have c1 := onext_none HN.out
      have c2 := opub_none HN.out x
      have c3 := obegin_none HN.out
      have c4 := fun s => oend_none HN.out s
      have c5 := olast_none HN.out
      have c6 := omost_none HN.out
      have c7 := ohor_none HN.out
      have c8 := oopen_none HN.out
      have c9 := ostarts_none HN.out
      clear HN
      go_wp2_with (first
        | (go_at_call 21; refine c1.mono ?_; rintro e w9 ⟨rfl, h1⟩; replace h1 := h1.symm; subst h1)
        | (go_at_call 23; refine c2.mono ?_; rintro e w9 ⟨rfl, h1⟩; replace h1 := h1.symm; subst h1)
        | (go_at_call 17; refine c3.mono ?_; rintro e w9 ⟨rfl, h1⟩; replace h1 := h1.symm; subst h1)
        | (go_at_call 19; refine (c4 _).mono ?_; rintro e w9 ⟨rfl, h1⟩; replace h1 := h1.symm; subst h1)
        | (go_at_call 25; refine c5.mono ?_; rintro e w9 ⟨rfl, h1⟩; replace h1 := h1.symm; subst h1)
        | (go_at_call 26; refine c6.mono ?_; rintro e w9 ⟨rfl, h1⟩; replace h1 := h1.symm; subst h1)
        | (go_at_call 31; refine c7.mono ?_; rintro e w9 ⟨rfl, h1⟩; replace h1 := h1.symm; subst h1)
        | (go_at_call 27; refine c8.mono ?_; rintro e w9 ⟨rfl, h1⟩; replace h1 := h1.symm; subst h1)
        | (go_at_call 29; refine c9.mono ?_; rintro e w9 ⟨rfl, h1⟩; replace h1 := h1.symm; subst h1))
      refine ⟨⟨i + 1, some ⟨wq.heap.size, 0, none⟩, by omega, by go_num, rfl, Lib.hid (ONone.empty (by simp) ((BoxAt.new wq #[.int .u64 0, .int .u64 0, .map none, .int .i64 0] 53).cell 2)), Lib.hid (HB.out.alloc HB.out.size _)⟩, by simp [intOf]; omega⟩
    · obtain rfl : i = 2 := by omega
      have st := stamps_any wq
      go_wp2_with fail
      refine st.mono ?_
      rintro e w2 ⟨rfl, t2⟩
      have T2 := Lib.hid (below_then t2 HB.out)
      clear t2 st
      go_wp2_with fail
      go_ret
      exact ⟨rfl, T2.out⟩
end Go.Proofs.Ytpibaahiboajhaa
