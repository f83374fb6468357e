/-
  ScrubLost: for every input the law returns true, and each argument reads as it did. No condition.
-/
import Derived.Test.YtihnlhfngmbglaaGreatLt15
set_option linter.unusedSimpArgs false
set_option linter.unusedVariables false
namespace Go.Proofs.YtihnlhfngmbglaaGreat
open Go.RowKit Go.Cib
attribute [local go_sem] cell_set Later.cell Later.frozen Grw.cell Grw.frozen
section
open Go.ChangeShapes Go.WideShapes Go.ChangeAt Go.Deep

set_option maxRecDepth 100000 in
theorem scrubLost_lifted (os : Os) (started : os.Started) (H : Type) (enc : TypeId × Value → H) :
    ReturnsInHanded {} Tryz.checked os 9 .any (Rows.scrubLostSpec.pre6 enc Tryz.prog Tryz.f9 Rows.scrubLostRow.domain false) (Rows.scrubLostSpec.post enc Tryz.prog Tryz.f9 false true false false) := by
  refine returnsInHanded_of_change (C := Tryz.checked) ownKnob_ started (by kernel_rfl) Tryz.func9
    (ChangeSpec.witness6 (enc := enc) (C := Tryz.checked) false ⟨#[], #[.agg #[.int .i64 0, .int .i64 0, .int .i64 0], .slice none 0 0, .int .i64 0], []⟩ 8 (by kernel_rfl) (by kernel_rfl) (by kernel_rfl) (by kernel_rfl)) ?_
  intro W base args ds gs before hval0 hW _ _
  have hval : ∀ (j : Nat) t v, Tryz.f9.params[j]? = some t → args[j]? = some v → Value.okWide Tryz.prog W .any base t v := hval0
  have hW' := hW
  obtain ⟨p, q, hA0, hV, rfl, hfz, hnd⟩ := hW
  have hA : DataW.TrodAll enc Tryz.prog W 0 (fun _ => true) true Tryz.f9.params.toList args.toList ds p := hA0
  rw [Tryz.params9] at hA hval
  obtain ⟨v0, vs0, d0, ds0, p0, q0, hargs0, rfl, rfl, h0, r0⟩ := trodAll_cons hA
  obtain ⟨v1, vs1, d1, ds1, p1, q1, rfl, rfl, rfl, h1, r1⟩ := trodAll_cons r0
  obtain ⟨v2, vs2, d2, ds2, p2, q2, rfl, rfl, rfl, h2, r2⟩ := trodAll_cons r1
  obtain ⟨rfl, rfl, rfl⟩ := trodAll_nil r2
  obtain rfl : args = #[v0, v1, v2] := by cases args; simp_all
  obtain ⟨rfl, rfl⟩ := trodVars_none hV
  obtain ⟨k0, m0, s0, rfl⟩ := open_geo (hval 0 23 v0 rfl rfl) h0
  obtain ⟨A1, n1, c1, l1, rfl, hnc1, hcm1, hr1⟩ := open_rd sl_pt31 opens_pt31 (hval 1 58 v1 rfl rfl) h1
  obtain ⟨z2, rfl, _, _, wz2⟩ := open_int Tryz.underlying3 (hval 2 3 v2 rfl rfl) h2
  clear hA0 hval0
  refine (lost_any (Lib.hid hr1) hnc1).mono fun e W' ⟨he, hb⟩ => ?_
  subst he
  refine ⟨_, rfl, law_post laidOut_ ?_ rfl Tryz.underlying4 rfl ⟨rfl, rfl, rfl⟩ hW' hb⟩
  intro t ht
  rw [Tryz.params9] at ht
  simp only [List.mem_cons, List.not_mem_nil, or_false] at ht
  rcases ht with rfl | rfl | rfl <;> exact ⟨by kernel_rfl, of_decide_eq_true (by kernel_rfl)⟩

theorem scrubLost_laid : laidOutB Tryz.pinned.checked.prog = true := by kernel_rfl
theorem scrubLost_rowed : mapsRowed Tryz.pinned.checked.prog = true := by kernel_rfl
theorem scrubLost_inPlace : (Rows.scrubLostRow.inPlace == Tryz.pinned.checked.prog.inPlace 9) = true := by kernel_rfl
theorem scrubLost_unf : (Rows.scrubLostRow.unfollowed == Tryz.pinned.checked.prog.unfollowed 9) = true := by kernel_rfl
theorem scrubLost_recs : (Rows.scrubLostRow.recurses == Tryz.pinned.checked.prog.recurses 9) = true := by kernel_rfl
theorem scrubLost_named : (Rows.scrubLostRow.named == Tryz.pinned.checked.prog.varsNamed 9) = true := by kernel_rfl
theorem scrubLost_plain : (Rows.scrubLostRow.plainKeys == Tryz.pinned.checked.prog.plainKeys) = true := by kernel_rfl
theorem scrubLost_heard : Tryz.pinned.checked.prog.stopsHeard = true := by kernel_rfl
theorem scrubLost_may : Tryz.pinned.checked.prog.mayEnter = true := by kernel_rfl
theorem scrubLost_lifts : (Rows.scrubLostRow.lifted == Tryz.pinned.checked.prog.liftsFinal) = true := by kernel_rfl
theorem scrubLost_make : (Tryz.pinned.checked.prog.make == some Rows.scrubLostRow.make) = true := by kernel_rfl
theorem scrubLost_facts : joinedFacts Tryz.pinned.checked.prog 9 Tryz.f9 Rows.scrubLostSpec Rows.scrubLostRow = true := by
  unfold joinedFacts
  rw [scrubLost_laid, scrubLost_rowed, scrubLost_inPlace, scrubLost_unf, scrubLost_recs, scrubLost_named, scrubLost_plain, scrubLost_heard, scrubLost_may, scrubLost_lifts, scrubLost_make]
  kernel_rfl
theorem scrubLost_holds : Rows.ScrubLostSaid :=
  OpenClaim.holds_of_wide 9 Tryz.f9 rfl rfl rfl rfl rfl rfl rfl ⟨rfl, rfl, rfl, rfl, rfl⟩ rfl rfl rfl rfl rfl (by kernel_rfl) Tryz.func9 scrubLost_facts
    (of_decide_eq_true (by kernel_rfl)) (by unfold Func.isWrapper; first | (rw [if_pos (by decide +kernel)]; kernel_rfl) | (rw [if_neg (by decide +kernel)]; exact ⟨rfl, rfl⟩))
    (fun os started H enc _ => scrubLost_lifted os started H enc)
end
end Go.Proofs.YtihnlhfngmbglaaGreat
