/-
  ScrubAll: for every input the law returns true, and each argument reads as it did. No condition.
-/
import Derived.Test.YtihnlhfngmbglaaGreatAl13
set_option linter.unusedSimpArgs false
set_option linter.unusedVariables false
namespace Go.Proofs.YtihnlhfngmbglaaGreat
open Go.RowKit Go.Cib
attribute [local go_sem] cell_set Later.cell Later.frozen Grw.cell Grw.frozen
section
open Go.ChangeShapes Go.WideShapes Go.ChangeAt Go.Deep

set_option maxRecDepth 100000 in
theorem scrubAll_lifted (os : Os) (started : os.Started) (H : Type) (enc : TypeId × Value → H) :
    ReturnsInHanded {} Tryz.checked os 10 .any (Rows.scrubAllSpec.pre6 enc Tryz.prog Tryz.f10 Rows.scrubAllRow.domain false) (Rows.scrubAllSpec.post enc Tryz.prog Tryz.f10 false true false false) := by
  refine returnsInHanded_of_change (C := Tryz.checked) ownKnob_ started (by kernel_rfl) Tryz.func10
    (ChangeSpec.witness6 (enc := enc) (C := Tryz.checked) false ⟨#[], #[.agg #[.int .i64 0, .int .i64 0, .int .i64 0], .slice none 0 0, .slice none 0 0, .slice none 0 0, .slice none 0 0], []⟩ 8 (by kernel_rfl) (by kernel_rfl) (by kernel_rfl) (by kernel_rfl)) ?_
  intro W base args ds gs before hval0 hW _ _
  have hval : ∀ (j : Nat) t v, Tryz.f10.params[j]? = some t → args[j]? = some v → Value.okWide Tryz.prog W .any base t v := hval0
  have hW' := hW
  obtain ⟨p, q, hA0, hV, rfl, hfz, hnd⟩ := hW
  have hA : DataW.TrodAll enc Tryz.prog W 0 (fun _ => true) true Tryz.f10.params.toList args.toList ds p := hA0
  rw [Tryz.params10] at hA hval
  obtain ⟨v0, vs0, d0, ds0, p0, q0, hargs0, rfl, rfl, h0, r0⟩ := trodAll_cons hA
  obtain ⟨v1, vs1, d1, ds1, p1, q1, rfl, rfl, rfl, h1, r1⟩ := trodAll_cons r0
  obtain ⟨v2, vs2, d2, ds2, p2, q2, rfl, rfl, rfl, h2, r2⟩ := trodAll_cons r1
  obtain ⟨v3, vs3, d3, ds3, p3, q3, rfl, rfl, rfl, h3, r3⟩ := trodAll_cons r2
  obtain ⟨v4, vs4, d4, ds4, p4, q4, rfl, rfl, rfl, h4, r4⟩ := trodAll_cons r3
  obtain ⟨rfl, rfl, rfl⟩ := trodAll_nil r4
  obtain rfl : args = #[v0, v1, v2, v3, v4] := by cases args; simp_all
  obtain ⟨rfl, rfl⟩ := trodVars_none hV
  obtain ⟨k0, m0, s0, rfl⟩ := open_geo (hval 0 23 v0 rfl rfl) h0
  obtain ⟨A1, n1, c1, l1, rfl, hnc1, hcm1, hr1⟩ := open_rd sl_pt31 opens_pt31 (hval 1 58 v1 rfl rfl) h1
  obtain ⟨A2, n2, c2, l2, rfl, hnc2, hcm2, hr2⟩ := open_rd Tryz.underlying26 (opens_int Tryz.underlying3 (by kernel_rfl)) (hval 2 26 v2 rfl rfl) h2
  obtain ⟨A3, n3, c3, l3, rfl, hnc3, hcm3, hr3⟩ := open_rd Tryz.underlying26 (opens_int Tryz.underlying3 (by kernel_rfl)) (hval 3 26 v3 rfl rfl) h3
  obtain ⟨A4, n4, c4, l4, rfl, hnc4, hcm4, hr4⟩ := open_rd Tryz.underlying26 (opens_int Tryz.underlying3 (by kernel_rfl)) (hval 4 26 v4 rfl rfl) h4
  clear hA0 hval0
  refine (all31_any (Lib.hid hr1) hnc1 (Lib.hid hr2) (Lib.hid hr3) (Lib.hid hr4)).mono fun e W' ⟨he, hb⟩ => ?_
  subst he
  refine ⟨_, rfl, law_post laidOut_ ?_ rfl Tryz.underlying4 rfl ⟨rfl, rfl, rfl⟩ hW' hb⟩
  intro t ht
  rw [Tryz.params10] at ht
  simp only [List.mem_cons, List.not_mem_nil, or_false] at ht
  rcases ht with rfl | rfl | rfl | rfl | rfl <;> exact ⟨by kernel_rfl, of_decide_eq_true (by kernel_rfl)⟩

theorem scrubAll_laid : laidOutB Tryz.pinned.checked.prog = true := by kernel_rfl
theorem scrubAll_rowed : mapsRowed Tryz.pinned.checked.prog = true := by kernel_rfl
theorem scrubAll_inPlace : (Rows.scrubAllRow.inPlace == Tryz.pinned.checked.prog.inPlace 10) = true := by kernel_rfl
theorem scrubAll_unf : (Rows.scrubAllRow.unfollowed == Tryz.pinned.checked.prog.unfollowed 10) = true := by kernel_rfl
theorem scrubAll_recs : (Rows.scrubAllRow.recurses == Tryz.pinned.checked.prog.recurses 10) = true := by kernel_rfl
theorem scrubAll_named : (Rows.scrubAllRow.named == Tryz.pinned.checked.prog.varsNamed 10) = true := by kernel_rfl
theorem scrubAll_plain : (Rows.scrubAllRow.plainKeys == Tryz.pinned.checked.prog.plainKeys) = true := by kernel_rfl
theorem scrubAll_heard : Tryz.pinned.checked.prog.stopsHeard = true := by kernel_rfl
theorem scrubAll_may : Tryz.pinned.checked.prog.mayEnter = true := by kernel_rfl
theorem scrubAll_lifts : (Rows.scrubAllRow.lifted == Tryz.pinned.checked.prog.liftsFinal) = true := by kernel_rfl
theorem scrubAll_make : (Tryz.pinned.checked.prog.make == some Rows.scrubAllRow.make) = true := by kernel_rfl
theorem scrubAll_facts : joinedFacts Tryz.pinned.checked.prog 10 Tryz.f10 Rows.scrubAllSpec Rows.scrubAllRow = true := by
  unfold joinedFacts
  rw [scrubAll_laid, scrubAll_rowed, scrubAll_inPlace, scrubAll_unf, scrubAll_recs, scrubAll_named, scrubAll_plain, scrubAll_heard, scrubAll_may, scrubAll_lifts, scrubAll_make]
  kernel_rfl
theorem scrubAll_holds : Rows.ScrubAllSaid :=
  OpenClaim.holds_of_wide 10 Tryz.f10 rfl rfl rfl rfl rfl rfl rfl ⟨rfl, rfl, rfl, rfl, rfl⟩ rfl rfl rfl rfl rfl (by kernel_rfl) Tryz.func10 scrubAll_facts
    (of_decide_eq_true (by kernel_rfl)) (by unfold Func.isWrapper; first | (rw [if_pos (by decide +kernel)]; kernel_rfl) | (rw [if_neg (by decide +kernel)]; exact ⟨rfl, rfl⟩))
    (fun os started H enc _ => scrubAll_lifted os started H enc)
end
end Go.Proofs.YtihnlhfngmbglaaGreat
