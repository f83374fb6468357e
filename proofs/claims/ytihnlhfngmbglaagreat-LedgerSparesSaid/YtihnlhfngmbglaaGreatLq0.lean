/-
  LedgerSpares: for every input the law returns true, and each argument reads as it did. No condition.
-/
import Derived.Test.YtihnlhfngmbglaaGreatLq13
set_option linter.unusedSimpArgs false
set_option linter.unusedVariables false
namespace Go.Proofs.YtihnlhfngmbglaaGreat
open Go.RowKit Go.Cib
attribute [local go_sem] cell_set Later.cell Later.frozen Grw.cell Grw.frozen
section
open Go.ChangeShapes Go.WideShapes Go.ChangeAt Go.Deep

set_option maxRecDepth 100000 in
theorem ledgerSpares_lifted (os : Os) (started : os.Started) (H : Type) (enc : TypeId × Value → H) :
    ReturnsInHanded {} Tryz.checked os 3 .any (Rows.ledgerSparesSpec.pre6 enc Tryz.prog Tryz.f3 Rows.ledgerSparesRow.domain false) (Rows.ledgerSparesSpec.post enc Tryz.prog Tryz.f3 false true false false) := by
  refine returnsInHanded_of_change (C := Tryz.checked) ownKnob_ started (by kernel_rfl) Tryz.func3
    (ChangeSpec.witness6 (enc := enc) (C := Tryz.checked) false ⟨#[], #[.agg #[.int .i64 0, .int .i64 0, .int .i64 0], .slice none 0 0, .slice none 0 0, .slice none 0 0], []⟩ 8 (by kernel_rfl) (by kernel_rfl) (by kernel_rfl) (by kernel_rfl)) ?_
  intro W base args ds gs before hval0 hW _ _
  have hval : ∀ (j : Nat) t v, Tryz.f3.params[j]? = some t → args[j]? = some v → Value.okWide Tryz.prog W .any base t v := hval0
  have hW' := hW
  obtain ⟨p, q, hA0, hV, rfl, hfz, hnd⟩ := hW
  have hA : DataW.TrodAll enc Tryz.prog W 0 (fun _ => true) true Tryz.f3.params.toList args.toList ds p := hA0
  rw [Tryz.params3] at hA hval
  obtain ⟨v0, vs0, d0, ds0, p0, q0, hargs0, rfl, rfl, h0, r0⟩ := trodAll_cons hA
  obtain ⟨v1, vs1, d1, ds1, p1, q1, rfl, rfl, rfl, h1, r1⟩ := trodAll_cons r0
  obtain ⟨v2, vs2, d2, ds2, p2, q2, rfl, rfl, rfl, h2, r2⟩ := trodAll_cons r1
  obtain ⟨v3, vs3, d3, ds3, p3, q3, rfl, rfl, rfl, h3, r3⟩ := trodAll_cons r2
  obtain ⟨rfl, rfl, rfl⟩ := trodAll_nil r3
  obtain rfl : args = #[v0, v1, v2, v3] := by cases args; simp_all
  obtain ⟨rfl, rfl⟩ := trodVars_none hV
  obtain ⟨k0, m0, s0, rfl⟩ := open_geo (hval 0 23 v0 rfl rfl) h0
  obtain ⟨A1, n1, c1, l1, rfl, hnc1, hcm1, hr1⟩ := open_rd sl_pt30 opens_pt30 (hval 1 24 v1 rfl rfl) h1
  obtain ⟨A2, n2, c2, l2, rfl, hnc2, hcm2, hr2⟩ := open_rd sl_ht30 opens_ht30 (hval 2 25 v2 rfl rfl) h2
  obtain ⟨A3, n3, c3, l3, rfl, hnc3, hcm3, hr3⟩ := open_rd Tryz.underlying26 (opens_int Tryz.underlying3 (by kernel_rfl)) (hval 3 26 v3 rfl rfl) h3
  clear hA0 hval0
  refine (spares_any (Lib.hid hr1) (Lib.hid hr2) (Nat.le_trans hnc1 hcm1) (Nat.le_trans hnc2 hcm2) (Lib.hid hr3)).mono fun e W' ⟨he, hb⟩ => ?_
  subst he
  refine ⟨_, rfl, law_post laidOut_ ?_ rfl Tryz.underlying4 rfl ⟨rfl, rfl, rfl⟩ hW' hb⟩
  intro t ht
  rw [Tryz.params3] at ht
  simp only [List.mem_cons, List.not_mem_nil, or_false] at ht
  rcases ht with rfl | rfl | rfl | rfl <;> exact ⟨by kernel_rfl, of_decide_eq_true (by kernel_rfl)⟩

theorem ledgerSpares_laid : laidOutB Tryz.pinned.checked.prog = true := by kernel_rfl
theorem ledgerSpares_rowed : mapsRowed Tryz.pinned.checked.prog = true := by kernel_rfl
theorem ledgerSpares_inPlace : (Rows.ledgerSparesRow.inPlace == Tryz.pinned.checked.prog.inPlace 3) = true := by kernel_rfl
theorem ledgerSpares_unf : (Rows.ledgerSparesRow.unfollowed == Tryz.pinned.checked.prog.unfollowed 3) = true := by kernel_rfl
theorem ledgerSpares_recs : (Rows.ledgerSparesRow.recurses == Tryz.pinned.checked.prog.recurses 3) = true := by kernel_rfl
theorem ledgerSpares_named : (Rows.ledgerSparesRow.named == Tryz.pinned.checked.prog.varsNamed 3) = true := by kernel_rfl
theorem ledgerSpares_plain : (Rows.ledgerSparesRow.plainKeys == Tryz.pinned.checked.prog.plainKeys) = true := by kernel_rfl
theorem ledgerSpares_heard : Tryz.pinned.checked.prog.stopsHeard = true := by kernel_rfl
theorem ledgerSpares_may : Tryz.pinned.checked.prog.mayEnter = true := by kernel_rfl
theorem ledgerSpares_lifts : (Rows.ledgerSparesRow.lifted == Tryz.pinned.checked.prog.liftsFinal) = true := by kernel_rfl
theorem ledgerSpares_make : (Tryz.pinned.checked.prog.make == some Rows.ledgerSparesRow.make) = true := by kernel_rfl
theorem ledgerSpares_facts : joinedFacts Tryz.pinned.checked.prog 3 Tryz.f3 Rows.ledgerSparesSpec Rows.ledgerSparesRow = true := by
  unfold joinedFacts
  rw [ledgerSpares_laid, ledgerSpares_rowed, ledgerSpares_inPlace, ledgerSpares_unf, ledgerSpares_recs, ledgerSpares_named, ledgerSpares_plain, ledgerSpares_heard, ledgerSpares_may, ledgerSpares_lifts, ledgerSpares_make]
  kernel_rfl
theorem ledgerSpares_holds : Rows.LedgerSparesSaid :=
  OpenClaim.holds_of_wide 3 Tryz.f3 rfl rfl rfl rfl rfl rfl rfl ⟨rfl, rfl, rfl, rfl, rfl⟩ rfl rfl rfl rfl rfl (by kernel_rfl) Tryz.func3 ledgerSpares_facts
    (of_decide_eq_true (by kernel_rfl)) (by unfold Func.isWrapper; first | (rw [if_pos (by decide +kernel)]; kernel_rfl) | (rw [if_neg (by decide +kernel)]; exact ⟨rfl, rfl⟩))
    (fun os started H enc _ => ledgerSpares_lifted os started H enc)
end
end Go.Proofs.YtihnlhfngmbglaaGreat
