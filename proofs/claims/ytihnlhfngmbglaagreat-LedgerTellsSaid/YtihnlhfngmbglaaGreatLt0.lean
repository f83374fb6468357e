/-
  LedgerTells: for every input the law returns true, and each argument reads as it did. No condition.
-/
import Derived.Test.YtihnlhfngmbglaaGreatLt14
set_option linter.unusedSimpArgs false
set_option linter.unusedVariables false
namespace Go.Proofs.YtihnlhfngmbglaaGreat
open Go.RowKit Go.Cib
attribute [local go_sem] cell_set Later.cell Later.frozen Grw.cell Grw.frozen
section
open Go.ChangeShapes Go.WideShapes Go.ChangeAt Go.Deep

set_option maxRecDepth 100000 in
theorem ledgerTells_lifted (os : Os) (started : os.Started) (H : Type) (enc : TypeId × Value → H) :
    ReturnsInHanded {} Tryz.checked os 4 .any (Rows.ledgerTellsSpec.pre6 enc Tryz.prog Tryz.f4 Rows.ledgerTellsRow.domain false) (Rows.ledgerTellsSpec.post enc Tryz.prog Tryz.f4 false true false false) := by
  refine returnsInHanded_of_change (C := Tryz.checked) ownKnob_ started (by kernel_rfl) Tryz.func4
    (ChangeSpec.witness6 (enc := enc) (C := Tryz.checked) false ⟨#[], #[.agg #[.int .i64 0, .int .i64 0, .int .i64 0], .slice none 0 0, .slice none 0 0, .agg #[.int .u8 0, .int .i64 0, .int .u64 0]], []⟩ 8 (by kernel_rfl) (by kernel_rfl) (by kernel_rfl) (by kernel_rfl)) ?_
  intro W base args ds gs before hval0 hW _ _
  have hval : ∀ (j : Nat) t v, Tryz.f4.params[j]? = some t → args[j]? = some v → Value.okWide Tryz.prog W .any base t v := hval0
  have hW' := hW
  obtain ⟨p, q, hA0, hV, rfl, hfz, hnd⟩ := hW
  have hA : DataW.TrodAll enc Tryz.prog W 0 (fun _ => true) true Tryz.f4.params.toList args.toList ds p := hA0
  rw [Tryz.params4] at hA hval
  obtain ⟨v0, vs0, d0, ds0, p0, q0, hargs0, rfl, rfl, h0, r0⟩ := trodAll_cons hA
  obtain ⟨v1, vs1, d1, ds1, p1, q1, rfl, rfl, rfl, h1, r1⟩ := trodAll_cons r0
  obtain ⟨v2, vs2, d2, ds2, p2, q2, rfl, rfl, rfl, h2, r2⟩ := trodAll_cons r1
  obtain ⟨v3, vs3, d3, ds3, p3, q3, rfl, rfl, rfl, h3, r3⟩ := trodAll_cons r2
  obtain ⟨rfl, rfl, rfl⟩ := trodAll_nil r3
  obtain rfl : args = #[v0, v1, v2, v3] := by cases args; simp_all
  obtain ⟨rfl, rfl⟩ := trodVars_none hV
  obtain ⟨k0, m0, s0, rfl⟩ := open_geo (hval 0 23 v0 rfl rfl) h0
  obtain ⟨A1, n1, c1, l1, rfl, hnc1, hcm1, hr1⟩ := open_rd sl_pt30 opens_pt30 (hval 1 24 v1 rfl rfl) h1
  obtain ⟨A2, n2, c2, l2, rfl, hnc2, hcm2, hr2⟩ := open_rd sl_ht30 opens_ht30 (hval 2 25 v2 rfl rfl) h2
  obtain ⟨a3, g3, z3, rfl, ha3, hg3⟩ := open_nm (hval 3 38 v3 rfl rfl) h3
  clear hA0 hval0
  refine (tells_any (Lib.hid hr1) (Lib.hid hr2) (Nat.le_trans hnc1 hcm1) (Nat.le_trans hnc2 hcm2)).mono fun e W' ⟨he, hb⟩ => ?_
  subst he
  refine ⟨_, rfl, law_post laidOut_ ?_ rfl Tryz.underlying4 rfl ⟨rfl, rfl, rfl⟩ hW' hb⟩
  intro t ht
  rw [Tryz.params4] at ht
  simp only [List.mem_cons, List.not_mem_nil, or_false] at ht
  rcases ht with rfl | rfl | rfl | rfl <;> exact ⟨by kernel_rfl, of_decide_eq_true (by kernel_rfl)⟩

theorem ledgerTells_laid : laidOutB Tryz.pinned.checked.prog = true := by kernel_rfl
theorem ledgerTells_rowed : mapsRowed Tryz.pinned.checked.prog = true := by kernel_rfl
theorem ledgerTells_inPlace : (Rows.ledgerTellsRow.inPlace == Tryz.pinned.checked.prog.inPlace 4) = true := by kernel_rfl
theorem ledgerTells_unf : (Rows.ledgerTellsRow.unfollowed == Tryz.pinned.checked.prog.unfollowed 4) = true := by kernel_rfl
theorem ledgerTells_recs : (Rows.ledgerTellsRow.recurses == Tryz.pinned.checked.prog.recurses 4) = true := by kernel_rfl
theorem ledgerTells_named : (Rows.ledgerTellsRow.named == Tryz.pinned.checked.prog.varsNamed 4) = true := by kernel_rfl
theorem ledgerTells_plain : (Rows.ledgerTellsRow.plainKeys == Tryz.pinned.checked.prog.plainKeys) = true := by kernel_rfl
theorem ledgerTells_heard : Tryz.pinned.checked.prog.stopsHeard = true := by kernel_rfl
theorem ledgerTells_may : Tryz.pinned.checked.prog.mayEnter = true := by kernel_rfl
theorem ledgerTells_lifts : (Rows.ledgerTellsRow.lifted == Tryz.pinned.checked.prog.liftsFinal) = true := by kernel_rfl
theorem ledgerTells_make : (Tryz.pinned.checked.prog.make == some Rows.ledgerTellsRow.make) = true := by kernel_rfl
theorem ledgerTells_facts : joinedFacts Tryz.pinned.checked.prog 4 Tryz.f4 Rows.ledgerTellsSpec Rows.ledgerTellsRow = true := by
  unfold joinedFacts
  rw [ledgerTells_laid, ledgerTells_rowed, ledgerTells_inPlace, ledgerTells_unf, ledgerTells_recs, ledgerTells_named, ledgerTells_plain, ledgerTells_heard, ledgerTells_may, ledgerTells_lifts, ledgerTells_make]
  kernel_rfl
theorem ledgerTells_holds : Rows.LedgerTellsSaid :=
  OpenClaim.holds_of_wide 4 Tryz.f4 rfl rfl rfl rfl rfl rfl rfl ⟨rfl, rfl, rfl, rfl, rfl⟩ rfl rfl rfl rfl rfl (by kernel_rfl) Tryz.func4 ledgerTells_facts
    (of_decide_eq_true (by kernel_rfl)) (by unfold Func.isWrapper; first | (rw [if_pos (by decide +kernel)]; kernel_rfl) | (rw [if_neg (by decide +kernel)]; exact ⟨rfl, rfl⟩))
    (fun os started H enc _ => ledgerTells_lifted os started H enc)
end
end Go.Proofs.YtihnlhfngmbglaaGreat
