/-
  BlobRefuses: for every input the law returns true, and each argument reads as it did. No condition.
-/
import Derived.Test.YtcliejdiaohamaaGreatBr14
set_option linter.unusedSimpArgs false
set_option linter.unusedVariables false
namespace Go.Proofs.YtcliejdiaohamaaGreat
open Go.RowKit Go.Cib
attribute [local go_sem] cell_set Later.cell Later.frozen Grw.cell Grw.frozen
open Go.ChangeShapes Go.WideShapes Go.ChangeAt Go.Deep

set_option maxRecDepth 100000 in
theorem blobRefuses_lifted (os : Os) (started : os.Started) (H : Type) (enc : TypeId × Value → H) :
    ReturnsInHanded {} Tryz.checked os 7 .any (Rows.blobRefusesSpec.pre6 enc Tryz.prog Tryz.f7 Rows.blobRefusesRow.domain false) (Rows.blobRefusesSpec.post enc Tryz.prog Tryz.f7 false true false false) := by
  refine returnsInHanded_of_change (C := Tryz.checked) ownKnob_ started (by kernel_rfl) Tryz.func7
    (ChangeSpec.witness6 (enc := enc) (C := Tryz.checked) false ⟨#[], #[.agg #[.slice none 0 0, .int .u64 0, .int .i64 0], .int .i64 0], []⟩ 8 (by kernel_rfl) (by kernel_rfl) (by kernel_rfl) (by kernel_rfl)) ?_
  intro W base args ds gs before hval0 hW _ _
  have hval : ∀ (j : Nat) t v, Tryz.f7.params[j]? = some t → args[j]? = some v → Value.okWide Tryz.prog W .any base t v := hval0
  have hW' := hW
  obtain ⟨p, q, hA0, hV, rfl, hfz, hnd⟩ := hW
  have hA : DataW.TrodAll enc Tryz.prog W 0 (fun _ => true) true Tryz.f7.params.toList args.toList ds p := hA0
  rw [Tryz.params7] at hA hval
  obtain ⟨v0, vs0, d0, ds0, p0, q0, hargs0, rfl, rfl, h0, r0⟩ := trodAll_cons hA
  obtain ⟨v1, vs1, d1, ds1, p1, q1, rfl, rfl, rfl, h1, r1⟩ := trodAll_cons r0
  obtain ⟨rfl, rfl, rfl⟩ := trodAll_nil r1
  obtain rfl : args = #[v0, v1] := by cases args; simp_all
  obtain ⟨rfl, rfl⟩ := trodVars_none hV
  obtain ⟨A0, n0, c0, l0, g0, s0, rfl, hnc0, hr0, hg0, hgb0⟩ := open_blob (hval 0 61 v0 rfl rfl) h0
  obtain ⟨z1, rfl, _, _, wz1⟩ := open_int Tryz.underlying3 (hval 1 3 v1 rfl rfl) h1
  clear hA0 hval0
  refine (brefuses_any (Lib.hid hr0) hnc0).mono fun e W' ⟨he, hb⟩ => ?_
  subst he
  refine ⟨_, rfl, law_post laidOut_ ?_ rfl Tryz.underlying4 rfl ⟨rfl, rfl, rfl⟩ hW' hb⟩
  intro t ht
  rw [Tryz.params7] at ht
  simp only [List.mem_cons, List.not_mem_nil, or_false] at ht
  rcases ht with rfl | rfl <;> exact ⟨by kernel_rfl, of_decide_eq_true (by kernel_rfl)⟩

theorem blobRefuses_laid : laidOutB Tryz.pinned.checked.prog = true := by kernel_rfl
theorem blobRefuses_rowed : mapsRowed Tryz.pinned.checked.prog = true := by kernel_rfl
theorem blobRefuses_inPlace : (Rows.blobRefusesRow.inPlace == Tryz.pinned.checked.prog.inPlace 7) = true := by kernel_rfl
theorem blobRefuses_unf : (Rows.blobRefusesRow.unfollowed == Tryz.pinned.checked.prog.unfollowed 7) = true := by kernel_rfl
theorem blobRefuses_recs : (Rows.blobRefusesRow.recurses == Tryz.pinned.checked.prog.recurses 7) = true := by kernel_rfl
theorem blobRefuses_named : (Rows.blobRefusesRow.named == Tryz.pinned.checked.prog.varsNamed 7) = true := by kernel_rfl
theorem blobRefuses_plain : (Rows.blobRefusesRow.plainKeys == Tryz.pinned.checked.prog.plainKeys) = true := by kernel_rfl
theorem blobRefuses_heard : Tryz.pinned.checked.prog.stopsHeard = true := by kernel_rfl
theorem blobRefuses_may : Tryz.pinned.checked.prog.mayEnter = true := by kernel_rfl
theorem blobRefuses_lifts : (Rows.blobRefusesRow.lifted == Tryz.pinned.checked.prog.liftsFinal) = true := by kernel_rfl
theorem blobRefuses_make : (Tryz.pinned.checked.prog.make == some Rows.blobRefusesRow.make) = true := by kernel_rfl
theorem blobRefuses_facts : joinedFacts Tryz.pinned.checked.prog 7 Tryz.f7 Rows.blobRefusesSpec Rows.blobRefusesRow = true := by
  unfold joinedFacts
  rw [blobRefuses_laid, blobRefuses_rowed, blobRefuses_inPlace, blobRefuses_unf, blobRefuses_recs, blobRefuses_named, blobRefuses_plain, blobRefuses_heard, blobRefuses_may, blobRefuses_lifts, blobRefuses_make]
  kernel_rfl
theorem blobRefuses_holds : Rows.BlobRefusesSaid :=
  OpenClaim.holds_of_wide 7 Tryz.f7 rfl rfl rfl rfl rfl rfl rfl ⟨rfl, rfl, rfl, rfl, rfl⟩ rfl rfl rfl rfl rfl (by kernel_rfl) Tryz.func7 blobRefuses_facts
    (of_decide_eq_true (by kernel_rfl)) (by unfold Func.isWrapper; first | (rw [if_pos (by decide +kernel)]; kernel_rfl) | (rw [if_neg (by decide +kernel)]; exact ⟨rfl, rfl⟩))
    (fun os started H enc _ => blobRefuses_lifted os started H enc)
end Go.Proofs.YtcliejdiaohamaaGreat
