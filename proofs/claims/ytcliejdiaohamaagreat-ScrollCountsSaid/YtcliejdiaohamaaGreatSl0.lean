/-
  ScrollCounts: for every input the law returns true, and each argument reads as it did. No condition.
-/
import Derived.Test.YtcliejdiaohamaaGreatSl15
set_option linter.unusedSimpArgs false
set_option linter.unusedVariables false
namespace Go.Proofs.YtcliejdiaohamaaGreat
open Go.RowKit Go.Cib
attribute [local go_sem] cell_set Later.cell Later.frozen Grw.cell Grw.frozen
open Go.ChangeShapes Go.WideShapes Go.ChangeAt Go.Deep

set_option maxRecDepth 100000 in
theorem scrollCounts_lifted (os : Os) (started : os.Started) (H : Type) (enc : TypeId × Value → H) :
    ReturnsInHanded {} Tryz.checked os 8 .any (Rows.scrollCountsSpec.pre6 enc Tryz.prog Tryz.f8 Rows.scrollCountsRow.domain false) (Rows.scrollCountsSpec.post enc Tryz.prog Tryz.f8 false true false false) := by
  refine returnsInHanded_of_change (C := Tryz.checked) ownKnob_ started (by kernel_rfl) Tryz.func8
    (ChangeSpec.witness6 (enc := enc) (C := Tryz.checked) false ⟨#[], #[.int .i64 0, .int .i64 0, .agg #[.int .i64 0, .int .u64 0, .int .i64 0, .int .i64 0]], []⟩ 8 (by kernel_rfl) (by kernel_rfl) (by kernel_rfl) (by kernel_rfl)) ?_
  intro W base args ds gs before hval0 hW _ _
  have hval : ∀ (j : Nat) t v, Tryz.f8.params[j]? = some t → args[j]? = some v → Value.okWide Tryz.prog W .any base t v := hval0
  have hW' := hW
  obtain ⟨p, q, hA0, hV, rfl, hfz, hnd⟩ := hW
  have hA : DataW.TrodAll enc Tryz.prog W 0 (fun _ => true) true Tryz.f8.params.toList args.toList ds p := hA0
  rw [Tryz.params8] at hA hval
  obtain ⟨v0, vs0, d0, ds0, p0, q0, hargs0, rfl, rfl, h0, r0⟩ := trodAll_cons hA
  obtain ⟨v1, vs1, d1, ds1, p1, q1, rfl, rfl, rfl, h1, r1⟩ := trodAll_cons r0
  obtain ⟨v2, vs2, d2, ds2, p2, q2, rfl, rfl, rfl, h2, r2⟩ := trodAll_cons r1
  obtain ⟨rfl, rfl, rfl⟩ := trodAll_nil r2
  obtain rfl : args = #[v0, v1, v2] := by cases args; simp_all
  obtain ⟨rfl, rfl⟩ := trodVars_none hV
  obtain ⟨z0, rfl, _, _, wz0⟩ := open_int Tryz.underlying3 (hval 0 3 v0 rfl rfl) h0
  obtain ⟨z1, rfl, _, _, wz1⟩ := open_int Tryz.underlying3 (hval 1 3 v1 rfl rfl) h1
  obtain ⟨k2, m2, f2, c2, rfl⟩ := open_scroll (hval 2 24 v2 rfl rfl) h2
  clear hA0 hval0
  refine (scounts_any).mono fun e W' ⟨he, hb⟩ => ?_
  subst he
  refine ⟨_, rfl, law_post laidOut_ ?_ rfl Tryz.underlying4 rfl ⟨rfl, rfl, rfl⟩ hW' hb⟩
  intro t ht
  rw [Tryz.params8] at ht
  simp only [List.mem_cons, List.not_mem_nil, or_false] at ht
  rcases ht with rfl | rfl | rfl <;> exact ⟨by kernel_rfl, of_decide_eq_true (by kernel_rfl)⟩

theorem scrollCounts_laid : laidOutB Tryz.pinned.checked.prog = true := by kernel_rfl
theorem scrollCounts_rowed : mapsRowed Tryz.pinned.checked.prog = true := by kernel_rfl
theorem scrollCounts_inPlace : (Rows.scrollCountsRow.inPlace == Tryz.pinned.checked.prog.inPlace 8) = true := by kernel_rfl
theorem scrollCounts_unf : (Rows.scrollCountsRow.unfollowed == Tryz.pinned.checked.prog.unfollowed 8) = true := by kernel_rfl
theorem scrollCounts_recs : (Rows.scrollCountsRow.recurses == Tryz.pinned.checked.prog.recurses 8) = true := by kernel_rfl
theorem scrollCounts_named : (Rows.scrollCountsRow.named == Tryz.pinned.checked.prog.varsNamed 8) = true := by kernel_rfl
theorem scrollCounts_plain : (Rows.scrollCountsRow.plainKeys == Tryz.pinned.checked.prog.plainKeys) = true := by kernel_rfl
theorem scrollCounts_heard : Tryz.pinned.checked.prog.stopsHeard = true := by kernel_rfl
theorem scrollCounts_may : Tryz.pinned.checked.prog.mayEnter = true := by kernel_rfl
theorem scrollCounts_lifts : (Rows.scrollCountsRow.lifted == Tryz.pinned.checked.prog.liftsFinal) = true := by kernel_rfl
theorem scrollCounts_make : (Tryz.pinned.checked.prog.make == some Rows.scrollCountsRow.make) = true := by kernel_rfl
theorem scrollCounts_facts : joinedFacts Tryz.pinned.checked.prog 8 Tryz.f8 Rows.scrollCountsSpec Rows.scrollCountsRow = true := by
  unfold joinedFacts
  rw [scrollCounts_laid, scrollCounts_rowed, scrollCounts_inPlace, scrollCounts_unf, scrollCounts_recs, scrollCounts_named, scrollCounts_plain, scrollCounts_heard, scrollCounts_may, scrollCounts_lifts, scrollCounts_make]
  kernel_rfl
theorem scrollCounts_holds : Rows.ScrollCountsSaid :=
  OpenClaim.holds_of_wide 8 Tryz.f8 rfl rfl rfl rfl rfl rfl rfl ⟨rfl, rfl, rfl, rfl, rfl⟩ rfl rfl rfl rfl rfl (by kernel_rfl) Tryz.func8 scrollCounts_facts
    (of_decide_eq_true (by kernel_rfl)) (by unfold Func.isWrapper; first | (rw [if_pos (by decide +kernel)]; kernel_rfl) | (rw [if_neg (by decide +kernel)]; exact ⟨rfl, rfl⟩))
    (fun os started H enc _ => scrollCounts_lifted os started H enc)
end Go.Proofs.YtcliejdiaohamaaGreat
