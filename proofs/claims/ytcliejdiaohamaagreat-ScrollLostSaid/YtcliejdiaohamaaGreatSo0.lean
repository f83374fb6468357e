/-
  ScrollLost: for every input the law returns true, and each argument reads as it did. No condition.
-/
import Derived.Test.YtcliejdiaohamaaGreatSo16
set_option linter.unusedSimpArgs false
set_option linter.unusedVariables false
namespace Go.Proofs.YtcliejdiaohamaaGreat
open Go.RowKit Go.Cib
attribute [local go_sem] cell_set Later.cell Later.frozen Grw.cell Grw.frozen
open Go.ChangeShapes Go.WideShapes Go.ChangeAt Go.Deep

set_option maxRecDepth 100000 in
theorem scrollLost_lifted (os : Os) (started : os.Started) (H : Type) (enc : TypeId × Value → H) :
    ReturnsInHanded {} Tryz.checked os 12 .any (Rows.scrollLostSpec.pre6 enc Tryz.prog Tryz.f12 Rows.scrollLostRow.domain false) (Rows.scrollLostSpec.post enc Tryz.prog Tryz.f12 false true false false) := by
  refine returnsInHanded_of_change (C := Tryz.checked) ownKnob_ started (by kernel_rfl) Tryz.func12
    (ChangeSpec.witness6 (enc := enc) (C := Tryz.checked) false ⟨#[], #[.agg #[.int .i64 0, .int .i64 0, .int .i64 0, .int .i64 0], .slice none 0 0, .int .i64 0], []⟩ 8 (by kernel_rfl) (by kernel_rfl) (by kernel_rfl) (by kernel_rfl)) ?_
  intro W base args ds gs before hval0 hW _ _
  have hval : ∀ (j : Nat) t v, Tryz.f12.params[j]? = some t → args[j]? = some v → Value.okWide Tryz.prog W .any base t v := hval0
  have hW' := hW
  obtain ⟨p, q, hA0, hV, rfl, hfz, hnd⟩ := hW
  have hA : DataW.TrodAll enc Tryz.prog W 0 (fun _ => true) true Tryz.f12.params.toList args.toList ds p := hA0
  rw [Tryz.params12] at hA hval
  obtain ⟨v0, vs0, d0, ds0, p0, q0, hargs0, rfl, rfl, h0, r0⟩ := trodAll_cons hA
  obtain ⟨v1, vs1, d1, ds1, p1, q1, rfl, rfl, rfl, h1, r1⟩ := trodAll_cons r0
  obtain ⟨v2, vs2, d2, ds2, p2, q2, rfl, rfl, rfl, h2, r2⟩ := trodAll_cons r1
  obtain ⟨rfl, rfl, rfl⟩ := trodAll_nil r2
  obtain rfl : args = #[v0, v1, v2] := by cases args; simp_all
  obtain ⟨rfl, rfl⟩ := trodVars_none hV
  obtain ⟨k0, m0, f0, c0, rfl⟩ := open_base (hval 0 76 v0 rfl rfl) h0
  obtain ⟨A1, n1, c1, l1, rfl, hnc1, hcm1, hr1⟩ := open_rd sl_by.und opens_by (hval 1 80 v1 rfl rfl) h1
  obtain ⟨z2, rfl, _, _, wz2⟩ := open_int Tryz.underlying3 (hval 2 3 v2 rfl rfl) h2
  clear hA0 hval0
  refine (sclost_any (Lib.hid hr1) hnc1).mono fun e W' ⟨he, hb⟩ => ?_
  subst he
  refine ⟨_, rfl, law_post laidOut_ ?_ rfl Tryz.underlying4 rfl ⟨rfl, rfl, rfl⟩ hW' hb⟩
  intro t ht
  rw [Tryz.params12] at ht
  simp only [List.mem_cons, List.not_mem_nil, or_false] at ht
  rcases ht with rfl | rfl | rfl <;> exact ⟨by kernel_rfl, of_decide_eq_true (by kernel_rfl)⟩

theorem scrollLost_laid : laidOutB Tryz.pinned.checked.prog = true := by kernel_rfl
theorem scrollLost_rowed : mapsRowed Tryz.pinned.checked.prog = true := by kernel_rfl
theorem scrollLost_inPlace : (Rows.scrollLostRow.inPlace == Tryz.pinned.checked.prog.inPlace 12) = true := by kernel_rfl
theorem scrollLost_unf : (Rows.scrollLostRow.unfollowed == Tryz.pinned.checked.prog.unfollowed 12) = true := by kernel_rfl
theorem scrollLost_recs : (Rows.scrollLostRow.recurses == Tryz.pinned.checked.prog.recurses 12) = true := by kernel_rfl
theorem scrollLost_named : (Rows.scrollLostRow.named == Tryz.pinned.checked.prog.varsNamed 12) = true := by kernel_rfl
theorem scrollLost_plain : (Rows.scrollLostRow.plainKeys == Tryz.pinned.checked.prog.plainKeys) = true := by kernel_rfl
theorem scrollLost_heard : Tryz.pinned.checked.prog.stopsHeard = true := by kernel_rfl
theorem scrollLost_may : Tryz.pinned.checked.prog.mayEnter = true := by kernel_rfl
theorem scrollLost_lifts : (Rows.scrollLostRow.lifted == Tryz.pinned.checked.prog.liftsFinal) = true := by kernel_rfl
theorem scrollLost_make : (Tryz.pinned.checked.prog.make == some Rows.scrollLostRow.make) = true := by kernel_rfl
theorem scrollLost_facts : joinedFacts Tryz.pinned.checked.prog 12 Tryz.f12 Rows.scrollLostSpec Rows.scrollLostRow = true := by
  unfold joinedFacts
  rw [scrollLost_laid, scrollLost_rowed, scrollLost_inPlace, scrollLost_unf, scrollLost_recs, scrollLost_named, scrollLost_plain, scrollLost_heard, scrollLost_may, scrollLost_lifts, scrollLost_make]
  kernel_rfl
theorem scrollLost_holds : Rows.ScrollLostSaid :=
  OpenClaim.holds_of_wide 12 Tryz.f12 rfl rfl rfl rfl rfl rfl rfl ⟨rfl, rfl, rfl, rfl, rfl⟩ rfl rfl rfl rfl rfl (by kernel_rfl) Tryz.func12 scrollLost_facts
    (of_decide_eq_true (by kernel_rfl)) (by unfold Func.isWrapper; first | (rw [if_pos (by decide +kernel)]; kernel_rfl) | (rw [if_neg (by decide +kernel)]; exact ⟨rfl, rfl⟩))
    (fun os started H enc _ => scrollLost_lifted os started H enc)
end Go.Proofs.YtcliejdiaohamaaGreat
