/-
  slices.Clone at a tree's rows.
-/
import Derived.Test.YtpibaahiboajhaaTre2
import Derived.Lib.SliceRun
set_option linter.unusedSimpArgs false
set_option linter.unusedVariables false
namespace Go.Proofs.Ytpibaahiboajhaa
open Go.RowKit Go.Cib
attribute [local go_sem] cell_set Later.cell Later.frozen Grw.cell Grw.frozen

theorem eq_slE (w : World) (p : Option Addr) (n c : Nat) : (binOp .eql 178 (.slice p n c) (.slice none 0 0)).run Try.prog w = .ok (.bool p.isNone) w := Lib.run_eql_slice_nil _ _ _ _ _ _ _ _ (sl_ent).und
attribute [local go_sem] eq_slE
set_option maxRecDepth 100000 in
theorem cloneE_any {X : Type} {Rl : (Nat → Prop) → World → List Value → X → Prop} (hR : Stable Rl) (hone : ∀ S w cs x, Rl S w cs x → ∀ u ∈ cs, u.oneCell' = true) {S : Nat → Prop} {w : World} {A : Option Addr} {m c : Nat} {xs : List X} (R : Hid (RdL Rl 2 S w A m xs)) (hm : m ≤ 1000) :
    Calls Try.prog 135 #[.slice A m c] w fun e w' => ∃ v, e = .returned v ∧ OwnL Rl 189 2 w.heap.size S w' v m xs ∧ Below w.heap.size w w' := by
  cases A with
  | none =>
    have hm0 : m = 0 := by
      rcases Nat.eq_zero_or_pos m with h | h
      · exact h
      · obtain ⟨b, o, hA, _⟩ := R.out.addr h; cases hA
    subst hm0
    have hx := R.out.1
    have : xs = [] := List.length_eq_zero_iff.1 hx
    subst this
    go_enter Try.func135, Try.ntmps135
    go_wp2_with fail
    go_ret
    exact ⟨_, rfl, OwnL.nil_, Below.refl _ _⟩
  | some p =>
    go_enter Try.func135, Try.ntmps135
    have hA := Lib.hid ((R.out.stable hR (w' := w) (S' := fun b => S b ∧ b < w.heap.size) (fun b hb hl => ⟨⟨hb, hl⟩, rfl⟩)).alloc hR (.cells #[] 189))
    go_wp2_with (at_builtin; refine wpList_appL hR hone sl_ent rfl (by exact rfl) (base := w.heap.size) (S := S) (n := 0) (xs := []) (by exact rfl) (OwnL.made #[] 0 (Nat.le_refl _) (by unfold maxLen; omega) rfl) (by exact rfl) hA.out (fun cs y hy => hR _ _ _ _ _ _ hy (fun b hb hl => ⟨⟨hb.1, fun e => by have e2 : b = w.heap.size := Option.some.inj e; have := hb.2; omega⟩, rfl⟩)) (by unfold maxLen; omega) (by omega) (by simp only [World.size_alloc]; omega) ?_; intro A' c' w' hc hown hg hat)
    have hb : Below w.heap.size w w' := ((Below.refl _ _).alloc (Nat.le_refl _) _).grown hg (by simp only [World.size_alloc]; omega) (fun k hk => by simp only [Value.ownBlock, Option.some.injEq] at hk; omega)
    rw [Nat.zero_add, List.nil_append] at hown
    have HO := Lib.hid hown
    have HB := Lib.hid hb
    clear hA hown hg hat hb
    go_ret
    exact ⟨_, rfl, HO.out, HB.out⟩
theorem eq_slP (w : World) (p : Option Addr) (n c : Nat) : (binOp .eql 179 (.slice p n c) (.slice none 0 0)).run Try.prog w = .ok (.bool p.isNone) w := Lib.run_eql_slice_nil _ _ _ _ _ _ _ _ (sl_ptr).und
attribute [local go_sem] eq_slP
set_option maxRecDepth 100000 in
theorem cloneP_any {X : Type} {Rl : (Nat → Prop) → World → List Value → X → Prop} (hR : Stable Rl) (hone : ∀ S w cs x, Rl S w cs x → ∀ u ∈ cs, u.oneCell' = true) {S : Nat → Prop} {w : World} {A : Option Addr} {m c : Nat} {xs : List X} (R : Hid (RdL Rl 1 S w A m xs)) (hm : m ≤ 1000) :
    Calls Try.prog 136 #[.slice A m c] w fun e w' => ∃ v, e = .returned v ∧ OwnL Rl 177 1 w.heap.size S w' v m xs ∧ Below w.heap.size w w' := by
  cases A with
  | none =>
    have hm0 : m = 0 := by
      rcases Nat.eq_zero_or_pos m with h | h
      · exact h
      · obtain ⟨b, o, hA, _⟩ := R.out.addr h; cases hA
    subst hm0
    have hx := R.out.1
    have : xs = [] := List.length_eq_zero_iff.1 hx
    subst this
    go_enter Try.func136, Try.ntmps136
    go_wp2_with fail
    go_ret
    exact ⟨_, rfl, OwnL.nil_, Below.refl _ _⟩
  | some p =>
    go_enter Try.func136, Try.ntmps136
    have hA := Lib.hid ((R.out.stable hR (w' := w) (S' := fun b => S b ∧ b < w.heap.size) (fun b hb hl => ⟨⟨hb, hl⟩, rfl⟩)).alloc hR (.cells #[] 177))
    go_wp2_with (at_builtin; refine wpList_appL hR hone sl_ptr rfl (by exact rfl) (base := w.heap.size) (S := S) (n := 0) (xs := []) (by exact rfl) (OwnL.made #[] 0 (Nat.le_refl _) (by unfold maxLen; omega) rfl) (by exact rfl) hA.out (fun cs y hy => hR _ _ _ _ _ _ hy (fun b hb hl => ⟨⟨hb.1, fun e => by have e2 : b = w.heap.size := Option.some.inj e; have := hb.2; omega⟩, rfl⟩)) (by unfold maxLen; omega) (by omega) (by simp only [World.size_alloc]; omega) ?_; intro A' c' w' hc hown hg hat)
    have hb : Below w.heap.size w w' := ((Below.refl _ _).alloc (Nat.le_refl _) _).grown hg (by simp only [World.size_alloc]; omega) (fun k hk => by simp only [Value.ownBlock, Option.some.injEq] at hk; omega)
    rw [Nat.zero_add, List.nil_append] at hown
    have HO := Lib.hid hown
    have HB := Lib.hid hb
    clear hA hown hg hat hb
    go_ret
    exact ⟨_, rfl, HO.out, HB.out⟩
end Go.Proofs.Ytpibaahiboajhaa
