/-
  Rows that are the same, told so.
  Rows of which some are taken away.
  What is left of a code's rows gives all of them back: plain.
  Equations in memory; one times a number, and less a multiple of another one.
  What comes of just k rows is a code's rows, these among them: plain.
  Equations, of which one is less a multiple of another one: plain.
  The equations that any k rows are: plain.
  Equations side by side in memory, each stored anew.
  Rows that are put into a row of rows, beside equations.
-/
import Derived.Test.YthhljmlpjnkfgaaGreatDt7
import Derived.Test.YthhljmlpjnkfgaaGreatDt5
set_option linter.unusedSimpArgs false
set_option linter.unusedVariables false
namespace Go.Proofs.YthhljmlpjnkfgaaGreat
open Go.RowKit Go.Cib
attribute [local go_sem] cell_set Later.cell Later.frozen Grw.cell Grw.frozen

set_option maxRecDepth 100000 in
set_option maxHeartbeats 8000000 in
theorem same5_any {w : World} {n ca cb : Nat} {A B : Option Addr} {S1 S2 : Nat → Prop} {ss : Rws} (R1 : RdL RowR 1 S1 w A n ss) (R2 : RdL RowR 1 S2 w B n ss) (hn : n ≤ 1000) :
    Calls Tryz.prog 21 #[.slice A n ca, .slice B n cb] w fun e w' => e = .returned (.bool true) ∧ Below w.heap.size w w' := by
  have H1 := Lib.hid R1
  have H2 := Lib.hid R2
  have q1 : (n : Int) ≤ 1000 := by omega
  have q9 : ((n : Int) != (n : Int)) = false := by simp
  clear R1 R2
  go_enter Tryz.func21, Tryz.ntmps21
  go_wp2_with fail
  go_loopw [5] (fun vi wr => ∃ i : Nat, i ≤ n ∧ vi = .int .i64 i ∧ Hid (Below w.heap.size w wr)) (fun vi _ => n - (intOf vi).toNat)
  case atStart => exact ⟨0, Nat.zero_le _, rfl, Lib.hid (Below.refl _ _)⟩
  case round =>
    obtain ⟨wq, rfl⟩ : ∃ wq, wq = wr := ⟨_, rfl⟩
    obtain ⟨i, hi, rfl, HB⟩ := hrel
    have p0 : (0 : Int) ≤ (i : Int) := Int.natCast_nonneg _
    by_cases hlt : i < n
    · have p1 : (i : Int) < (n : Int) := by omega
      obtain ⟨ba, oa, rfl, _, hba⟩ := H1.out.addr hlt
      obtain ⟨bb, ob, rfl, _, hbb⟩ := H2.out.addr hlt
      obtain ⟨A1, m1, c1, v1, _, r1⟩ := row_at H1.out hlt
      obtain ⟨A2, m2, c2, v2, _, r2⟩ := row_at H2.out hlt
      have u1 := fun w' (h : Below wq.heap.size wq w') => ((HB.out.trans (h.mono HB.out.size)).cell (p := ⟨ba, oa + i, none⟩) hba).trans v1
      have u2 := fun w' (h : Below wq.heap.size wq w') => ((HB.out.trans (h.mono HB.out.size)).cell (p := ⟨bb, ob + i, none⟩) hbb).trans v2
      have t1 := fun w' (h : Below wq.heap.size wq w') => text_run (c := c1) (r1.below ByR.stable (HB.out.trans (h.mono HB.out.size)))
      have t2 := fun w' (h : Below wq.heap.size wq w') => text_run (c := c2) (r2.below ByR.stable (HB.out.trans (h.mono HB.out.size)))
      obtain ⟨tx, htx⟩ : ∃ tx, textB (ra ss i) = tx := ⟨_, rfl⟩
      rw [htx] at t1 t2
      have q8 : (tx != tx) = false := by rw [bne, bytes_beq]; simp
      clear v1 v2 r1 r2 htx hlt
      go_wp2_with fail
      refine wp_region_held_drew (S := fun w' => Below wq.heap.size wq w') (by kernel_rfl) (by first | assumption | exact Below.refl _ _ | exact (Below.refl _ _).drew) (fun hHeld => ?_)
      refine wpAnyH_take (i := 0) (v := ?_) rfl (by kernel_rfl) (by kernel_rfl) (by kernel_rfl) (fun _ _ _ h => h) (Or.inl ⟨by first | kernel_rfl | rfl, ?_⟩) (by assumption) ?_
      rotate_left
      · (intro wq hSw; (try dsimp only at hSw); (try simp (maxSteps := 2000000) only [List.getElem_toArray, List.getElem_cons_succ, List.getElem_cons_zero]); go_simp); try with_reducible rfl
      try simp (maxSteps := 2000000) only [List.getElem_toArray, List.getElem_cons_succ, List.getElem_cons_zero, Act.put, List.setIfInBounds_toArray, List.set_cons_zero, List.set_cons_succ]
      refine wpAnyH_take (i := 1) (v := ?_) rfl (by kernel_rfl) (by kernel_rfl) (by kernel_rfl) (fun _ _ _ h => h) (Or.inl ⟨by first | kernel_rfl | rfl, ?_⟩) (by assumption) ?_
      rotate_left
      · (intro wq hSw; (try dsimp only at hSw); (try simp (maxSteps := 2000000) only [List.getElem_toArray, List.getElem_cons_succ, List.getElem_cons_zero]); go_simp); try with_reducible rfl
      try simp (maxSteps := 2000000) only [List.getElem_toArray, List.getElem_cons_succ, List.getElem_cons_zero, Act.put, List.setIfInBounds_toArray, List.set_cons_zero, List.set_cons_succ]
      refine wpAnyH_take (i := 2) (v := ?_) rfl (by kernel_rfl) (by kernel_rfl) (by kernel_rfl) (fun _ _ _ h => h) (Or.inl ⟨by first | kernel_rfl | rfl, ?_⟩) (by assumption) ?_
      rotate_left
      · (intro wq hSw; (try dsimp only at hSw); (try simp (maxSteps := 2000000) only [List.getElem_toArray, List.getElem_cons_succ, List.getElem_cons_zero]); go_simp); try with_reducible rfl
      try simp (maxSteps := 2000000) only [List.getElem_toArray, List.getElem_cons_succ, List.getElem_cons_zero, Act.put, List.setIfInBounds_toArray, List.set_cons_zero, List.set_cons_succ]
      refine wpAnyH_take (i := 3) (v := ?_) rfl (by kernel_rfl) (by kernel_rfl) (by kernel_rfl) (fun _ _ _ h => h) (Or.inl ⟨by first | kernel_rfl | rfl, ?_⟩) (by assumption) ?_
      rotate_left
      · (intro wq hSw; (try dsimp only at hSw); (try simp (maxSteps := 2000000) only [List.getElem_toArray, List.getElem_cons_succ, List.getElem_cons_zero]); go_simp); try with_reducible rfl
      try simp (maxSteps := 2000000) only [List.getElem_toArray, List.getElem_cons_succ, List.getElem_cons_zero, Act.put, List.setIfInBounds_toArray, List.set_cons_zero, List.set_cons_succ]
      refine wpAnyH_take (i := 4) (v := ?_) rfl (by kernel_rfl) (by kernel_rfl) (by kernel_rfl) (fun _ _ _ h => h) (Or.inl ⟨by first | kernel_rfl | rfl, ?_⟩) (by assumption) ?_
      rotate_left
      · (intro wq hSw; (try dsimp only at hSw); (try simp (maxSteps := 2000000) only [List.getElem_toArray, List.getElem_cons_succ, List.getElem_cons_zero]); go_simp); try with_reducible rfl
      try simp (maxSteps := 2000000) only [List.getElem_toArray, List.getElem_cons_succ, List.getElem_cons_zero, Act.put, List.setIfInBounds_toArray, List.set_cons_zero, List.set_cons_succ]
      refine wpAnyH_take (i := 5) (v := ?_) rfl (by kernel_rfl) (by kernel_rfl) (by kernel_rfl) (fun _ _ _ h => h) (Or.inl ⟨by first | kernel_rfl | rfl, ?_⟩) (by assumption) ?_
      rotate_left
      · (intro wq hSw; (try dsimp only at hSw); (try simp (maxSteps := 2000000) only [List.getElem_toArray, List.getElem_cons_succ, List.getElem_cons_zero]); go_simp); try with_reducible rfl
      try simp (maxSteps := 2000000) only [List.getElem_toArray, List.getElem_cons_succ, List.getElem_cons_zero, Act.put, List.setIfInBounds_toArray, List.set_cons_zero, List.set_cons_succ]
      refine wpAnyH_take (i := 6) (v := ?_) rfl (by kernel_rfl) (by kernel_rfl) (by kernel_rfl) (fun _ _ _ h => h) (Or.inl ⟨by first | kernel_rfl | rfl, ?_⟩) (by assumption) ?_
      rotate_left
      · (intro wq hSw; (try dsimp only at hSw); (try simp (maxSteps := 2000000) only [List.getElem_toArray, List.getElem_cons_succ, List.getElem_cons_zero]); go_simp); try with_reducible rfl
      try simp (maxSteps := 2000000) only [List.getElem_toArray, List.getElem_cons_succ, List.getElem_cons_zero, Act.put, List.setIfInBounds_toArray, List.set_cons_zero, List.set_cons_succ]
      refine wpAnyH_take (i := 7) (v := ?_) rfl (by kernel_rfl) (by kernel_rfl) (by kernel_rfl) (fun _ _ _ h => h) (Or.inl ⟨by first | kernel_rfl | rfl, ?_⟩) (by assumption) ?_
      rotate_left
      · (intro wq hSw; (try dsimp only at hSw); (try simp (maxSteps := 2000000) only [List.getElem_toArray, List.getElem_cons_succ, List.getElem_cons_zero]); go_simp); try with_reducible rfl
      try simp (maxSteps := 2000000) only [List.getElem_toArray, List.getElem_cons_succ, List.getElem_cons_zero, Act.put, List.setIfInBounds_toArray, List.set_cons_zero, List.set_cons_succ]
      refine wpAnyH_take (i := 8) (v := ?_) rfl (by kernel_rfl) (by kernel_rfl) (by kernel_rfl) (fun _ _ _ h => h) (Or.inl ⟨by first | kernel_rfl | rfl, ?_⟩) (by assumption) ?_
      rotate_left
      · (intro wq hSw; (try dsimp only at hSw); (try simp (maxSteps := 2000000) only [List.getElem_toArray, List.getElem_cons_succ, List.getElem_cons_zero]); go_simp); try with_reducible rfl
      try simp (maxSteps := 2000000) only [List.getElem_toArray, List.getElem_cons_succ, List.getElem_cons_zero, Act.put, List.setIfInBounds_toArray, List.set_cons_zero, List.set_cons_succ]
      refine wpAnyH_take (i := 9) (v := ?_) rfl (by kernel_rfl) (by kernel_rfl) (by kernel_rfl) (fun _ _ _ h => h) (Or.inl ⟨by first | kernel_rfl | rfl, ?_⟩) (by assumption) ?_
      rotate_left
      · (intro wq hSw; (try dsimp only at hSw); (try simp (maxSteps := 2000000) only [List.getElem_toArray, List.getElem_cons_succ, List.getElem_cons_zero]); go_simp); try with_reducible rfl
      try simp (maxSteps := 2000000) only [List.getElem_toArray, List.getElem_cons_succ, List.getElem_cons_zero, Act.put, List.setIfInBounds_toArray, List.set_cons_zero, List.set_cons_succ]
      refine wpAnyH_take (i := 10) (v := ?_) rfl (by kernel_rfl) (by kernel_rfl) (by kernel_rfl) (fun _ _ _ h => h) (Or.inl ⟨by first | kernel_rfl | rfl, ?_⟩) (by assumption) ?_
      rotate_left
      · (intro wq hSw; (try dsimp only at hSw); (try simp (maxSteps := 2000000) only [List.getElem_toArray, List.getElem_cons_succ, List.getElem_cons_zero]); go_simp); try with_reducible rfl
      try simp (maxSteps := 2000000) only [List.getElem_toArray, List.getElem_cons_succ, List.getElem_cons_zero, Act.put, List.setIfInBounds_toArray, List.set_cons_zero, List.set_cons_succ]
      refine wpAnyH_done (by kernel_rfl) ?_ _
      go_wp2_with fail
      exact ⟨⟨i + 1, by omega, by go_num, Lib.hid (HB.out.trans ((Below.refl _ _).drew.mono HB.out.size))⟩, by simp [intOf]; omega⟩
    · have p1 : ¬ (i : Int) < (n : Int) := by omega
      go_wp2_with fail
      go_ret
      exact ⟨rfl, HB.out⟩
end Go.Proofs.YthhljmlpjnkfgaaGreat

set_option linter.unusedSimpArgs false
set_option linter.unusedVariables false
namespace Go.Proofs.YthhljmlpjnkfgaaGreat
open Go.RowKit Go.Cib
attribute [local go_sem] cell_set Later.cell Later.frozen Grw.cell Grw.frozen

def holeF (gone : List Int) (i j : Nat) (r : List Nat) : List Nat := if (i : Int) ∈ gone.take j then [] else r
def missF (gone : List Int) (ss : Rws) (i : Nat) : Rws := (List.range i).map fun j : Nat => if (j : Int) ∈ gone then [] else ra ss j
theorem missF_next (gone : List Int) (ss : Rws) (i : Nat) {g : Nat} (hg : gone.length = g) : missF gone ss (i + 1) = missF gone ss i ++ [holeF gone i g (ra ss i)] := by
  unfold missF holeF
  rw [List.range_succ, List.map_append, List.take_of_length_le (by omega)]; rfl
set_option maxRecDepth 100000 in
set_option maxHeartbeats 8000000 in
theorem missing_any {w : World} {n g ca cb : Nat} {A B : Option Addr} {S1 S2 : Nat → Prop} {ss : Rws} {gone : List Int} (R1 : RdL RowR 1 S1 w A n ss) (R2 : RdL IntR 1 S2 w B g gone) (hn : n ≤ 1000) (hg : g ≤ 1000) (hlen : ∀ i, lenF ss i ≤ 1000000) :
    Calls Tryz.prog 25 #[.slice A n ca, .slice B g cb] w fun e w' => ∃ A' c', e = .returned (.slice A' n c') ∧ n ≤ c' ∧ RdL RowR 1 (fun j => w.heap.size ≤ j) w' A' n (missF gone ss n) ∧ Below w.heap.size w w' := by
  have H1 := Lib.hid R1
  have H2 := Lib.hid R2
  have hgl := R2.1
  have q1 : (n : Int) ≤ 1000 := by omega
  have q2 : (g : Int) ≤ 1000 := by omega
  have HGL := Lib.hid hgl
  clear R1 R2 hgl
  go_enter Tryz.func25, Tryz.ntmps25
  go_wp2_with fail
  go_loopw [5, 6] (fun vs vi wr => ∃ (i : Nat) (A : Option Addr) (c : Nat), i ≤ n ∧ vi = .int .i64 i ∧ vs = .slice A i c ∧ i ≤ c ∧ Hid (OwnL RowR 29 1 w.heap.size (fun j => w.heap.size ≤ j) wr (.slice A i c) i (missF gone ss i)) ∧ Hid (Below w.heap.size w wr)) (fun _ vi _ => n - (intOf vi).toNat)
  case atStart => exact ⟨0, none, 0, Nat.zero_le _, rfl, rfl, Nat.le_refl _, Lib.hid (by exact OwnL.nil_), Lib.hid (Below.refl _ _)⟩
  case round =>
    obtain ⟨i, AO, cO, hi, rfl, rfl, hcO, HO, HB⟩ := hrel
    have p0 : (0 : Int) ≤ (i : Int) := Int.natCast_nonneg _
    by_cases hlt : i < n
    · have p1 : (i : Int) < (n : Int) := by omega
      obtain ⟨ba, oa, rfl, _, hba⟩ := H1.out.addr hlt
      obtain ⟨A1, m1, c1, v1, _, r1⟩ := row_at H1.out hlt
      have v1' := (HB.out.cell (p := ⟨ba, oa + i, none⟩) hba).trans v1
      have v1a := (((HB.out.alloc (HB.out.size) (.cells #[] 5))).cell (p := ⟨ba, oa + i, none⟩) hba).trans v1
      have r1' := r1.below ByR.stable HB.out
      have hm1 : m1 ≤ 1000000 := by have := hlen i; unfold lenF at this; rw [r1.1] at this; exact this
      have hszr := HB.out.size
      have hA := Lib.hid (r1'.alloc ByR.stable (.cells #[] 5))
      clear v1 r1 r1'
      go_wp2_with (at_builtin; refine wpList_appL ByR.stable ByR.one sl_by rfl (by exact rfl) (base := wr.heap.size) (S := fun _ => True) (n := 0) (xs := []) (by exact rfl) (OwnL.made #[] 0 (Nat.le_refl _) (by unfold maxLen; omega) rfl) (by exact rfl) hA.out (fun _ _ h => h) (by unfold maxLen; omega) (by omega) (by simp only [World.size_alloc]; omega) ?_; intro A3 c3 w3 hc3 hown hg3 hat; have hb : Below wr.heap.size wr w3 := ((Below.refl _ _).alloc (Nat.le_refl _) _).grown hg3 (by simp only [World.size_alloc]; omega) (fun k hk => by simp only [Value.ownBlock, Option.some.injEq] at hk; omega); rw [Nat.zero_add, List.nil_append] at hown; obtain ⟨A5, c5, hv5, hc5, hr5⟩ := hown.rd (S' := Go.Cib.Rest (fun j => w.heap.size ≤ j) (.slice AO i cO)) (fun j hj => ⟨(by show _ ≤ j; omega), fun e => (by have := (HO.out.lt _ e.symm).2; omega)⟩) (fun cs x hx => hx); simp only [Value.slice.injEq] at hv5; obtain ⟨rfl, _, rfl⟩ := hv5; have HR3 := Lib.hid hr5; have HO3 := Lib.hid (HO.out.keep RowR.stable hb); have HB3 := Lib.hid (HB.out.trans (hb.mono HB.out.size)); have hs3 := HB3.out.size; clear hA hown hg3 hat hb hr5)
      have HRi : Hid (RdL ByR 1 (Go.Cib.Rest (fun j => w.heap.size ≤ j) (.slice AO i cO)) w3 A3 m1 (holeF gone i 0 (ra ss i))) := by unfold holeF; rw [List.take_zero, if_neg (by simp)]; exact HR3
      clear HR3
      go_loopw [7, 8] (fun vr vj wr => ∃ (j : Nat) (A' : Option Addr) (m c : Nat), j ≤ g ∧ vj = .int .i64 j ∧ vr = .slice A' m c ∧ wr = w3 ∧ Hid (m ≤ c) ∧ Hid (RdL ByR 1 (Go.Cib.Rest (fun j => w.heap.size ≤ j) (.slice AO i cO)) w3 A' m (holeF gone i j (ra ss i)))) (fun _ vj _ => g - (intOf vj).toNat)
      case atStart => exact ⟨0, _, _, _, Nat.zero_le _, rfl, rfl, rfl, Lib.hid (by omega), HRi⟩
      case round =>
        clear HRi
        obtain ⟨j, A4, m4, c4, hj, rfl, rfl, hwr, HC4, HR4⟩ := hrel
        rw [hwr]
        clear hwr
        have p5 : (0 : Int) ≤ (j : Int) := Int.natCast_nonneg _
        by_cases hlj : j < g
        · have p6 : (j : Int) < (g : Int) := by omega
          obtain ⟨bg, og, rfl, _, hbg⟩ := H2.out.addr hlj
          obtain ⟨x, hx, v2⟩ := int_at H2.out hlj
          have v2' := (HB3.out.cell (p := ⟨bg, og + j, none⟩) hbg).trans v2
          have htk : gone.take (j + 1) = gone.take j ++ [x] := by rw [List.take_add_one, hx]; rfl
          clear v2 hx
          by_cases he : x = (i : Int)
          · have he2 : (x == (i : Int)) = true := by rw [he]; simp
            have HR5 : Hid (RdL ByR 1 (Go.Cib.Rest (fun j => w.heap.size ≤ j) (.slice AO i cO)) w3 none 0 (holeF gone i (j + 1) (ra ss i))) := by
              unfold holeF
              rw [htk, if_pos (by rw [he]; simp)]
              exact Lib.hid RdL.nil
            clear htk he
            go_wp2_with fail
            exact ⟨⟨j + 1, none, 0, 0, by omega, by go_num, rfl, trivial, Lib.hid (Nat.le_refl _), HR5⟩, by simp [intOf]; omega⟩
          · have he2 : (x == (i : Int)) = false := by simp [he]
            have HR5 : Hid (RdL ByR 1 (Go.Cib.Rest (fun j => w.heap.size ≤ j) (.slice AO i cO)) w3 A4 m4 (holeF gone i (j + 1) (ra ss i))) := by
              have e : holeF gone i (j + 1) (ra ss i) = holeF gone i j (ra ss i) := by
                unfold holeF
                rw [htk]
                by_cases h : (i : Int) ∈ gone.take j
                · rw [if_pos h, if_pos (by simp [h])]
                · rw [if_neg h, if_neg (by simp [h]; exact fun e => he e.symm)]
              rw [e]; exact HR4
            clear htk he
            go_wp2_with fail
            exact ⟨⟨j + 1, A4, m4, c4, by omega, by go_num, rfl, trivial, HC4, HR5⟩, by simp [intOf]; omega⟩
        · have p6 : ¬ (j : Int) < (g : Int) := by omega
          obtain rfl : j = g := by omega
          have hnx := missF_next gone ss i HGL.out
          have HNX := Lib.hid hnx
          clear hnx hlj
          go_wp2_with (at_builtin; go_must (refine wpList_push1 RowR.stable RowR.one sl_rows (by rfl) (by rfl) (base := w.heap.size) (S := fun j => w.heap.size ≤ j) (cs := #[.slice A4 m4 c4]) (y := holeF gone i j (ra ss i)) (by rfl) (by rfl) HO3.out (by rfl) ⟨A4, m4, c4, rfl, HC4.out, HR4.out⟩ (by unfold maxLen; omega) (by omega) hs3 ?_); intro A8 c8 ug hc8 own9 hlt8 hb8 hat8; rw [← HNX.out] at own9; have HO9 := Lib.hid own9; have HB9 := Lib.hid (HB3.out.trans hb8); clear own9 hb8 hlt8 hat8)
          exact ⟨⟨i + 1, A8, c8, by omega, by go_num, rfl, hc8, HO9, HB9⟩, by simp [intOf]; omega⟩
    · have p1 : ¬ (i : Int) < (n : Int) := by omega
      obtain rfl : i = n := by omega
      go_wp2_with fail
      go_ret
      obtain ⟨A', c', e, _, hr⟩ := HO.out.rd (S' := fun j => w.heap.size ≤ j) (fun j hj => hj) (fun cs x hx => RowR.stable _ _ _ _ _ _ hx fun b hb _ => ⟨hb.1, rfl⟩)
      injection e with e1 _ e2
      subst e1; subst e2
      exact ⟨AO, cO, rfl, hcO, hr, HB.out⟩
end Go.Proofs.YthhljmlpjnkfgaaGreat

set_option linter.unusedSimpArgs false
set_option linter.unusedVariables false
namespace Go.Proofs.YthhljmlpjnkfgaaGreat
open Go.RowKit Go.Cib
attribute [local go_sem] cell_set Later.cell Later.frozen Grw.cell Grw.frozen

theorem left_many (N : Nat) : ∀ gone : List Int, N ≤ ((List.range N).filter fun j : Nat => decide ((j : Int) ∉ gone)).length + gone.length := by
  intro gone
  induction gone with
  | nil => simp [List.filter_eq_self.2]
  | cons x gs ih =>
    rw [List.length_cons]
    by_cases h : 0 ≤ x ∧ x < (N : Int) ∧ x ∉ gs
    · obtain ⟨a, rfl⟩ : ∃ a : Nat, x = (a : Int) := ⟨x.toNat, by omega⟩
      rw [cnt_put (fun j : Nat => decide ((j : Int) ∉ (a : Int) :: gs)) (fun j : Nat => decide ((j : Int) ∉ gs)) a N (by omega) (fun j hj => by
        have : ¬ (j : Int) = (a : Int) := by omega
        simp [this]) (by simp) (by simp [h.2.2])] at ih
      omega
    · have e : (List.range N).filter (fun j : Nat => decide ((j : Int) ∉ x :: gs)) = (List.range N).filter (fun j : Nat => decide ((j : Int) ∉ gs)) := List.filter_congr fun j hj => by
        have hjN := List.mem_range.1 hj
        by_cases hx : (j : Int) = x
        · by_cases hg : x ∈ gs
          · simp [hx, hg]
          · exact absurd ⟨by omega, by omega, hg⟩ h
        · simp [hx]
      rw [e]; omega
/-- All rows of a code. -/
def allR (k n : Nat) (D : Rws) (N : Nat) : Rws := (List.range N).map (codeRow k n D)
theorem allR_len (k n : Nat) (D : Rws) (N : Nat) : (allR k n D N).length = N := by unfold allR; simp
theorem allR_ra {k n : Nat} {D : Rws} {N j : Nat} (hj : j < N) : ra (allR k n D N) j = codeRow k n D j := ra_some (by unfold allR; rw [List.getElem?_map, List.getElem?_range hj]; rfl)
theorem missF_len (gone : List Int) (ss : Rws) (N : Nat) : (missF gone ss N).length = N := by unfold missF; simp
theorem missF_ra {gone : List Int} {ss : Rws} {N j : Nat} (hj : j < N) : ra (missF gone ss N) j = if (j : Int) ∈ gone then [] else ra ss j := ra_some (by unfold missF; rw [List.getElem?_map, List.getElem?_range hj]; rfl)
section
variable {k m n : Nat} {D : Rws} {gone : List Int}
theorem allR_data (hD : Shp k n D) : allR k n D k = D := ra_ext (by rw [allR_len, hD.1]) fun i hi => by
  rw [allR_len] at hi
  rw [allR_ra hi, codeRow_data hD hi]
theorem allR_enc (hD : Shp k n D) : D ++ encU k D n m = allR k n D (k + m) := by
  unfold allR
  rw [List.range_add, List.map_append, List.map_map]
  congr 1
  exact (allR_data hD).symm
theorem left_lenF (hD : Shp k n D) (hn : 0 < n) {N j : Nat} (hj : j < N) : lenF (missF gone (allR k n D N) N) j = if (j : Int) ∈ gone then 0 else n := by
  unfold lenF
  rw [missF_ra hj, allR_ra hj]
  split
  · rfl
  · exact (codeRow_ok hD j).1
theorem left_thU (hD : Shp k n D) (hn : 0 < n) (N : Nat) : thU (missF gone (allR k n D N) N) N = (List.range N).filter fun j : Nat => decide ((j : Int) ∉ gone) := by
  unfold thU
  refine List.filter_congr fun j hj => ?_
  rw [left_lenF hD hn (List.mem_range.1 hj)]
  by_cases h : (j : Int) ∈ gone
  · simp [h]
  · simp [h, hn]
theorem left_bad (hD : Shp k n D) (hn : 0 < n) : thBad k m (k + m) (missF gone (allR k n D (k + m)) (k + m)) = false := by
  unfold thBad
  rw [Bool.or_eq_false_iff]
  refine ⟨by simp, List.any_eq_false.2 fun u hu => ?_⟩
  have hg := gt_mem (l := thU (missF gone (allR k n D (k + m)) (k + m)) (k + m)) (i := 0) (List.length_pos_of_mem hu)
  have e : ∀ j, j ∈ thU (missF gone (allR k n D (k + m)) (k + m)) (k + m) → lenF (missF gone (allR k n D (k + m)) (k + m)) j = n := fun j hj => by
    have h1 := thU_mem hj
    have h2 := left_lenF (gone := gone) hD hn h1.1
    rw [h2]
    split
    · rename_i hin; rw [if_pos hin] at h2; omega
    · rfl
  unfold oddB
  rw [e u hu, e _ hg]
  simp
theorem left_enough (hD : Shp k n D) (hn : 0 < n) (hg : gone.length ≤ m) : ¬ (thU (missF gone (allR k n D (k + m)) (k + m)) (k + m)).length < k := by
  rw [left_thU hD hn]
  have := left_many (k + m) gone
  omega
/-- All of it comes back. -/
theorem left_out (hD : Shp k n D) (hn : 0 < n) (hk : 1 ≤ k) (hkm : k + m ≤ 255) (hg : gone.length ≤ m) {nr : Nat} (hnr : nr ≤ k + m) :
    outF k (k + m) nr (missF gone (allR k n D (k + m)) (k + m)) = allR k n D nr := by
  have hb := left_bad (m := m) (gone := gone) hD hn
  have hf := left_enough hD hn hg
  obtain ⟨_, hul, huse⟩ := use_ok hb hf hk
  have hI := inj_useT hb hf hk hkm
  have hin : ∀ u ∈ useT k (k + m) (missF gone (allR k n D (k + m)) (k + m)), u < k + m ∧ lenF (missF gone (allR k n D (k + m)) (k + m)) u = n ∧ ra (missF gone (allR k n D (k + m)) (k + m)) u = codeRow k n D u := fun u hu => by
    have h1 := thU_mem (List.mem_of_mem_take hu)
    have h2 := left_lenF (gone := gone) hD hn h1.1
    have h3 := missF_ra (gone := gone) (ss := allR k n D (k + m)) h1.1
    by_cases hc : (u : Int) ∈ gone
    · rw [if_pos hc] at h2; omega
    · rw [if_neg hc] at h2 h3
      exact ⟨h1.1, h2, by rw [h3, allR_ra h1.1]⟩
  have hn0 : lenF (missF gone (allR k n D (k + m)) (k + m)) (gt (useT k (k + m) (missF gone (allR k n D (k + m)) (k + m))) 0) = n := (hin _ (gt_mem (by omega))).2.1
  rw [show allR k n D nr = (List.range nr).map (codeRow k n D) from rfl]
  unfold outF
  rw [hn0]
  refine List.map_congr_left fun i hi => ?_
  have hiN := List.mem_range.1 hi
  unfold fillOne
  split
  · rename_i hpos
    rw [missF_ra (show i < k + m by omega), allR_ra (show i < k + m by omega)]
    rw [left_lenF hD hn (show i < k + m by omega)] at hpos
    by_cases hc : (i : Int) ∈ gone
    · rw [if_pos hc] at hpos; omega
    · rw [if_neg hc]
  · exact made_back hD hul hI (fun u hu => (hin u hu).2.2) i
end
end Go.Proofs.YthhljmlpjnkfgaaGreat

set_option linter.unusedSimpArgs false
set_option linter.unusedVariables false
namespace Go.Proofs.YthhljmlpjnkfgaaGreat
open Go.RowKit Go.Cib
attribute [local go_sem] cell_set Later.cell Later.frozen Grw.cell Grw.frozen

def EqR (S : Nat → Prop) (w : World) (cs : List Value) (x : List Nat × List Nat) : Prop :=
  ∃ A m c A' m' c', cs = [.slice A m c, .slice A' m' c'] ∧ m ≤ c ∧ m' ≤ c' ∧ RdL ByR 1 S w A m x.1 ∧ RdL ByR 1 S w A' m' x.2
theorem EqR.stable : Stable EqR := by
  rintro S S' w w' cs x ⟨A, m, c, A', m', c', rfl, h1, h2, h3, h4⟩ h
  exact ⟨A, m, c, A', m', c', rfl, h1, h2, h3.stable ByR.stable h, h4.stable ByR.stable h⟩
theorem EqR.one : ∀ S w cs x, EqR S w cs x → ∀ u ∈ cs, u.oneCell' = true := by
  rintro S w cs x ⟨A, m, c, A', m', c', rfl, _⟩ u hu
  simp at hu
  rcases hu with rfl | rfl <;> rfl
theorem sl_eqn : SlTy Tryz.prog 92 94 (.agg #[.slice none 0 0, .slice none 0 0]) 2 48 := ⟨by kernel_rfl, by kernel_rfl, by kernel_rfl, by omega⟩
set_option maxRecDepth 100000 in
set_option maxHeartbeats 8000000 in
theorem times_any {w : World} {c n n' c1 c2 : Nat} {A A' : Option Addr} {S1 S2 : Nat → Prop} {xs ys : List Nat} (hc : c < 256) (R1 : RdL ByR 1 S1 w A n xs) (R2 : RdL ByR 1 S2 w A' n' ys) (h1 : n ≤ 1000000) (h2 : n' ≤ 1000000) :
    Calls Tryz.prog 63 #[.int .u8 (c : Int), .agg #[.slice A n c1, .slice A' n' c2]] w fun e w' => ∃ B d1 B' d2, e = .returned (.agg #[.slice B n d1, .slice B' n' d2]) ∧ n ≤ d1 ∧ n' ≤ d2 ∧
      RdL ByR 1 (fun j => w.heap.size ≤ j) w' B n (sc c xs) ∧ RdL ByR 1 (fun j => w.heap.size ≤ j) w' B' n' (sc c ys) ∧ Below w.heap.size w w' := by
  have H1 := Lib.hid R1
  have H2 := Lib.hid R2
  clear R1 R2
  go_enter Tryz.func63, Tryz.ntmps63
  go_wp2_with fail
  have b1 := (BoxAt.new w #[.slice A n c1, .slice A' n' c2] 94).alloc (.cells #[.slice none 0 0, .slice none 0 0] 94)
  have b2 := BoxAt.new (w.alloc (.cells #[.slice A n c1, .slice A' n' c2] 94)) #[.slice none 0 0, .slice none 0 0] 94
  have hb0 : Below w.heap.size w ((w.alloc (.cells #[.slice A n c1, .slice A' n' c2] 94)).alloc (.cells #[.slice none 0 0, .slice none 0 0] 94)) := ((Below.refl _ _).alloc (Nat.le_refl _) _).alloc (by rw [World.size_alloc]; omega) _
  have hs0 : ((w.alloc (.cells #[.slice A n c1, .slice A' n' c2] 94)).alloc (.cells #[.slice none 0 0, .slice none 0 0] 94)).heap.size = w.heap.size + 2 := by rw [World.size_alloc, World.size_alloc]
  rw [World.size_alloc] at b2
  generalize (w.alloc (.cells #[.slice A n c1, .slice A' n' c2] 94)).alloc (.cells #[.slice none 0 0, .slice none 0 0] 94) = wA at *
  obtain ⟨p, hp⟩ : ∃ p, w.heap.size = p := ⟨_, rfl⟩
  rw [hp] at b1 b2 hs0 ⊢
  have s0 : wA.drew.cell? ⟨p, 0, none⟩ = some (.slice A n c1) ∧ wA.drew.cell? ⟨p, 1, none⟩ = some (.slice A' n' c2) := ⟨b1.cell 0, b1.cell 1⟩
  have b1d : BoxAt wA.drew p #[.slice A n c1, .slice A' n' c2] := b1.keep rfl
  have b2d : BoxAt wA.drew (p + 1) #[.slice none 0 0, .slice none 0 0] := b2.keep rfl
  have hbd : Below w.heap.size w wA.drew := hb0.drew
  have hsd : wA.drew.heap.size = p + 2 := hs0
  have hc1 := rscale_any (w := wA.drew) (c1 := c1) hc (H1.out.below ByR.stable hbd) h1
  clear b1 b2 hb0 hs0
  refine wp_region_L (S := fun w' => w'.cell? ⟨p, 0, none⟩ = some (.slice A n c1) ∧ w'.cell? ⟨p, 1, none⟩ = some (.slice A' n' c2)) [9] (by kernel_rfl) (by first | exact s0 | exact s5 | exact s6) (fun hHeld => ?_)
  refine wpAnyL_take (i := 0) (v := ?_) rfl (by kernel_rfl) (by kernel_rfl) (by kernel_rfl) (by kernel_rfl) (fun _ _ _ h => h) (Or.inl ⟨by first | kernel_rfl | rfl, ?_⟩) (by assumption) ?_
  rotate_left
  · (intro wq0 hSw; (try dsimp only at hSw); (try simp (maxSteps := 2000000) only [List.getElem_toArray, List.getElem_cons_succ, List.getElem_cons_zero]); go_simp); try with_reducible rfl
  try simp (maxSteps := 2000000) only [List.getElem_toArray, List.getElem_cons_succ, List.getElem_cons_zero, Act.put, List.setIfInBounds_toArray, List.set_cons_zero, List.set_cons_succ]
  refine wpAnyL_take (i := 1) (v := ?_) rfl (by kernel_rfl) (by kernel_rfl) (by kernel_rfl) (by kernel_rfl) (fun _ _ _ h => h) (Or.inl ⟨by first | kernel_rfl | rfl, ?_⟩) (by assumption) ?_
  rotate_left
  · (intro wq0 hSw; (try dsimp only at hSw); (try simp (maxSteps := 2000000) only [List.getElem_toArray, List.getElem_cons_succ, List.getElem_cons_zero]); go_simp); try with_reducible rfl
  try simp (maxSteps := 2000000) only [List.getElem_toArray, List.getElem_cons_succ, List.getElem_cons_zero, Act.put, List.setIfInBounds_toArray, List.set_cons_zero, List.set_cons_succ]
  refine wpAnyL_take (i := 2) (v := ?_) rfl (by kernel_rfl) (by kernel_rfl) (by kernel_rfl) (by kernel_rfl) (fun _ _ _ h => h) (Or.inl ⟨by first | kernel_rfl | rfl, ?_⟩) (by assumption) ?_
  rotate_left
  · (intro wq0 hSw; (try dsimp only at hSw); (try simp (maxSteps := 2000000) only [List.getElem_toArray, List.getElem_cons_succ, List.getElem_cons_zero]); go_simp); try with_reducible rfl
  try simp (maxSteps := 2000000) only [List.getElem_toArray, List.getElem_cons_succ, List.getElem_cons_zero, Act.put, List.setIfInBounds_toArray, List.set_cons_zero, List.set_cons_succ]
  refine wpAnyL_take (i := 4) (v := ?_) rfl (by kernel_rfl) (by kernel_rfl) (by kernel_rfl) (by kernel_rfl) (fun _ _ _ h => h) (Or.inl ⟨by first | kernel_rfl | rfl, ?_⟩) (by assumption) ?_
  rotate_left
  · (intro wq0 hSw; (try dsimp only at hSw); (try simp (maxSteps := 2000000) only [List.getElem_toArray, List.getElem_cons_succ, List.getElem_cons_zero]); go_simp); try with_reducible rfl
  try simp (maxSteps := 2000000) only [List.getElem_toArray, List.getElem_cons_succ, List.getElem_cons_zero, Act.put, List.setIfInBounds_toArray, List.set_cons_zero, List.set_cons_succ]
  refine wpAnyL_take (i := 5) (v := ?_) rfl (by kernel_rfl) (by kernel_rfl) (by kernel_rfl) (by kernel_rfl) (fun _ _ _ h => h) (Or.inl ⟨by first | kernel_rfl | rfl, ?_⟩) (by assumption) ?_
  rotate_left
  · (intro wq0 hSw; (try dsimp only at hSw); (try simp (maxSteps := 2000000) only [List.getElem_toArray, List.getElem_cons_succ, List.getElem_cons_zero]); go_simp); try with_reducible rfl
  try simp (maxSteps := 2000000) only [List.getElem_toArray, List.getElem_cons_succ, List.getElem_cons_zero, Act.put, List.setIfInBounds_toArray, List.set_cons_zero, List.set_cons_succ]
  refine wpAnyL_take (i := 6) (v := ?_) rfl (by kernel_rfl) (by kernel_rfl) (by kernel_rfl) (by kernel_rfl) (fun _ _ _ h => h) (Or.inl ⟨by first | kernel_rfl | rfl, ?_⟩) (by assumption) ?_
  rotate_left
  · (intro wq0 hSw; (try dsimp only at hSw); (try simp (maxSteps := 2000000) only [List.getElem_toArray, List.getElem_cons_succ, List.getElem_cons_zero]); go_simp); try with_reducible rfl
  try simp (maxSteps := 2000000) only [List.getElem_toArray, List.getElem_cons_succ, List.getElem_cons_zero, Act.put, List.setIfInBounds_toArray, List.set_cons_zero, List.set_cons_succ]
  refine wpAnyL_ready (rs := [3]) (by kernel_rfl) (by simp) ?_
  refine AllReadyL.cons rfl (fun K hK => ?_) AllReadyL.nil
  try simp (maxSteps := 2000000) only [List.getElem_toArray, List.getElem_cons_succ, List.getElem_cons_zero]
  go_simp
  go_at_call 80
  refine hc1.mono ?_
  rintro e w5 ⟨B, d1, rfl, hd1, hr5, hb5⟩
  have b15 := b1d.below hb5
  have b25 := b2d.below hb5
  have s5 : w5.cell? ⟨p, 0, none⟩ = some (.slice A n c1) ∧ w5.cell? ⟨p, 1, none⟩ = some (.slice A' n' c2) := ⟨b15.cell 0, b15.cell 1⟩
  have hs5 := hb5.size
  have hbw : Below w.heap.size w w5 := hbd.trans (hb5.mono hbd.size)
  have hc2 := rscale_any (w := w5) (c1 := c2) hc (H2.out.below ByR.stable hbw) h2
  have HR5 := Lib.hid hr5
  clear hc1 hb5 hr5 b1d b2d hbd
  try (go_wp2_with fail)
  refine hK.out _ _ (by first | exact s0 | exact s5 | exact s6) (fun hHeld => ?_)
  clear hK K
  try simp (maxSteps := 2000000) only [List.getElem_toArray, List.getElem_cons_succ, List.getElem_cons_zero, Act.put, List.setIfInBounds_toArray, List.set_cons_zero, List.set_cons_succ]
  refine wpAnyL_ready (rs := [7]) (by kernel_rfl) (by simp) ?_
  refine AllReadyL.cons rfl (fun K hK => ?_) AllReadyL.nil
  try simp (maxSteps := 2000000) only [List.getElem_toArray, List.getElem_cons_succ, List.getElem_cons_zero]
  go_simp
  go_at_call 80
  refine hc2.mono ?_
  rintro e w6 ⟨B', d2, rfl, hd2, hr6, hb6⟩
  have b16 := b15.below hb6
  have b26 := b25.below hb6
  have s6 : w6.cell? ⟨p, 0, none⟩ = some (.slice A n c1) ∧ w6.cell? ⟨p, 1, none⟩ = some (.slice A' n' c2) := ⟨b16.cell 0, b16.cell 1⟩
  have k0 := b26.cell 0
  have k1 := b26.cell 1
  have f0 := b26.frozen 0
  have f1 := b26.frozen 1
  have HR56 := Lib.hid (HR5.out.below ByR.stable hb6)
  have HR6 := Lib.hid hr6
  have HB6 := Lib.hid (hbw.trans (hb6.mono hbw.size))
  have hs6 := hb6.size
  clear hc2 hb6 hr6 b15 b25 HR5 hbw
  try (go_wp2_with fail)
  refine hK.out _ _ (by first | exact s0 | exact s5 | exact s6) (fun hHeld => ?_)
  clear hK K
  try simp (maxSteps := 2000000) only [List.getElem_toArray, List.getElem_cons_succ, List.getElem_cons_zero, Act.put, List.setIfInBounds_toArray, List.set_cons_zero, List.set_cons_succ]
  refine wpAnyL_take (i := 8) (v := ?_) rfl (by kernel_rfl) (by kernel_rfl) (by kernel_rfl) (by kernel_rfl) (fun _ _ _ h => h) (Or.inl ⟨by first | kernel_rfl | rfl, ?_⟩) (by assumption) ?_
  rotate_left
  · (intro wq0 hSw; (try dsimp only at hSw); (try simp (maxSteps := 2000000) only [List.getElem_toArray, List.getElem_cons_succ, List.getElem_cons_zero]); go_simp); try with_reducible rfl
  try simp (maxSteps := 2000000) only [List.getElem_toArray, List.getElem_cons_succ, List.getElem_cons_zero, Act.put, List.setIfInBounds_toArray, List.set_cons_zero, List.set_cons_succ]
  refine wpAnyL_ready (rs := [9]) (by kernel_rfl) (by simp) ?_
  refine AllReadyL.last rfl (by decide) (fun K hK => ?_) AllReadyL.nil
  try simp (maxSteps := 2000000) only [List.getElem_toArray, List.getElem_cons_succ, List.getElem_cons_zero]
  go_simp
  refine hK.out _ _ ?_
  clear hK K
  try simp (maxSteps := 2000000) only [List.getElem_toArray, List.getElem_cons_succ, List.getElem_cons_zero, Act.put, List.setIfInBounds_toArray, List.set_cons_zero, List.set_cons_succ]
  refine wpAnyL_done (by kernel_rfl) ?_ _
  go_wp2_with fail
  have c26 := b26.set 0 (.slice B n d1)
  have c27 := c26.set 1 (.slice B' n' d2)
  have z0 := c27.cell 0
  have z1 := c27.cell 1
  simp only [List.setIfInBounds_toArray, List.set_cons_zero, List.set_cons_succ, List.getElem?_toArray, List.getElem?_cons_zero, List.getElem?_cons_succ] at z0 z1
  refine bodyPost_ret (v := .agg #[.slice B n d1, .slice B' n' d2]) (by simp [results, Tryz.results63, go_sem, *]) rfl ?_
  have m0 : ∀ (R : List Nat) (Q : Option Addr) (N : Nat) (j : Nat) (v : Value) (W : World), RdL ByR 1 (fun j => wA.drew.heap.size ≤ j) W Q N R → RdL ByR 1 (fun j => wA.drew.heap.size ≤ j) (W.setCell ⟨p + 1, j, none⟩ v) Q N R := fun R Q N j v W h => h.setCell ByR.stable (by show ¬ _ ≤ p + 1; omega) _
  have hw : ∀ j, w5.heap.size ≤ j → w.heap.size ≤ j := fun j hj => by omega
  refine ⟨B, d1, B', d2, rfl, hd1, hd2, RdL.weaken ByR.stable (m0 _ _ _ _ _ _ (m0 _ _ _ _ _ _ HR56.out)) (fun j hj => by have h9 : wA.drew.heap.size ≤ j := hj; show _ ≤ j; omega), RdL.weaken ByR.stable (m0 _ _ _ _ _ _ (m0 _ _ _ _ _ _ (HR6.out.weaken ByR.stable (fun j hj => by have h9 : w5.heap.size ≤ j := hj; show _ ≤ j; omega)))) (fun j hj => by have h9 : wA.drew.heap.size ≤ j := hj; show _ ≤ j; omega), (HB6.out.setCell (by show _ ≤ p + 1; omega) _).setCell (by show _ ≤ p + 1; omega) _⟩
set_option maxRecDepth 100000 in
set_option maxHeartbeats 8000000 in
theorem less_any {w : World} {c n n' nb nb' c1 c2 c3 c4 : Nat} {A A' B B' : Option Addr} {S1 S2 S3 S4 : Nat → Prop} {xs ys us vs : List Nat} (hc : c < 256) (R1 : RdL ByR 1 S1 w A n xs) (R2 : RdL ByR 1 S2 w A' n' ys) (R3 : RdL ByR 1 S3 w B nb us) (R4 : RdL ByR 1 S4 w B' nb' vs) (h1 : n ≤ 1000000) (h2 : n' ≤ 1000000) (h3 : nb ≤ 1000000) (h4 : nb' ≤ 1000000) :
    Calls Tryz.prog 64 #[.agg #[.slice A n c1, .slice A' n' c2], .int .u8 (c : Int), .agg #[.slice B nb c3, .slice B' nb' c4]] w fun e w' => ∃ C d1 C' d2, e = .returned (.agg #[.slice C n d1, .slice C' n' d2]) ∧ n ≤ d1 ∧ n' ≤ d2 ∧
      RdL ByR 1 (fun j => w.heap.size ≤ j) w' C n (fd c us xs) ∧ RdL ByR 1 (fun j => w.heap.size ≤ j) w' C' n' (fd c vs ys) ∧ Below w.heap.size w w' := by
  have H1 := Lib.hid R1
  have H2 := Lib.hid R2
  have H3 := Lib.hid R3
  have H4 := Lib.hid R4
  clear R1 R2 R3 R4
  go_enter Tryz.func64, Tryz.ntmps64
  go_wp2_with fail
  have b1 := ((BoxAt.new w #[.slice A n c1, .slice A' n' c2] 94).alloc (.cells #[.slice B nb c3, .slice B' nb' c4] 94)).alloc (.cells #[.slice none 0 0, .slice none 0 0] 94)
  have b2 := (BoxAt.new (w.alloc (.cells #[.slice A n c1, .slice A' n' c2] 94)) #[.slice B nb c3, .slice B' nb' c4] 94).alloc (.cells #[.slice none 0 0, .slice none 0 0] 94)
  have b3 := BoxAt.new ((w.alloc (.cells #[.slice A n c1, .slice A' n' c2] 94)).alloc (.cells #[.slice B nb c3, .slice B' nb' c4] 94)) #[.slice none 0 0, .slice none 0 0] 94
  have hb0 : Below w.heap.size w (((w.alloc (.cells #[.slice A n c1, .slice A' n' c2] 94)).alloc (.cells #[.slice B nb c3, .slice B' nb' c4] 94)).alloc (.cells #[.slice none 0 0, .slice none 0 0] 94)) := (((Below.refl _ _).alloc (Nat.le_refl _) _).alloc (by rw [World.size_alloc]; omega) _).alloc (by rw [World.size_alloc, World.size_alloc]; omega) _
  have hs0 : (((w.alloc (.cells #[.slice A n c1, .slice A' n' c2] 94)).alloc (.cells #[.slice B nb c3, .slice B' nb' c4] 94)).alloc (.cells #[.slice none 0 0, .slice none 0 0] 94)).heap.size = w.heap.size + 3 := by rw [World.size_alloc, World.size_alloc, World.size_alloc]
  rw [World.size_alloc] at b2
  rw [World.size_alloc, World.size_alloc] at b3
  generalize ((w.alloc (.cells #[.slice A n c1, .slice A' n' c2] 94)).alloc (.cells #[.slice B nb c3, .slice B' nb' c4] 94)).alloc (.cells #[.slice none 0 0, .slice none 0 0] 94) = wA at *
  obtain ⟨p, hp⟩ : ∃ p, w.heap.size = p := ⟨_, rfl⟩
  rw [hp] at b1 b2 b3 hs0 ⊢
  have s0 : wA.drew.cell? ⟨p, 0, none⟩ = some (.slice A n c1) ∧ wA.drew.cell? ⟨p, 1, none⟩ = some (.slice A' n' c2) ∧ wA.drew.cell? ⟨p + 1, 0, none⟩ = some (.slice B nb c3) ∧ wA.drew.cell? ⟨p + 1, 1, none⟩ = some (.slice B' nb' c4) := ⟨b1.cell 0, b1.cell 1, b2.cell 0, b2.cell 1⟩
  have b1d : BoxAt wA.drew p #[.slice A n c1, .slice A' n' c2] := b1.keep rfl
  have b2d : BoxAt wA.drew (p + 1) #[.slice B nb c3, .slice B' nb' c4] := b2.keep rfl
  have b3d : BoxAt wA.drew (p + 1 + 1) #[.slice none 0 0, .slice none 0 0] := b3.keep rfl
  have hbd : Below w.heap.size w wA.drew := hb0.drew
  have hsd : wA.drew.heap.size = p + 3 := hs0
  have hc1 := rfold_any (w := wA.drew) (c1 := c3) (c2 := c1) hc (H3.out.below ByR.stable hbd) (H1.out.below ByR.stable hbd) h3 h1
  clear b1 b2 b3 hb0 hs0
  refine wp_region_L (S := fun w' => w'.cell? ⟨p, 0, none⟩ = some (.slice A n c1) ∧ w'.cell? ⟨p, 1, none⟩ = some (.slice A' n' c2) ∧ w'.cell? ⟨p + 1, 0, none⟩ = some (.slice B nb c3) ∧ w'.cell? ⟨p + 1, 1, none⟩ = some (.slice B' nb' c4)) [13] (by kernel_rfl) (by first | exact s0 | exact s5 | exact s6) (fun hHeld => ?_)
  refine wpAnyL_take (i := 0) (v := ?_) rfl (by kernel_rfl) (by kernel_rfl) (by kernel_rfl) (by kernel_rfl) (fun _ _ _ h => h) (Or.inl ⟨by first | kernel_rfl | rfl, ?_⟩) (by assumption) ?_
  rotate_left
  · (intro wq0 hSw; (try dsimp only at hSw); (try simp (maxSteps := 2000000) only [List.getElem_toArray, List.getElem_cons_succ, List.getElem_cons_zero]); go_simp); try with_reducible rfl
  try simp (maxSteps := 2000000) only [List.getElem_toArray, List.getElem_cons_succ, List.getElem_cons_zero, Act.put, List.setIfInBounds_toArray, List.set_cons_zero, List.set_cons_succ]
  refine wpAnyL_take (i := 1) (v := ?_) rfl (by kernel_rfl) (by kernel_rfl) (by kernel_rfl) (by kernel_rfl) (fun _ _ _ h => h) (Or.inl ⟨by first | kernel_rfl | rfl, ?_⟩) (by assumption) ?_
  rotate_left
  · (intro wq0 hSw; (try dsimp only at hSw); (try simp (maxSteps := 2000000) only [List.getElem_toArray, List.getElem_cons_succ, List.getElem_cons_zero]); go_simp); try with_reducible rfl
  try simp (maxSteps := 2000000) only [List.getElem_toArray, List.getElem_cons_succ, List.getElem_cons_zero, Act.put, List.setIfInBounds_toArray, List.set_cons_zero, List.set_cons_succ]
  refine wpAnyL_take (i := 2) (v := ?_) rfl (by kernel_rfl) (by kernel_rfl) (by kernel_rfl) (by kernel_rfl) (fun _ _ _ h => h) (Or.inl ⟨by first | kernel_rfl | rfl, ?_⟩) (by assumption) ?_
  rotate_left
  · (intro wq0 hSw; (try dsimp only at hSw); (try simp (maxSteps := 2000000) only [List.getElem_toArray, List.getElem_cons_succ, List.getElem_cons_zero]); go_simp); try with_reducible rfl
  try simp (maxSteps := 2000000) only [List.getElem_toArray, List.getElem_cons_succ, List.getElem_cons_zero, Act.put, List.setIfInBounds_toArray, List.set_cons_zero, List.set_cons_succ]
  refine wpAnyL_take (i := 3) (v := ?_) rfl (by kernel_rfl) (by kernel_rfl) (by kernel_rfl) (by kernel_rfl) (fun _ _ _ h => h) (Or.inl ⟨by first | kernel_rfl | rfl, ?_⟩) (by assumption) ?_
  rotate_left
  · (intro wq0 hSw; (try dsimp only at hSw); (try simp (maxSteps := 2000000) only [List.getElem_toArray, List.getElem_cons_succ, List.getElem_cons_zero]); go_simp); try with_reducible rfl
  try simp (maxSteps := 2000000) only [List.getElem_toArray, List.getElem_cons_succ, List.getElem_cons_zero, Act.put, List.setIfInBounds_toArray, List.set_cons_zero, List.set_cons_succ]
  refine wpAnyL_take (i := 4) (v := ?_) rfl (by kernel_rfl) (by kernel_rfl) (by kernel_rfl) (by kernel_rfl) (fun _ _ _ h => h) (Or.inl ⟨by first | kernel_rfl | rfl, ?_⟩) (by assumption) ?_
  rotate_left
  · (intro wq0 hSw; (try dsimp only at hSw); (try simp (maxSteps := 2000000) only [List.getElem_toArray, List.getElem_cons_succ, List.getElem_cons_zero]); go_simp); try with_reducible rfl
  try simp (maxSteps := 2000000) only [List.getElem_toArray, List.getElem_cons_succ, List.getElem_cons_zero, Act.put, List.setIfInBounds_toArray, List.set_cons_zero, List.set_cons_succ]
  refine wpAnyL_take (i := 6) (v := ?_) rfl (by kernel_rfl) (by kernel_rfl) (by kernel_rfl) (by kernel_rfl) (fun _ _ _ h => h) (Or.inl ⟨by first | kernel_rfl | rfl, ?_⟩) (by assumption) ?_
  rotate_left
  · (intro wq0 hSw; (try dsimp only at hSw); (try simp (maxSteps := 2000000) only [List.getElem_toArray, List.getElem_cons_succ, List.getElem_cons_zero]); go_simp); try with_reducible rfl
  try simp (maxSteps := 2000000) only [List.getElem_toArray, List.getElem_cons_succ, List.getElem_cons_zero, Act.put, List.setIfInBounds_toArray, List.set_cons_zero, List.set_cons_succ]
  refine wpAnyL_take (i := 7) (v := ?_) rfl (by kernel_rfl) (by kernel_rfl) (by kernel_rfl) (by kernel_rfl) (fun _ _ _ h => h) (Or.inl ⟨by first | kernel_rfl | rfl, ?_⟩) (by assumption) ?_
  rotate_left
  · (intro wq0 hSw; (try dsimp only at hSw); (try simp (maxSteps := 2000000) only [List.getElem_toArray, List.getElem_cons_succ, List.getElem_cons_zero]); go_simp); try with_reducible rfl
  try simp (maxSteps := 2000000) only [List.getElem_toArray, List.getElem_cons_succ, List.getElem_cons_zero, Act.put, List.setIfInBounds_toArray, List.set_cons_zero, List.set_cons_succ]
  refine wpAnyL_take (i := 8) (v := ?_) rfl (by kernel_rfl) (by kernel_rfl) (by kernel_rfl) (by kernel_rfl) (fun _ _ _ h => h) (Or.inl ⟨by first | kernel_rfl | rfl, ?_⟩) (by assumption) ?_
  rotate_left
  · (intro wq0 hSw; (try dsimp only at hSw); (try simp (maxSteps := 2000000) only [List.getElem_toArray, List.getElem_cons_succ, List.getElem_cons_zero]); go_simp); try with_reducible rfl
  try simp (maxSteps := 2000000) only [List.getElem_toArray, List.getElem_cons_succ, List.getElem_cons_zero, Act.put, List.setIfInBounds_toArray, List.set_cons_zero, List.set_cons_succ]
  refine wpAnyL_take (i := 9) (v := ?_) rfl (by kernel_rfl) (by kernel_rfl) (by kernel_rfl) (by kernel_rfl) (fun _ _ _ h => h) (Or.inl ⟨by first | kernel_rfl | rfl, ?_⟩) (by assumption) ?_
  rotate_left
  · (intro wq0 hSw; (try dsimp only at hSw); (try simp (maxSteps := 2000000) only [List.getElem_toArray, List.getElem_cons_succ, List.getElem_cons_zero]); go_simp); try with_reducible rfl
  try simp (maxSteps := 2000000) only [List.getElem_toArray, List.getElem_cons_succ, List.getElem_cons_zero, Act.put, List.setIfInBounds_toArray, List.set_cons_zero, List.set_cons_succ]
  refine wpAnyL_take (i := 10) (v := ?_) rfl (by kernel_rfl) (by kernel_rfl) (by kernel_rfl) (by kernel_rfl) (fun _ _ _ h => h) (Or.inl ⟨by first | kernel_rfl | rfl, ?_⟩) (by assumption) ?_
  rotate_left
  · (intro wq0 hSw; (try dsimp only at hSw); (try simp (maxSteps := 2000000) only [List.getElem_toArray, List.getElem_cons_succ, List.getElem_cons_zero]); go_simp); try with_reducible rfl
  try simp (maxSteps := 2000000) only [List.getElem_toArray, List.getElem_cons_succ, List.getElem_cons_zero, Act.put, List.setIfInBounds_toArray, List.set_cons_zero, List.set_cons_succ]
  refine wpAnyL_ready (rs := [5]) (by kernel_rfl) (by simp) ?_
  refine AllReadyL.cons rfl (fun K hK => ?_) AllReadyL.nil
  try simp (maxSteps := 2000000) only [List.getElem_toArray, List.getElem_cons_succ, List.getElem_cons_zero]
  go_simp
  go_at_call 14
  refine hc1.mono ?_
  rintro e w5 ⟨C, d1, rfl, hd1, hr5, hb5⟩
  have b15 := b1d.below hb5
  have b25 := b2d.below hb5
  have b35 := b3d.below hb5
  have s5 : w5.cell? ⟨p, 0, none⟩ = some (.slice A n c1) ∧ w5.cell? ⟨p, 1, none⟩ = some (.slice A' n' c2) ∧ w5.cell? ⟨p + 1, 0, none⟩ = some (.slice B nb c3) ∧ w5.cell? ⟨p + 1, 1, none⟩ = some (.slice B' nb' c4) := ⟨b15.cell 0, b15.cell 1, b25.cell 0, b25.cell 1⟩
  have hs5 := hb5.size
  have hbw : Below w.heap.size w w5 := hbd.trans (hb5.mono hbd.size)
  have hc2 := rfold_any (w := w5) (c1 := c4) (c2 := c2) hc (H4.out.below ByR.stable hbw) (H2.out.below ByR.stable hbw) h4 h2
  have HR5 := Lib.hid hr5
  clear hc1 hb5 hr5 b1d b2d b3d hbd
  try (go_wp2_with fail)
  refine hK.out _ _ (by first | exact s0 | exact s5 | exact s6) (fun hHeld => ?_)
  clear hK K
  try simp (maxSteps := 2000000) only [List.getElem_toArray, List.getElem_cons_succ, List.getElem_cons_zero, Act.put, List.setIfInBounds_toArray, List.set_cons_zero, List.set_cons_succ]
  refine wpAnyL_ready (rs := [11]) (by kernel_rfl) (by simp) ?_
  refine AllReadyL.cons rfl (fun K hK => ?_) AllReadyL.nil
  try simp (maxSteps := 2000000) only [List.getElem_toArray, List.getElem_cons_succ, List.getElem_cons_zero]
  go_simp
  go_at_call 14
  refine hc2.mono ?_
  rintro e w6 ⟨C', d2, rfl, hd2, hr6, hb6⟩
  have b16 := b15.below hb6
  have b26 := b25.below hb6
  have b36 := b35.below hb6
  have s6 : w6.cell? ⟨p, 0, none⟩ = some (.slice A n c1) ∧ w6.cell? ⟨p, 1, none⟩ = some (.slice A' n' c2) ∧ w6.cell? ⟨p + 1, 0, none⟩ = some (.slice B nb c3) ∧ w6.cell? ⟨p + 1, 1, none⟩ = some (.slice B' nb' c4) := ⟨b16.cell 0, b16.cell 1, b26.cell 0, b26.cell 1⟩
  have k0 := b36.cell 0
  have k1 := b36.cell 1
  have f0 := b36.frozen 0
  have f1 := b36.frozen 1
  have HR56 := Lib.hid (HR5.out.below ByR.stable hb6)
  have HR6 := Lib.hid hr6
  have HB6 := Lib.hid (hbw.trans (hb6.mono hbw.size))
  have hs6 := hb6.size
  clear hc2 hb6 hr6 b15 b25 b35 HR5 hbw
  try (go_wp2_with fail)
  refine hK.out _ _ (by first | exact s0 | exact s5 | exact s6) (fun hHeld => ?_)
  clear hK K
  try simp (maxSteps := 2000000) only [List.getElem_toArray, List.getElem_cons_succ, List.getElem_cons_zero, Act.put, List.setIfInBounds_toArray, List.set_cons_zero, List.set_cons_succ]
  refine wpAnyL_take (i := 12) (v := ?_) rfl (by kernel_rfl) (by kernel_rfl) (by kernel_rfl) (by kernel_rfl) (fun _ _ _ h => h) (Or.inl ⟨by first | kernel_rfl | rfl, ?_⟩) (by assumption) ?_
  rotate_left
  · (intro wq0 hSw; (try dsimp only at hSw); (try simp (maxSteps := 2000000) only [List.getElem_toArray, List.getElem_cons_succ, List.getElem_cons_zero]); go_simp); try with_reducible rfl
  try simp (maxSteps := 2000000) only [List.getElem_toArray, List.getElem_cons_succ, List.getElem_cons_zero, Act.put, List.setIfInBounds_toArray, List.set_cons_zero, List.set_cons_succ]
  refine wpAnyL_ready (rs := [13]) (by kernel_rfl) (by simp) ?_
  refine AllReadyL.last rfl (by decide) (fun K hK => ?_) AllReadyL.nil
  try simp (maxSteps := 2000000) only [List.getElem_toArray, List.getElem_cons_succ, List.getElem_cons_zero]
  go_simp
  refine hK.out _ _ ?_
  clear hK K
  try simp (maxSteps := 2000000) only [List.getElem_toArray, List.getElem_cons_succ, List.getElem_cons_zero, Act.put, List.setIfInBounds_toArray, List.set_cons_zero, List.set_cons_succ]
  refine wpAnyL_done (by kernel_rfl) ?_ _
  go_wp2_with fail
  have c26 := b36.set 0 (.slice C n d1)
  have c27 := c26.set 1 (.slice C' n' d2)
  have z0 := c27.cell 0
  have z1 := c27.cell 1
  simp only [List.setIfInBounds_toArray, List.set_cons_zero, List.set_cons_succ, List.getElem?_toArray, List.getElem?_cons_zero, List.getElem?_cons_succ] at z0 z1
  refine bodyPost_ret (v := .agg #[.slice C n d1, .slice C' n' d2]) (by simp [results, Tryz.results64, go_sem, *]) rfl ?_
  have m0 : ∀ (R : List Nat) (Q : Option Addr) (N : Nat) (j : Nat) (v : Value) (W : World), RdL ByR 1 (fun j => wA.drew.heap.size ≤ j) W Q N R → RdL ByR 1 (fun j => wA.drew.heap.size ≤ j) (W.setCell ⟨p + 1 + 1, j, none⟩ v) Q N R := fun R Q N j v W h => h.setCell ByR.stable (by show ¬ _ ≤ p + 1 + 1; omega) _
  refine ⟨C, d1, C', d2, rfl, hd1, hd2, RdL.weaken ByR.stable (m0 _ _ _ _ _ _ (m0 _ _ _ _ _ _ HR56.out)) (fun j hj => by have h9 : wA.drew.heap.size ≤ j := hj; show _ ≤ j; omega), RdL.weaken ByR.stable (m0 _ _ _ _ _ _ (m0 _ _ _ _ _ _ (HR6.out.weaken ByR.stable (fun j hj => by have h9 : w5.heap.size ≤ j := hj; show _ ≤ j; omega)))) (fun j hj => by have h9 : wA.drew.heap.size ≤ j := hj; show _ ≤ j; omega), (HB6.out.setCell (by show _ ≤ p + 1 + 1; omega) _).setCell (by show _ ≤ p + 1 + 1; omega) _⟩
end Go.Proofs.YthhljmlpjnkfgaaGreat

set_option linter.unusedSimpArgs false
set_option linter.unusedVariables false
namespace Go.Proofs.YthhljmlpjnkfgaaGreat
open Go.RowKit Go.Cib
attribute [local go_sem] cell_set Later.cell Later.frozen Grw.cell Grw.frozen
section
variable {k m n N : Nat} {us : List Nat} {ss : Rws}
theorem planF_data (hul : us.length = k) (hI : Inj k (useF k us)) {t j : Nat} (ht : t < k) (hj : j < k) : gt (planF k us t) j = invE (useF k us) k t j := by
  rw [planF_gt hul hI t j hj]
  rw [sumx_cong (g := fun l => gm (dl t l) (invE (useF k us) k l j)) fun l hl => by unfold fac; rw [if_pos ht]; rfl]
  exact sum_dl ht (invE_lt (useF_shp hul) hI ht)
theorem madeF_len (us2 ws : List Nat) : (madeF ws us2 ss n).length = n ∧ Byt (madeF ws us2 ss n) := combF_ok _ _ _ (by simp) (byt_zeros n)
theorem madeF_gt (hul : us.length = k) (hI : Inj k (useF k us)) (hlen : ∀ u ∈ us, (ra ss u).length = n) (i p : Nat) : gt (madeF (planF k us i) us ss n) p = sumx (fun j => gm (gt (planF k us i) j) (gt (ra ss (gt us j)) p)) k := by
  have hpl := planF_len hul hI i
  have hrl : ∀ r ∈ us.map (ra ss), r.length = n := fun r hr => by
    obtain ⟨u, hu, rfl⟩ := List.mem_map.1 hr
    exact hlen u hu
  unfold madeF
  rw [combF_gt (n := n) _ _ _ (by rw [hpl, List.length_map, hul]) (by simp) hrl, gt_zeros, Nat.zero_xor, hpl]
  exact sumx_cong fun j hj => by rw [ra_map (by omega)]
/-- A row that is there is made as it is. -/
theorem made_self (hul : us.length = k) (hI : Inj k (useF k us)) (hlen : ∀ u ∈ us, (ra ss u).length = n) (hby : ∀ u ∈ us, Byt (ra ss u)) {v : Nat} (hv : v < k) : madeF (planF k us (gt us v)) us ss n = ra ss (gt us v) := by
  have hm : gt us v ∈ us := gt_mem (by omega)
  refine gt_ext (by rw [(madeF_len us _).1, hlen _ hm]) fun p _ => ?_
  rw [madeF_gt hul hI hlen]
  rw [sumx_cong (g := fun j => gm (dl v j) (gt (ra ss (gt us j)) p)) fun j hj => by
    rw [planF_gt hul hI _ j hj, ← inv_right (useF_shp hul) hI hv hj]
    congr 1
    refine sumx_cong fun l hl => ?_
    unfold useF
    rw [ra_map (by omega), rowF_at hl]]
  exact sum_dl hv (gt_lt (hby _ hm) _)
/-- What is made of the rows is what the code makes of the data that is made of the rows. -/
theorem made_code (hul : us.length = k) (hI : Inj k (useF k us)) (hlen : ∀ u ∈ us, (ra ss u).length = n) (hby : ∀ u ∈ us, Byt (ra ss u)) {D : Rws} (hD : Shp k n D) (hDm : ∀ t, t < k → ra D t = madeF (planF k us t) us ss n) (i : Nat) :
    codeRow k n D i = madeF (planF k us i) us ss n := by
  refine gt_ext (by rw [(madeF_len us _).1, (codeRow_ok hD i).1]) fun p _ => ?_
  rw [codeRow_gt hD, madeF_gt hul hI hlen]
  rw [sumx_cong (g := fun l => sumx (fun j => gm (gm (fac k i l) (invE (useF k us) k l j)) (gt (ra ss (gt us j)) p)) k) fun l hl => by
    rw [hDm l hl, madeF_gt hul hI hlen, sumx_mul (fun i => gm_lt)]
    exact sumx_cong fun j hj => by rw [planF_data hul hI hl hj, gm_assoc]]
  rw [sumx_swap]
  refine sumx_cong fun j hj => ?_
  rw [planF_gt hul hI i j hj, gm_sum (fun i => gm_lt)]
end
section
variable {k m : Nat} {ss : Rws}
theorem one_fill (hb : thBad k m (k + m) ss = false) (hl : (thU ss (k + m)).length = k) (hk : 1 ≤ k) (hkm : k + m ≤ 255) (hby : ∀ u, Byt (ra ss u)) {i : Nat} (hi : i < k + m) :
    fillOne k (useT k (k + m) ss) ss (lenF ss (gt (useT k (k + m) ss) 0)) i = madeF (planF k (useT k (k + m) ss) i) (useT k (k + m) ss) ss (lenF ss (gt (useT k (k + m) ss) 0)) := by
  have hf : ¬ (thU ss (k + m)).length < k := by omega
  obtain ⟨_, hul, huse⟩ := use_ok hb hf hk
  have hI := inj_useT hb hf hk hkm
  unfold fillOne
  split
  · rename_i hp
    have he : useT k (k + m) ss = thU ss (k + m) := by unfold useT; rw [List.take_of_length_le (by omega)]
    have hin : i ∈ useT k (k + m) ss := by rw [he]; unfold thU; rw [List.mem_filter, List.mem_range]; exact ⟨hi, by simpa using hp⟩
    obtain ⟨v, hv, hvi⟩ := List.mem_iff_getElem.1 hin
    have hg : gt (useT k (k + m) ss) v = i := by rw [← hvi]; unfold gt; rw [List.getD_eq_getElem?_getD, List.getElem?_eq_getElem hv]; rfl
    have := made_self hul hI (n := lenF ss (gt (useT k (k + m) ss) 0)) (fun u hu => (huse u hu).2) (fun u _ => hby u) (v := v) (by omega)
    rw [hg] at this
    exact this.symm
  · rfl
/-- All of just k rows is what the code makes of the data of them. -/
theorem one_out (hb : thBad k m (k + m) ss = false) (hl : (thU ss (k + m)).length = k) (hk : 1 ≤ k) (hkm : k + m ≤ 255) (hby : ∀ u, Byt (ra ss u)) :
    Shp k (lenF ss (gt (useT k (k + m) ss) 0)) (outF k (k + m) k ss) ∧ outF k (k + m) (k + m) ss = allR k (lenF ss (gt (useT k (k + m) ss) 0)) (outF k (k + m) k ss) (k + m) := by
  have hf : ¬ (thU ss (k + m)).length < k := by omega
  obtain ⟨_, hul, huse⟩ := use_ok hb hf hk
  have hI := inj_useT hb hf hk hkm
  have hfi := fun (i : Nat) (hi : i < k + m) => one_fill hb hl hk hkm hby hi
  have hra : ∀ t, t < k → ra (outF k (k + m) k ss) t = madeF (planF k (useT k (k + m) ss) t) (useT k (k + m) ss) ss (lenF ss (gt (useT k (k + m) ss) 0)) := fun t ht => by
    rw [← hfi t (by omega)]
    exact ra_some (by unfold outF; rw [List.getElem?_map, List.getElem?_range ht]; rfl)
  have hD : Shp k (lenF ss (gt (useT k (k + m) ss) 0)) (outF k (k + m) k ss) := by
    refine ⟨by unfold outF; simp, fun r hr => ?_⟩
    unfold outF at hr
    obtain ⟨t, ht, rfl⟩ := List.mem_map.1 hr
    rw [hfi t (by have := List.mem_range.1 ht; omega)]
    exact madeF_len _ _
  refine ⟨hD, ?_⟩
  show (List.range (k + m)).map _ = (List.range (k + m)).map _
  refine List.map_congr_left fun i hi => ?_
  have hi := List.mem_range.1 hi
  rw [hfi i hi, made_code hul hI (fun u hu => (huse u hu).2) (fun u _ => hby u) hD hra i]
theorem out_there {N nr j : Nat} (hj : j < nr) (hp : 0 < lenF ss j) : ra (outF k N nr ss) j = ra ss j := by
  refine ra_some ?_
  unfold outF
  rw [List.getElem?_map, List.getElem?_range hj]
  show some (fillOne _ _ _ _ _) = _
  unfold fillOne
  rw [if_pos hp]
theorem out_take {N nr : Nat} (h : k ≤ nr) : (outF k N nr ss).take k = outF k N k ss := by
  unfold outF
  rw [← List.map_take, List.take_range, Nat.min_eq_left h]
end
end Go.Proofs.YthhljmlpjnkfgaaGreat

set_option linter.unusedSimpArgs false
set_option linter.unusedVariables false
namespace Go.Proofs.YthhljmlpjnkfgaaGreat
open Go.RowKit Go.Cib
attribute [local go_sem] cell_set Later.cell Later.frozen Grw.cell Grw.frozen

theorem inj_of {n : Nat} {a b : Rws} (h : ∀ y, Ann n n b y ↔ Ann n n a y) (hI : Inj n a) : Inj n b := fun x h1 h2 h3 => hI x h1 h2 ((h x).1 h3)
theorem sc_set {j c : Nat} {a : Rws} (hj : j < a.length) : a.set j (sc c (ra a j)) = scF j c a := by
  refine ra_ext (by rw [List.length_set, scF_len]) fun i hi => ?_
  rw [List.length_set] at hi
  rw [ra_set _ _ _ hi, scF_ra _ _ hi]
  split
  · rename_i h; subst h; rfl
  · rfl
theorem el_set {i j col : Nat} {a : Rws} (hi : i < a.length) : a.set i (fd (gt (ra a i) col) (ra a j) (ra a i)) = elF (fun x => decide (x = i)) j col a := by
  refine ra_ext (by rw [List.length_set, elF_len]) fun l hl => ?_
  rw [List.length_set] at hl
  rw [ra_set _ _ _ hl, elF_ra _ _ _ hl]
  by_cases h : l = i
  · subst h; rw [if_pos rfl, if_pos (by simp)]
  · rw [if_neg h, if_neg (by simpa using h)]
/-- What the equations say: of factors and rows, with the data. -/
structure Says (k n : Nat) (D fs rs : Rws) : Prop where
  fsh : Shp k k fs
  rsh : Shp k n rs
  inj : Inj k fs
  eq : ∀ i, i < k → ∀ p, p < n → gt (ra rs i) p = dt k (ra fs i) (fun t => gt (ra D t) p)
section
variable {k n : Nat} {D fs rs : Rws}
theorem Says.swap (h : Says k n D fs rs) {i j : Nat} (hi : i < k) (hj : j < k) : Says k n D (swF fs i j) (swF rs i j) := by
  refine ⟨swF_shp h.fsh hi hj, swF_shp h.rsh hi hj, inj_of (fun y => swF_ann h.fsh.1 hi hj y) h.inj, fun l hl p hp => ?_⟩
  rw [swF_ra _ _ _ (by rw [h.rsh.1]; exact hl), swF_ra _ _ _ (by rw [h.fsh.1]; exact hl)]
  split
  · exact h.eq i hi p hp
  · split
    · exact h.eq j hj p hp
    · exact h.eq l hl p hp
theorem Says.scale (h : Says k n D fs rs) {j c : Nat} (hj : j < k) (hc : c ≠ 0) : Says k n D (fs.set j (sc c (ra fs j))) (rs.set j (sc c (ra rs j))) := by
  rw [sc_set (by rw [h.fsh.1]; exact hj), sc_set (by rw [h.rsh.1]; exact hj)]
  refine ⟨scF_shp h.fsh, scF_shp h.rsh, inj_of (fun y => scF_ann h.fsh.1 hc y) h.inj, fun l hl p hp => ?_⟩
  rw [scF_ra _ _ (by rw [h.rsh.1]; exact hl), scF_ra _ _ (by rw [h.fsh.1]; exact hl)]
  split
  · rw [sc_gt, dt_sc, h.eq l hl p hp]
  · exact h.eq l hl p hp
theorem Says.less (h : Says k n D fs rs) {i j : Nat} (hi : i < k) (hj : j < k) (hij : i ≠ j) (col : Nat) :
    Says k n D (fs.set i (fd (gt (ra fs i) col) (ra fs j) (ra fs i))) (rs.set i (fd (gt (ra fs i) col) (ra rs j) (ra rs i))) := by
  have hf : fs.set i (fd (gt (ra fs i) col) (ra fs j) (ra fs i)) = elF (fun x => decide (x = i)) j col fs := el_set (by rw [h.fsh.1]; exact hi)
  refine ⟨?_, .of (by rw [List.length_set, h.rsh.1]) fun l hl => ?_, ?_, fun l hl p hp => ?_⟩
  · rw [hf]; exact elF_shp h.fsh
  · rw [ra_set _ _ _ (by rw [h.rsh.1]; exact hl)]
    split
    · exact ⟨by rw [fd_len]; exact (h.rsh.row hi).1, fd_byt _ _ _ (h.rsh.row hi).2⟩
    · exact h.rsh.row hl
  · rw [hf]
    exact inj_of (fun y => elF_ann h.fsh hj (decide_eq_false (fun e => hij e.symm)) y) h.inj
  · rw [ra_set _ _ _ (by rw [h.rsh.1]; exact hl), ra_set _ _ _ (by rw [h.fsh.1]; exact hl)]
    split
    · rw [fd_gt2 _ _ _ _ (by rw [(h.rsh.row hi).1]; exact hp), dt_fd _ (by rw [(h.fsh.row hi).1, (h.fsh.row hj).1]; exact Nat.le_refl _) (h.fsh.row hi).2, h.eq i hi p hp, h.eq j hj p hp]
    · exact h.eq l hl p hp
/-- A row whose factors are one and noughts is the data's. -/
theorem Says.unit (h : Says k n D fs rs) (hD : Shp k n D) {j : Nat} (hj : j < k) (hu : ∀ t, t < k → gt (ra fs j) t = dl j t) : ra rs j = ra D j := by
  refine gt_ext (by rw [(h.rsh.row hj).1, (hD.row hj).1]) fun p hp => ?_
  rw [(h.rsh.row hj).1] at hp
  rw [h.eq j hj p hp]
  unfold dt
  rw [sumx_cong (g := fun t => gm (dl j t) (gt (ra D t) p)) fun t ht => by rw [hu t ht]]
  exact sum_dl hj (ra_byt hD j p)

/-! ### From above down -/

/-- The rows before j are begun, and none behind it has anything before. Between j and i nothing is left of column j. -/
structure Mid (k j i : Nat) (fs : Rws) : Prop where
  tri : Tri k j fs
  one : gt (ra fs j) j = 1
  clr : ∀ l, j < l → l < i → gt (ra fs l) j = 0
theorem Mid.done {j : Nat} (hj : j < k) (h : Mid k j k fs) : Tri k (j + 1) fs := by
  refine ⟨fun i hi => ?_, fun i l h1 h2 => ?_, fun i l h1 h2 h3 => ?_⟩
  · by_cases e : i = j
    · subst e; exact h.one
    · exact h.tri.one i (by omega)
  · by_cases e : i = j
    · subst e
      exact h.tri.rest i l (Nat.le_refl _) hj h1
    · exact h.tri.low i l h1 (by omega)
  · by_cases e : l = j
    · subst e; exact h.clr i (by omega) h2
    · exact h.tri.rest i l (by omega) h2 (by omega)
/-- There is a row to begin with. -/
theorem Says.pivot (h : Says k n D fs rs) {j a : Nat} (hj : j < k) (T : Tri k j fs) (h0 : ∀ l, j ≤ l → l < a → gt (ra fs l) j = 0) (ha : a + 1 = k ∨ gt (ra fs a) j ≠ 0) : gt (ra fs a) j ≠ 0 := by
  rcases ha with ha | ha
  · intro hz
    obtain ⟨x, h1, h2, h3, h4⟩ := kern (m := k) hj T fun l hl hlk => by
      by_cases e : l = a
      · rw [e]; exact hz
      · exact h0 l hl (by omega)
    have := h.inj x h1 h2 h4 j
    omega
  · exact ha
theorem Tri.swap {j a : Nat} (hl : fs.length = k) (hj : j < k) (hja : j ≤ a) (ha : a < k) (T : Tri k j fs) : Tri k j (swF fs j a) ∧ gt (ra (swF fs j a) j) j = gt (ra fs a) j := by
  have e : ∀ i, i < k → ra (swF fs j a) i = if i = a then ra fs j else if i = j then ra fs a else ra fs i := fun i hi => swF_ra _ _ _ (by omega)
  refine ⟨⟨fun i hi => ?_, fun i l h1 h2 => ?_, fun i l h1 h2 h3 => ?_⟩, ?_⟩
  · rw [e i (by omega), if_neg (by omega), if_neg (by omega)]; exact T.one i hi
  · rw [e i (by omega), if_neg (by omega), if_neg (by omega)]; exact T.low i l h1 h2
  · rw [e i h2]
    split
    · exact T.rest j l (Nat.le_refl _) hj h3
    · split
      · exact T.rest a l hja ha h3
      · exact T.rest i l h1 h2 h3
  · rw [e j hj]
    split
    · rename_i h; subst h; rfl
    · rw [if_pos rfl]
theorem Tri.scaled {j : Nat} (hl : fs.length = k) (hj : j < k) (hb : Byt (ra fs j)) (T : Tri k j fs) (h0 : gt (ra fs j) j ≠ 0) : Mid k j (j + 1) (fs.set j (sc (dv 1 (gt (ra fs j) j)) (ra fs j))) := by
  have e : ∀ i, i < k → ra (fs.set j (sc (dv 1 (gt (ra fs j) j)) (ra fs j))) i = if i = j then sc (dv 1 (gt (ra fs j) j)) (ra fs j) else ra fs i := fun i hi => ra_set _ _ _ (by omega)
  refine ⟨⟨fun i hi => ?_, fun i l h1 h2 => ?_, fun i l h1 h2 h3 => ?_⟩, ?_, fun l h1 h2 => by omega⟩
  · rw [e i (by omega), if_neg (by omega)]; exact T.one i hi
  · rw [e i (by omega), if_neg (by omega)]; exact T.low i l h1 h2
  · rw [e i h2]
    split
    · rw [sc_gt, T.rest j l (Nat.le_refl _) hj h3, gm_zero]
    · exact T.rest i l h1 h2 h3
  · rw [e j hj, if_pos rfl, sc_gt]
    exact dv_mul (by omega) h0 (gt_lt hb _)
theorem Mid.less {j i : Nat} (hl : fs.length = k) (hj : j < k) (hji : j < i) (hi : i < k) (hlen : (ra fs j).length = (ra fs i).length) (hb : Byt (ra fs i)) (h : Mid k j i fs) : Mid k j (i + 1) (fs.set i (fd (gt (ra fs i) j) (ra fs j) (ra fs i))) := by
  have e : ∀ l, l < k → ra (fs.set i (fd (gt (ra fs i) j) (ra fs j) (ra fs i))) l = if l = i then fd (gt (ra fs i) j) (ra fs j) (ra fs i) else ra fs l := fun l hl2 => ra_set _ _ _ (by omega)
  have g : ∀ t, gt (fd (gt (ra fs i) j) (ra fs j) (ra fs i)) t = gt (ra fs i) t ^^^ gm (gt (ra fs i) j) (gt (ra fs j) t) := fun t => fd_gt _ _ _ _ (by omega)
  refine ⟨⟨fun l hl2 => ?_, fun l t h1 h2 => ?_, fun l t h1 h2 h3 => ?_⟩, ?_, fun l h1 h2 => ?_⟩
  · rw [e l (by omega), if_neg (by omega)]; exact h.tri.one l hl2
  · rw [e l (by omega), if_neg (by omega)]; exact h.tri.low l t h1 h2
  · rw [e l h2]
    split
    · rw [g, h.tri.rest i t (by omega) hi h3, h.tri.rest j t (Nat.le_refl _) hj h3, gm_zero]; rfl
    · exact h.tri.rest l t h1 h2 h3
  · rw [e j hj, if_neg (by omega)]; exact h.one
  · rw [e l (by omega)]
    split
    · rw [g, h.one, gm_one2 (gt_lt hb _), Nat.xor_self]
    · exact h.clr l h1 (by omega)

/-! ### From below up -/

structure Low (k j i : Nat) (fs : Rws) : Prop where
  tri : Tri k k fs
  col : ∀ c, j < c → c < k → ∀ l, l < c → gt (ra fs l) c = 0
  part : ∀ l, l < i → gt (ra fs l) j = 0
theorem Low.start {j : Nat} (T : Tri k k fs) (hj : j + 1 = k) : Low k j 0 fs := ⟨T, fun c h1 h2 => by omega, fun l h => by omega⟩
theorem Low.unit {j i : Nat} (hj : j < k) (h : Low k j i fs) {t : Nat} (ht : t < k) : gt (ra fs j) t = dl j t := by
  unfold dl
  split
  · rename_i e; subst e; exact h.tri.one j hj
  · rename_i e
    by_cases h1 : t < j
    · exact h.tri.low j t h1 hj
    · exact h.col t (by omega) ht j (by omega)
theorem Low.less {j i : Nat} (hl : fs.length = k) (hj : j < k) (hij : i < j) (hlen : (ra fs j).length = k) (hlen2 : (ra fs i).length = k) (hb : Byt (ra fs i)) (h : Low k j i fs) : Low k j (i + 1) (fs.set i (fd (gt (ra fs i) j) (ra fs j) (ra fs i))) := by
  have e : ∀ l, l < k → ra (fs.set i (fd (gt (ra fs i) j) (ra fs j) (ra fs i))) l = if l = i then fd (gt (ra fs i) j) (ra fs j) (ra fs i) else ra fs l := fun l hl2 => ra_set _ _ _ (by omega)
  have g : ∀ t, t < k → gt (fd (gt (ra fs i) j) (ra fs j) (ra fs i)) t = gt (ra fs i) t ^^^ gm (gt (ra fs i) j) (dl j t) := fun t ht => by rw [fd_gt _ _ _ _ (by omega), h.unit hj ht]
  have g2 : ∀ t, t < k → t ≠ j → gt (fd (gt (ra fs i) j) (ra fs j) (ra fs i)) t = gt (ra fs i) t := fun t ht hne => by
    rw [g t ht]; unfold dl; rw [if_neg (fun e => hne e.symm), gm_zero, Nat.xor_zero]
  have g3 : gt (fd (gt (ra fs i) j) (ra fs j) (ra fs i)) j = 0 := by
    rw [g j hj]; unfold dl; rw [if_pos rfl, gm_one2 (gt_lt hb _), Nat.xor_self]
  refine ⟨⟨fun l hl2 => ?_, fun l t h1 h2 => ?_, fun l t h1 h2 h3 => by omega⟩, fun c h1 h2 l h3 => ?_, fun l h1 => ?_⟩
  · rw [e l hl2]
    split
    · rename_i e9; subst e9; rw [g2 l hl2 (by omega)]; exact h.tri.one l hl2
    · exact h.tri.one l hl2
  · rw [e l h2]
    split
    · rename_i e9; subst e9; rw [g2 t (by omega) (by omega)]; exact h.tri.low l t h1 h2
    · exact h.tri.low l t h1 h2
  · rw [e l (by omega)]
    split
    · rename_i e9; subst e9; rw [g2 c h2 (by omega)]; exact h.col c h1 h2 l h3
    · exact h.col c h1 h2 l h3
  · rw [e l (by omega)]
    split
    · exact g3
    · exact h.part l (by omega)
theorem Low.next {j : Nat} (h : Low k (j + 1) (j + 1) fs) : Low k j 0 fs := ⟨h.tri, fun c h1 h2 l h3 => by
  by_cases e : c = j + 1
  · subst e; exact h.part l h3
  · exact h.col c (by omega) h2 l h3, fun l h => by omega⟩
end
end Go.Proofs.YthhljmlpjnkfgaaGreat

set_option linter.unusedSimpArgs false
set_option linter.unusedVariables false
namespace Go.Proofs.YthhljmlpjnkfgaaGreat
open Go.RowKit Go.Cib
attribute [local go_sem] cell_set Later.cell Later.frozen Grw.cell Grw.frozen
section
variable {k m n N : Nat} {us : List Nat} {ss : Rws}
theorem in_use (hkN : k ≤ N) {i : Nat} (hi : i < k) (hp : 0 < lenF ss i) : i ∈ useT k N ss := by
  obtain ⟨d, rfl⟩ : ∃ d, N = k + d := ⟨N - k, by omega⟩
  have e : thU ss (k + d) = thU ss k ++ ((List.range d).map (k + ·)).filter fun j => decide (0 < lenF ss j) := by
    unfold thU
    rw [List.range_add, List.filter_append]
  unfold useT
  rw [e, List.take_append]
  refine List.mem_append_left _ ?_
  rw [List.take_of_length_le (thU_len ss k)]
  unfold thU
  rw [List.mem_filter, List.mem_range]
  exact ⟨hi, by simpa using hp⟩
theorem fill_made (hul : us.length = k) (hI : Inj k (useF k us)) (hlen : ∀ u ∈ us, (ra ss u).length = n) (hby : ∀ u ∈ us, Byt (ra ss u)) {i : Nat} (hi : 0 < lenF ss i → i ∈ us) : fillOne k us ss n i = madeF (planF k us i) us ss n := by
  unfold fillOne
  split
  · rename_i hp
    obtain ⟨v, hv, hvi⟩ := List.mem_iff_getElem.1 (hi hp)
    have hg : gt us v = i := by rw [← hvi]; unfold gt; rw [List.getD_eq_getElem?_getD, List.getElem?_eq_getElem hv]; rfl
    have := made_self hul hI hlen hby (v := v) (by omega)
    rw [hg] at this
    exact this.symm
  · rfl
/-- What comes of rows: the data, of which the code makes them; all rows. -/
theorem tell_out (hb : thBad k m (k + m) ss = false) (hf : ¬ (thU ss (k + m)).length < k) (hk : 1 ≤ k) (hkm : k + m ≤ 255) (hby : ∀ u, Byt (ra ss u)) (hn : lenF ss (gt (useT k (k + m) ss) 0) = n) :
    Shp k n (outF k (k + m) k ss) ∧ Says k n (outF k (k + m) k ss) ((useT k (k + m) ss).map (rowF k)) ((useT k (k + m) ss).map (ra ss)) ∧
      ∀ i, i < k + m → ra (outF k (k + m) (k + m) ss) i = if 0 < lenF ss i then ra ss i else codeRow k n (outF k (k + m) k ss) i := by
  obtain ⟨_, hul, huse⟩ := use_ok hb hf hk
  have hI := inj_useT hb hf hk hkm
  subst hn
  have hra : ∀ t, t < k → ra (outF k (k + m) k ss) t = madeF (planF k (useT k (k + m) ss) t) (useT k (k + m) ss) ss (lenF ss (gt (useT k (k + m) ss) 0)) := fun t ht => by
    rw [← fill_made hul hI (fun u hu => (huse u hu).2) (fun u _ => hby u) (i := t) (fun hp => in_use (by omega) ht hp)]
    exact ra_some (by unfold outF; rw [List.getElem?_map, List.getElem?_range ht]; rfl)
  have hD : Shp k (lenF ss (gt (useT k (k + m) ss) 0)) (outF k (k + m) k ss) := .of (by unfold outF; simp) fun t ht => by rw [hra t ht]; exact madeF_len _ _
  have hmc := fun i => made_code hul hI (fun u hu => (huse u hu).2) (fun u _ => hby u) hD hra i
  refine ⟨hD, ⟨.of (by rw [List.length_map, hul]) fun i hi => ?_, .of (by rw [List.length_map, hul]) fun i hi => ?_, hI, fun i hi p hp => ?_⟩, fun i hi => ?_⟩
  · rw [ra_map (by omega)]
    refine ⟨rowF_len .., fun x hx => ?_⟩
    obtain ⟨j, _, rfl⟩ := List.mem_map.1 hx
    exact fac_lt2 _ _ _
  · rw [ra_map (by omega)]
    exact ⟨(huse _ (gt_mem (by omega))).2, hby _⟩
  · rw [ra_map (by omega), ra_map (by omega), ← made_self hul hI (fun u hu => (huse u hu).2) (fun u _ => hby u) (v := i) hi, ← hmc, codeRow_gt hD]
    unfold dt
    exact sumx_cong fun l hl => by rw [rowF_at hl]
  · rw [hmc]
    exact ra_some (by unfold outF; rw [List.getElem?_map, List.getElem?_range hi]; rfl)
end
end Go.Proofs.YthhljmlpjnkfgaaGreat

set_option linter.unusedSimpArgs false
set_option linter.unusedVariables false
namespace Go.Proofs.YthhljmlpjnkfgaaGreat
open Go.RowKit Go.Cib
attribute [local go_sem] cell_set Later.cell Later.frozen Grw.cell Grw.frozen

structure EqAt (w : World) (g : Nat) (S : Nat → Prop) (k : Nat) (fs rs : Rws) : Prop where
  cur : ∃ cur : Array Value, BoxAt w g cur ∧ ∀ i, i < k → ∃ A m c A' m' c', cur[i * 2]? = some (.slice A m c) ∧ cur[i * 2 + 1]? = some (.slice A' m' c') ∧ m ≤ c ∧ m' ≤ c' ∧ RdL ByR 1 S w A m (ra fs i) ∧ RdL ByR 1 S w A' m' (ra rs i)
  ne : ∀ b, S b → b ≠ g
  fl : fs.length = k
  rl : rs.length = k
section
variable {w w' : World} {g k : Nat} {S : Nat → Prop} {fs rs : Rws}
theorem EqAt.lt (h : EqAt w g S k fs rs) : g < w.heap.size := by
  obtain ⟨cur, h1, _⟩ := h.cur
  exact h1.lt
theorem EqAt.below (h : EqAt w g S k fs rs) (hb : Below w.heap.size w w') : EqAt w' g S k fs rs := by
  obtain ⟨cur, h1, h2⟩ := h.cur
  refine ⟨⟨cur, h1.below hb, fun i hi => ?_⟩, h.ne, h.fl, h.rl⟩
  obtain ⟨A, m, c, A', m', c', e1, e2, e3, e4, e5, e6⟩ := h2 i hi
  exact ⟨A, m, c, A', m', c', e1, e2, e3, e4, e5.below ByR.stable hb, e6.below ByR.stable hb⟩
theorem EqAt.more (h : EqAt w g S k fs rs) {S' : Nat → Prop} (hS : ∀ b, S b → b < w.heap.size → S' b) (hn : ∀ b, S' b → b ≠ g) : EqAt w g S' k fs rs := by
  obtain ⟨cur, h1, h2⟩ := h.cur
  refine ⟨⟨cur, h1, fun i hi => ?_⟩, hn, h.fl, h.rl⟩
  obtain ⟨A, m, c, A', m', c', e1, e2, e3, e4, e5, e6⟩ := h2 i hi
  exact ⟨A, m, c, A', m', c', e1, e2, e3, e4, e5.stable ByR.stable fun b hb hl => ⟨hS b hb hl, rfl⟩, e6.stable ByR.stable fun b hb hl => ⟨hS b hb hl, rfl⟩⟩
/-- One of them. -/
theorem EqAt.at (h : EqAt w g S k fs rs) {i : Nat} (hi : i < k) : ∃ A m c A' m' c', w.cell? ⟨g, i * 2, none⟩ = some (.slice A m c) ∧ w.cell? ⟨g, i * 2 + 1, none⟩ = some (.slice A' m' c') ∧
    w.frozen? ⟨g, i * 2, none⟩ = false ∧ w.frozen? ⟨g, i * 2 + 1, none⟩ = false ∧ m ≤ c ∧ m' ≤ c' ∧ RdL ByR 1 S w A m (ra fs i) ∧ RdL ByR 1 S w A' m' (ra rs i) := by
  obtain ⟨cur, h1, h2⟩ := h.cur
  obtain ⟨A, m, c, A', m', c', e1, e2, e3, e4, e5, e6⟩ := h2 i hi
  exact ⟨A, m, c, A', m', c', (h1.cell _).trans e1, (h1.cell _).trans e2, h1.frozen _, h1.frozen _, e3, e4, e5, e6⟩
theorem EqAt.set (h : EqAt w g S k fs rs) {i m c m' c' : Nat} {A A' : Option Addr} {f r : List Nat} (hi : i < k) (hc : m ≤ c) (hc' : m' ≤ c') (hf : RdL ByR 1 S w A m f) (hr : RdL ByR 1 S w A' m' r) :
    EqAt ((w.setCell ⟨g, i * 2, none⟩ (.slice A m c)).setCell ⟨g, i * 2 + 1, none⟩ (.slice A' m' c')) g S k (fs.set i f) (rs.set i r) := by
  obtain ⟨cur, h1, h2⟩ := h.cur
  obtain ⟨A0, m0, c0, A0', m0', c0', d1, d2, _⟩ := h2 i hi
  have z1 : i * 2 < cur.size := (Array.getElem?_eq_some_iff.1 d1).1
  have z2 : i * 2 + 1 < cur.size := (Array.getElem?_eq_some_iff.1 d2).1
  have mv : ∀ {B : Option Addr} {N : Nat} {x : List Nat}, RdL ByR 1 S w B N x → RdL ByR 1 S ((w.setCell ⟨g, i * 2, none⟩ (.slice A m c)).setCell ⟨g, i * 2 + 1, none⟩ (.slice A' m' c')) B N x := fun hx =>
    (hx.setCell ByR.stable (p := ⟨g, i * 2, none⟩) (fun hs => h.ne _ hs rfl) _).setCell ByR.stable (p := ⟨g, i * 2 + 1, none⟩) (fun hs => h.ne _ hs rfl) _
  refine ⟨⟨_, (h1.set (i * 2) _).set (i * 2 + 1) _, fun j hj => ?_⟩, h.ne, by rw [List.length_set, h.fl], by rw [List.length_set, h.rl]⟩
  rw [ra_set _ _ _ (by rw [h.fl]; exact hj), ra_set _ _ _ (by rw [h.rl]; exact hj)]
  by_cases e : j = i
  · subst e
    rw [if_pos rfl, if_pos rfl, set_ne (by omega), set_eq z1, set_eq (by rw [Array.size_setIfInBounds]; exact z2)]
    exact ⟨A, m, c, A', m', c', rfl, rfl, hc, hc', mv hf, mv hr⟩
  · rw [if_neg e, if_neg e, set_ne (by omega), set_ne (by omega), set_ne (by omega), set_ne (by omega)]
    obtain ⟨A1, m1, c1, A1', m1', c1', e1, e2, e3, e4, e5, e6⟩ := h2 j hj
    exact ⟨A1, m1, c1, A1', m1', c1', e1, e2, e3, e4, mv e5, mv e6⟩
theorem EqAt.drew (h : EqAt w g S k fs rs) : EqAt w.drew g S k fs rs := h.below (Below.refl _ _).drew
end
/-- What an append made of a row of equations. -/
theorem EqAt.own {t : TypeId} {base k c g : Nat} {w : World} {es : List (List Nat × List Nat)} (h : OwnL EqR t 2 base (fun _ => True) w (.slice (some ⟨g, 0, none⟩) k c) k es) (hk : 0 < k) : EqAt w g (· ≠ g) k (es.map (·.1)) (es.map (·.2)) := by
  obtain ⟨css, h1, h2, h3, h4, h5⟩ := h
  obtain ⟨hl, h1⟩ := h1
  rcases h1 with ⟨_, h0⟩ | ⟨g', cap, cur, hv, hg, hblk, hnc, hcm, hsz, ht⟩
  · omega
  · injection hv with hv _ _
    injection hv with hv
    injection hv with hv
    subst hv
    refine ⟨⟨cur, ⟨_, hblk⟩, fun i hi => ?_⟩, fun b hb => hb, by rw [List.length_map, h2], by rw [List.length_map, h2]⟩
    obtain ⟨A, m, c', A', m', c'', e1, e2, e3, e4, e5⟩ := h5 i css[i] es[i] (List.getElem?_eq_getElem (by omega)) (List.getElem?_eq_getElem (by omega))
    have hfl : ∀ j, j < 2 → cur[i * 2 + j]? = css[i][j]? := fun j hj => by
      have q1 : (cur.toList.take (k * 2))[i * 2 + j]? = cur[i * 2 + j]? := by
        rw [List.getElem?_take, if_pos (by omega)]; simp
      rw [← q1, ht]
      have gen : ∀ (l : List (List Value)) (i : Nat) (hi : i < l.length), (∀ cs ∈ l, cs.length = 2) → l.flatten[i * 2 + j]? = (l[i])[j]? := by
        intro l
        induction l with
        | nil => intro i hi; simp at hi
        | cons a l ih =>
          intro i hi hall
          have ha := hall a (List.mem_cons_self ..)
          rw [List.flatten_cons]
          cases i with
          | zero => rw [List.getElem?_append_left (by omega)]; simp
          | succ i =>
            rw [List.getElem?_append_right (by omega), ha, show (i + 1) * 2 + j - 2 = i * 2 + j by omega]
            exact ih i (by simpa using hi) (fun cs hcs => hall cs (List.mem_cons_of_mem _ hcs))
      exact gen css i (by omega) h4
    have q0 := hfl 0 (by omega)
    have q1 := hfl 1 (by omega)
    rw [e1] at q0 q1
    refine ⟨A, m, c', A', m', c'', q0, q1, e2, e3, ?_, ?_⟩
    · rw [ra_some (show (es.map (·.1))[i]? = some es[i].1 by rw [List.getElem?_map, List.getElem?_eq_getElem (by omega)]; rfl)]
      exact e4.weaken ByR.stable fun b hb he => hb.2 (by rw [he]; rfl)
    · rw [ra_some (show (es.map (·.2))[i]? = some es[i].2 by rw [List.getElem?_map, List.getElem?_eq_getElem (by omega)]; rfl)]
      exact e5.weaken ByR.stable fun b hb he => hb.2 (by rw [he]; rfl)
end Go.Proofs.YthhljmlpjnkfgaaGreat

set_option linter.unusedSimpArgs false
set_option linter.unusedVariables false
namespace Go.Proofs.YthhljmlpjnkfgaaGreat
open Go.RowKit Go.Cib
attribute [local go_sem] cell_set Later.cell Later.frozen Grw.cell Grw.frozen
section
variable {w w' : World} {g go k n : Nat} {S : Nat → Prop} {fs rs rows : Rws}
theorem EqAt.other (h : EqAt w g S k fs rs) {p : Addr} (hg : g ≠ p.block) (hS : ¬ S p.block) (v : Value) : EqAt (w.setCell p v) g S k fs rs := by
  obtain ⟨cur, h1, h2⟩ := h.cur
  refine ⟨⟨cur, h1.set_other hg v, fun i hi => ?_⟩, h.ne, h.fl, h.rl⟩
  obtain ⟨A, m, c, A', m', c', e1, e2, e3, e4, e5, e6⟩ := h2 i hi
  exact ⟨A, m, c, A', m', c', e1, e2, e3, e4, e5.setCell ByR.stable hS v, e6.setCell ByR.stable hS v⟩
structure OutS (w : World) (S : Nat → Prop) (go n : Nat) (rows : Rws) : Prop where
  cur : ∃ cur : Array Value, BoxAt w go cur ∧ n ≤ cur.size ∧ ∀ i, i < n → ∃ A m c, cur[i]? = some (.slice A m c) ∧ m ≤ c ∧ RdL ByR 1 S w A m (ra rows i)
  len : rows.length = n
  ne : ∀ b, S b → b ≠ go
theorem OutS.below (h : OutS w S go n rows) (hb : Below w.heap.size w w') : OutS w' S go n rows := by
  obtain ⟨cur, h1, h2, h3⟩ := h.cur
  refine ⟨⟨cur, h1.below hb, h2, fun i hi => ?_⟩, h.len, h.ne⟩
  obtain ⟨A, m, c, e1, e2, e3⟩ := h3 i hi
  exact ⟨A, m, c, e1, e2, e3.below ByR.stable hb⟩
theorem OutS.lt (h : OutS w S go n rows) : go < w.heap.size := by
  obtain ⟨cur, h1, _⟩ := h.cur
  exact h1.lt
theorem OutS.cellx (h : OutS w S go n rows) {i : Nat} (hi : i < n) : (∃ v, w.cell? ⟨go, i, none⟩ = some v) ∧ w.frozen? ⟨go, i, none⟩ = false := by
  obtain ⟨cur, h1, h2, h3⟩ := h.cur
  obtain ⟨A, m, c, e1, _⟩ := h3 i hi
  exact ⟨⟨_, (h1.cell i).trans e1⟩, h1.frozen i⟩
theorem OutS.other (h : OutS w S go n rows) {p : Addr} (hg : go ≠ p.block) (hS : ¬ S p.block) (v : Value) : OutS (w.setCell p v) S go n rows := by
  obtain ⟨cur, h1, h2, h3⟩ := h.cur
  refine ⟨⟨cur, h1.set_other hg v, h2, fun i hi => ?_⟩, h.len, h.ne⟩
  obtain ⟨A, m, c, e1, e2, e3⟩ := h3 i hi
  exact ⟨A, m, c, e1, e2, e3.setCell ByR.stable hS v⟩
theorem OutS.set (h : OutS w S go n rows) {i m c : Nat} {A : Option Addr} {r : List Nat} (hi : i < n) (hc : m ≤ c) (hr : RdL ByR 1 S w A m r) :
    OutS (w.setCell ⟨go, i, none⟩ (.slice A m c)) S go n (rows.set i r) := by
  obtain ⟨cur, h1, h2, h3⟩ := h.cur
  refine ⟨⟨_, h1.set i _, by rw [Array.size_setIfInBounds]; exact h2, fun k hk => ?_⟩, by rw [List.length_set, h.len], h.ne⟩
  rw [ra_set _ _ _ (by rw [h.len]; exact hk)]
  by_cases e : k = i
  · subst e
    rw [if_pos rfl, set_eq (by omega)]
    exact ⟨A, m, c, rfl, hc, hr.setCell ByR.stable (fun hs => h.ne _ hs rfl) _⟩
  · rw [if_neg e, set_ne (fun h => e h.symm)]
    obtain ⟨A1, m1, c1, e1, e2, e3⟩ := h3 k hk
    exact ⟨A1, m1, c1, e1, e2, e3.setCell ByR.stable (fun hs => h.ne _ hs rfl) _⟩
theorem OutS.rd (h : OutS w S go n rows) : RdL RowR 1 (fun _ => True) w (some ⟨go, 0, none⟩) n rows := by
  obtain ⟨cur, h1, h2, h3⟩ := h.cur
  refine ⟨h.len, fun _ => ⟨go, 0, rfl, trivial, h1.lt, fun i x hx => ?_⟩⟩
  have hi : i < n := by rw [← h.len]; exact (List.getElem?_eq_some_iff.1 hx).1
  obtain ⟨A, m, c, e1, e2, e3⟩ := h3 i hi
  rw [ra_some hx] at e3
  refine ⟨[.slice A m c], rfl, ⟨A, m, c, rfl, e2, e3.weaken ByR.stable fun _ _ => trivial⟩, fun j v hj => ?_⟩
  rcases j with _ | j
  · simp at hj; subst hj
    rw [show 0 + i * 1 + 0 = i by omega]
    exact (h1.cell i).trans e1
  · simp at hj
theorem OutS.made (w : World) (S : Nat → Prop) (n : Nat) (t : TypeId) (hS : ∀ b, S b → b ≠ w.heap.size) : OutS (w.alloc (.cells (Array.replicate n (.slice none 0 0)) t)) S w.heap.size n (List.replicate n []) := by
  refine ⟨⟨_, BoxAt.new _ _ _, by simp, fun i hi => ⟨none, 0, 0, by rw [Array.getElem?_replicate, if_pos hi], Nat.le_refl _, ?_⟩⟩, by simp, hS⟩
  rw [ra_some (show (List.replicate n ([] : List Nat))[i]? = some [] by rw [List.getElem?_replicate, if_pos hi])]
  exact RdL.nil
/-- Nothing is left behind and above column j. -/
structure Col (k j : Nat) (fs : Rws) : Prop where
  tri : Tri k k fs
  col : ∀ c, j ≤ c → c < k → ∀ l, l < c → gt (ra fs l) c = 0
theorem Col.low {j : Nat} (h : Col k (j + 1) fs) : Low k j 0 fs := ⟨h.tri, fun c h1 h2 => h.col c (by omega) h2, fun l h => by omega⟩
theorem Low.done {j : Nat} (h : Low k j j fs) : Col k j fs := ⟨h.tri, fun c h1 h2 l h3 => by
  by_cases e : c = j
  · subst e; exact h.part l h3
  · exact h.col c (by omega) h2 l h3⟩
end
end Go.Proofs.YthhljmlpjnkfgaaGreat
