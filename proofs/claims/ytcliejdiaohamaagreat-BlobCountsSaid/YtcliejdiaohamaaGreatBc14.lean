/-
  A value's stripes as the document names them.
  May a blob be, as the document says?
  A number put as few bytes.
  A value's name as bytes.
  Law 15's page's example.
-/
import Derived.Test.YtcliejdiaohamaaGreatBc13
import Derived.Test.YtcliejdiaohamaaGreatBc8
set_option linter.unusedSimpArgs false
set_option linter.unusedVariables false
namespace Go.Proofs.YtcliejdiaohamaaGreat
open Go.RowKit Go.Cib
attribute [local go_sem] cell_set Later.cell Later.frozen Grw.cell Grw.frozen
set_option maxRecDepth 100000 in
set_option maxHeartbeats 8000000 in
theorem rrefs_any {w : World} {S : Nat → Prop} {A : Option Addr} {n c : Nat} {gen size : Int} {ps : List Int} (R : RdL IntR 1 S w A n ps) (hn : n ≤ 1000) (hnc : n ≤ c) :
    Calls Tryz.prog 34 #[.agg (blobC A n c gen size)] w fun e w' => ∃ A' c', e = .returned (.slice A' n c') ∧ n ≤ c' ∧ RdL RefR 3 (fun j => w.heap.size ≤ j) w' A' n (refL gen ps) ∧ Below w.heap.size w w' := by
  have hb0 : Below w.heap.size w (w.alloc (.cells (blobC A n c gen size) 61)) := (Below.refl _ _).alloc (Nat.le_refl _) _
  have bB := BoxAt.new w (blobC A n c gen size) 61
  have hpl := R.1
  have q2 : (n : Int) ≤ 1000 := by omega
  unfold blobC at hb0 bB ⊢
  have HPL := Lib.hid hpl
  have HR := Lib.hid R
  clear R hpl
  go_enter Tryz.func34, Tryz.ntmps34
  obtain ⟨w1, hw1⟩ : ∃ w1, w.alloc (.cells #[.slice A n c, .int .u64 gen, .int .i64 size] 61) = w1 := ⟨_, rfl⟩
  obtain ⟨q, hq⟩ : ∃ q, w.heap.size = q := ⟨_, rfl⟩
  rw [hw1] at hb0 bB
  rw [hq] at bB
  have hqw : q < w1.heap.size := bB.lt
  go_wp2_with fail
  have HB0 := Lib.hid hb0
  have BB := Lib.hid bB
  have HQ := Lib.hid hq
  clear hb0 bB hq hw1
  go_loopw [3, 4] (fun vo vi wr => ∃ (i : Nat) (A2 : Option Addr) (c2 : Nat), i ≤ n ∧ vi = .int .i64 i ∧ vo = .slice A2 i c2 ∧ i ≤ c2 ∧ Hid (OwnL RefR 41 3 w1.heap.size (fun j => w1.heap.size ≤ j) wr (.slice A2 i c2) i ((refL gen ps).take i)) ∧ Hid (Below w1.heap.size w1 wr)) (fun _ vi _ => n - (intOf vi).toNat)
  case atStart => exact ⟨0, none, 0, Nat.zero_le _, rfl, rfl, Nat.le_refl _, Lib.hid (by exact OwnL.nil_), Lib.hid (Below.refl _ _)⟩
  case round =>
    obtain ⟨i, A2, c2, hi, rfl, rfl, hc2, HO, HB⟩ := hrel
    have p0 : (0 : Int) ≤ (i : Int) := Int.natCast_nonneg _
    have bBr := BB.out.below HB.out
    have k0 := bBr.cell 0
    by_cases hlt : i < n
    · have p1 : (i : Int) < (n : Int) := by omega
      obtain ⟨ba, oa, rfl, _, hba⟩ := HR.out.addr hlt
      obtain ⟨x, hx, v1⟩ := int_at1 HR.out hlt
      have HSN := Lib.hid (refL_snoc (gen := gen) hx)
      have f1 : IntKind.u64.wrap (i : Int) = (i : Int) := by rw [IntKind.wrap_u64]; omega
      have f2 : IntKind.u64.wrap (gen + (i : Int)) = u64w (gen + (i : Int)) := by rw [IntKind.wrap_u64]; rfl
      obtain ⟨g, hg⟩ : ∃ g, u64w (gen + (i : Int)) = g := ⟨_, rfl⟩
      rw [hg] at f2 HSN
      have hbw : Below w.heap.size w wr := HB0.out.trans (HB.out.mono HB0.out.size)
      have v2 := (hbw.cell (p := ⟨ba, oa + i, none⟩) hba).trans v1
      have hqr : q < wr.heap.size := bBr.lt
      have hbr : ba < wr.heap.size := Nat.lt_of_lt_of_le hba hbw.size
      have s0 : wr.drew.cell? ⟨q, 0, none⟩ = some (.slice (some ⟨ba, oa, none⟩) n c) ∧ wr.drew.cell? ⟨q, 1, none⟩ = some (.int .u64 gen) ∧ wr.drew.cell? ⟨ba, oa + i, none⟩ = some (.int .i64 x) := ⟨bBr.cell 0, bBr.cell 1, v2⟩
      have HBD := Lib.hid (HB.out.drew)
      have HOD := Lib.hid (HO.out.keep RefR.stable (w' := wr.drew) (Below.refl _ _).drew)
      have hszd := HBD.out.size
      clear hx v1 hg v2 hbw
      go_wp2_with fail
      refine wp_region_held_drew (S := fun w' => w'.cell? ⟨q, 0, none⟩ = some (.slice (some ⟨ba, oa, none⟩) n c) ∧ w'.cell? ⟨q, 1, none⟩ = some (.int .u64 gen) ∧ w'.cell? ⟨ba, oa + i, none⟩ = some (.int .i64 x)) (by kernel_rfl) (by first | exact s0 | exact s9 | exact ⟨(World.cell?_alloc_past _ _ _ hqr).trans s0.1, (World.cell?_alloc_past _ _ _ hqr).trans s0.2.1, (World.cell?_alloc_past _ _ _ hbr).trans s0.2.2⟩) (fun hHeld => ?_)
      refine wpAnyH_take (i := 0) (v := ?_) rfl (by kernel_rfl) (by kernel_rfl) (by kernel_rfl) (fun _ _ _ h => h) (Or.inl ⟨by first | kernel_rfl | rfl, ?_⟩) (by assumption) ?_
      rotate_left
      · (intro wq hSw; (try dsimp only at hSw); (try simp (maxSteps := 2000000) only [List.getElem_toArray, List.getElem_cons_succ, List.getElem_cons_zero]); go_simp); try with_reducible rfl
      try simp (maxSteps := 2000000) only [List.getElem_toArray, List.getElem_cons_succ, List.getElem_cons_zero, Act.put, List.setIfInBounds_toArray, List.set_cons_zero, List.set_cons_succ]
      refine wpAnyH_take (i := 1) (v := ?_) rfl (by kernel_rfl) (by kernel_rfl) (by kernel_rfl) (fun _ _ _ h => h) (Or.inl ⟨by first | kernel_rfl | rfl, ?_⟩) (by assumption) ?_
      rotate_left
      · (intro wq hSw; (try dsimp only at hSw); (try simp (maxSteps := 2000000) only [List.getElem_toArray, List.getElem_cons_succ, List.getElem_cons_zero]); go_simp); try with_reducible rfl
      try simp (maxSteps := 2000000) only [List.getElem_toArray, List.getElem_cons_succ, List.getElem_cons_zero, Act.put, List.setIfInBounds_toArray, List.set_cons_zero, List.set_cons_succ]
      refine wpAnyH_take (i := 2) (v := ?_) rfl (by kernel_rfl) (by kernel_rfl) (by kernel_rfl) (fun _ _ _ h => h) (Or.inl ⟨by first | kernel_rfl | rfl, ?_⟩) (by assumption) ?_
      rotate_left
      · (intro wq hSw; (try dsimp only at hSw); (try simp (maxSteps := 2000000) only [List.getElem_toArray, List.getElem_cons_succ, List.getElem_cons_zero]); go_simp); try with_reducible rfl
      try simp (maxSteps := 2000000) only [List.getElem_toArray, List.getElem_cons_succ, List.getElem_cons_zero, Act.put, List.setIfInBounds_toArray, List.set_cons_zero, List.set_cons_succ]
      refine wpAnyH_take (i := 3) (v := ?_) rfl (by kernel_rfl) (by kernel_rfl) (by kernel_rfl) (fun _ _ _ h => h) (Or.inl ⟨by first | kernel_rfl | rfl, ?_⟩) (by assumption) ?_
      rotate_left
      · (intro wq hSw; (try dsimp only at hSw); (try simp (maxSteps := 2000000) only [List.getElem_toArray, List.getElem_cons_succ, List.getElem_cons_zero]); go_simp); try with_reducible rfl
      try simp (maxSteps := 2000000) only [List.getElem_toArray, List.getElem_cons_succ, List.getElem_cons_zero, Act.put, List.setIfInBounds_toArray, List.set_cons_zero, List.set_cons_succ]
      refine wpAnyH_take (i := 4) (v := ?_) rfl (by kernel_rfl) (by kernel_rfl) (by kernel_rfl) (fun _ _ _ h => h) (Or.inl ⟨by first | kernel_rfl | rfl, ?_⟩) (by assumption) ?_
      rotate_left
      · (intro wq hSw; (try dsimp only at hSw); (try simp (maxSteps := 2000000) only [List.getElem_toArray, List.getElem_cons_succ, List.getElem_cons_zero]); go_simp); try with_reducible rfl
      try simp (maxSteps := 2000000) only [List.getElem_toArray, List.getElem_cons_succ, List.getElem_cons_zero, Act.put, List.setIfInBounds_toArray, List.set_cons_zero, List.set_cons_succ]
      refine wpAnyH_take (i := 5) (v := ?_) rfl (by kernel_rfl) (by kernel_rfl) (by kernel_rfl) (fun _ _ _ h => h) (Or.inl ⟨by first | kernel_rfl | rfl, ?_⟩) (by assumption) ?_
      rotate_left
      · (intro wq hSw; (try dsimp only at hSw); (try simp (maxSteps := 2000000) only [List.getElem_toArray, List.getElem_cons_succ, List.getElem_cons_zero]); go_simp); try with_reducible rfl
      try simp (maxSteps := 2000000) only [List.getElem_toArray, List.getElem_cons_succ, List.getElem_cons_zero, Act.put, List.setIfInBounds_toArray, List.set_cons_zero, List.set_cons_succ]
      refine wpAnyH_take (i := 6) (v := ?_) rfl (by kernel_rfl) (by kernel_rfl) (by kernel_rfl) (fun _ _ _ h => h) (Or.inl ⟨by first | kernel_rfl | rfl, ?_⟩) (by assumption) ?_
      rotate_left
      · (intro wq hSw; (try dsimp only at hSw); (try simp (maxSteps := 2000000) only [List.getElem_toArray, List.getElem_cons_succ, List.getElem_cons_zero]); go_simp); try with_reducible rfl
      try simp (maxSteps := 2000000) only [List.getElem_toArray, List.getElem_cons_succ, List.getElem_cons_zero, Act.put, List.setIfInBounds_toArray, List.set_cons_zero, List.set_cons_succ]
      refine wpAnyH_take (i := 7) (v := ?_) rfl (by kernel_rfl) (by kernel_rfl) (by kernel_rfl) (fun _ _ _ h => h) (Or.inl ⟨by first | kernel_rfl | rfl, ?_⟩) (by assumption) ?_
      rotate_left
      · (intro wq hSw; (try dsimp only at hSw); (try simp (maxSteps := 2000000) only [List.getElem_toArray, List.getElem_cons_succ, List.getElem_cons_zero]); go_simp); try with_reducible rfl
      try simp (maxSteps := 2000000) only [List.getElem_toArray, List.getElem_cons_succ, List.getElem_cons_zero, Act.put, List.setIfInBounds_toArray, List.set_cons_zero, List.set_cons_succ]
      refine wpAnyH_take (i := 8) (v := ?_) rfl (by kernel_rfl) (by kernel_rfl) (by kernel_rfl) (fun _ _ _ h => h) (Or.inl ⟨by first | kernel_rfl | rfl, ?_⟩) (by assumption) ?_
      rotate_left
      · (intro wq hSw; (try dsimp only at hSw); (try simp (maxSteps := 2000000) only [List.getElem_toArray, List.getElem_cons_succ, List.getElem_cons_zero]); go_simp); try with_reducible rfl
      try simp (maxSteps := 2000000) only [List.getElem_toArray, List.getElem_cons_succ, List.getElem_cons_zero, Act.put, List.setIfInBounds_toArray, List.set_cons_zero, List.set_cons_succ]
      refine wpAnyH_take (i := 9) (v := ?_) rfl (by kernel_rfl) (by kernel_rfl) (by kernel_rfl) (fun _ _ _ h => h) (Or.inl ⟨by first | kernel_rfl | rfl, ?_⟩) (by assumption) ?_
      rotate_left
      · (intro wq hSw; (try dsimp only at hSw); (try simp (maxSteps := 2000000) only [List.getElem_toArray, List.getElem_cons_succ, List.getElem_cons_zero]); go_simp); try with_reducible rfl
      try simp (maxSteps := 2000000) only [List.getElem_toArray, List.getElem_cons_succ, List.getElem_cons_zero, Act.put, List.setIfInBounds_toArray, List.set_cons_zero, List.set_cons_succ]
      refine wpAnyH_take (i := 10) (v := ?_) rfl (by kernel_rfl) (by kernel_rfl) (by kernel_rfl) (fun _ _ _ h => h) (Or.inl ⟨by first | kernel_rfl | rfl, ?_⟩) (by assumption) ?_
      rotate_left
      · (intro wq hSw; (try dsimp only at hSw); (try simp (maxSteps := 2000000) only [List.getElem_toArray, List.getElem_cons_succ, List.getElem_cons_zero]); go_simp); try with_reducible rfl
      try simp (maxSteps := 2000000) only [List.getElem_toArray, List.getElem_cons_succ, List.getElem_cons_zero, Act.put, List.setIfInBounds_toArray, List.set_cons_zero, List.set_cons_succ]
      refine wpAnyH_take (i := 11) (v := ?_) rfl (by kernel_rfl) (by kernel_rfl) (by kernel_rfl) (fun _ _ _ h => h) (Or.inl ⟨by first | kernel_rfl | rfl, ?_⟩) (by assumption) ?_
      rotate_left
      · (intro wq hSw; (try dsimp only at hSw); (try simp (maxSteps := 2000000) only [List.getElem_toArray, List.getElem_cons_succ, List.getElem_cons_zero]); go_simp); try with_reducible rfl
      try simp (maxSteps := 2000000) only [List.getElem_toArray, List.getElem_cons_succ, List.getElem_cons_zero, Act.put, List.setIfInBounds_toArray, List.set_cons_zero, List.set_cons_succ]
      refine wpAnyH_ready (rs := [12]) (by kernel_rfl) (by simp) ?_
      refine AllReadyH.cons rfl (fun K hK => ?_) AllReadyH.nil
      try simp (maxSteps := 2000000) only [List.getElem_toArray, List.getElem_cons_succ, List.getElem_cons_zero]
      go_simp
      refine hK.out _ _ (by first | exact s0 | exact s9 | exact ⟨(World.cell?_alloc_past _ _ _ hqr).trans s0.1, (World.cell?_alloc_past _ _ _ hqr).trans s0.2.1, (World.cell?_alloc_past _ _ _ hbr).trans s0.2.2⟩) (fun hHeld => ?_)
      clear hK K
      try simp (maxSteps := 2000000) only [List.getElem_toArray, List.getElem_cons_succ, List.getElem_cons_zero, Act.put, List.setIfInBounds_toArray, List.set_cons_zero, List.set_cons_succ]
      refine wpAnyH_ready (rs := [13]) (by kernel_rfl) (by simp) ?_
      refine AllReadyH.cons rfl (fun K hK => ?_) AllReadyH.nil
      refine step_law (by rfl) (wpList_push1 RefR.stable RefR.one sl_ref (by rfl) (by rfl) (base := w1.heap.size) (S := fun j => w1.heap.size ≤ j) (cs := #[.int .u8 3, .int .i64 x, .int .u64 g]) (y := (x, g)) (by rfl) (by rfl) HOD.out (by rfl) (by rfl) (by unfold maxLen; omega) (by omega) hszd ?_)
      intro A8 c8 u8 hc8 own9 hlt8 hb8 hat8
      refine And.intro rfl ?_
      have hb9 := HBD.out.trans hb8
      have bB9 := BB.out.below hb9
      have s9 : u8.to.cell? ⟨q, 0, none⟩ = some (.slice (some ⟨ba, oa, none⟩) n c) ∧ u8.to.cell? ⟨q, 1, none⟩ = some (.int .u64 gen) ∧ u8.to.cell? ⟨ba, oa + i, none⟩ = some (.int .i64 x) := ⟨bB9.cell 0, bB9.cell 1, (((HB0.out.trans (hb9.mono HB0.out.size)).cell (p := ⟨ba, oa + i, none⟩) hba).trans (int_at1 HR.out hlt).choose_spec.2).trans (by have h1 := (int_at1 HR.out hlt).choose_spec.2; have h2 := s0.2.2; have h3 := ((HB0.out.trans (HBD.out.mono HB0.out.size)).cell (p := ⟨ba, oa + i, none⟩) hba).trans h1; rw [h3] at h2; exact h2)⟩
      have HO9 := Lib.hid own9
      have HB9 := Lib.hid hb9
      clear own9 hb8 hlt8 hat8 hb9 bB9
      refine hK.out _ _ (by first | exact s0 | exact s9 | exact ⟨(World.cell?_alloc_past _ _ _ hqr).trans s0.1, (World.cell?_alloc_past _ _ _ hqr).trans s0.2.1, (World.cell?_alloc_past _ _ _ hbr).trans s0.2.2⟩) (fun hHeld => ?_)
      clear hK K
      try simp (maxSteps := 2000000) only [List.getElem_toArray, List.getElem_cons_succ, List.getElem_cons_zero, Act.put, List.setIfInBounds_toArray, List.set_cons_zero, List.set_cons_succ]
      refine wpAnyH_take (i := 14) (v := ?_) rfl (by kernel_rfl) (by kernel_rfl) (by kernel_rfl) (fun _ _ _ h => h) (Or.inl ⟨by first | kernel_rfl | rfl, ?_⟩) (by assumption) ?_
      rotate_left
      · (intro wq hSw; (try dsimp only at hSw); (try simp (maxSteps := 2000000) only [List.getElem_toArray, List.getElem_cons_succ, List.getElem_cons_zero]); go_simp); try with_reducible rfl
      try simp (maxSteps := 2000000) only [List.getElem_toArray, List.getElem_cons_succ, List.getElem_cons_zero, Act.put, List.setIfInBounds_toArray, List.set_cons_zero, List.set_cons_succ]
      refine wpAnyH_done (by kernel_rfl) ?_ _
      clear s0 s9 hHeld
      go_wp2_with fail
      exact ⟨⟨i + 1, A8, c8, by omega, by go_num, rfl, hc8, Lib.hid (by rw [HSN.out]; exact HO9.out), HB9⟩, by simp [intOf]; omega⟩
    · have p1 : ¬ (i : Int) < (n : Int) := by omega
      obtain rfl : i = n := by omega
      obtain ⟨A', c', e, _, hr⟩ := HO.out.rd (S' := fun j => w.heap.size ≤ j) (fun j hj => Nat.le_trans HB0.out.size hj) (fun cs x hx => hx)
      injection e with e1 _ e2
      subst e1; subst e2
      rw [List.take_of_length_le (by rw [refL_len, HPL.out]; exact Nat.le_refl _)] at hr
      have HR := Lib.hid hr
      have HBW := Lib.hid (HB0.out.trans (HB.out.mono HB0.out.size))
      clear hr
      go_wp2_with fail
      go_ret
      exact ⟨A2, c2, rfl, hc2, HR.out, HBW.out⟩
end Go.Proofs.YtcliejdiaohamaaGreat

set_option linter.unusedSimpArgs false
set_option linter.unusedVariables false
namespace Go.Proofs.YtcliejdiaohamaaGreat
open Go.RowKit Go.Cib
attribute [local go_sem] cell_set Later.cell Later.frozen Grw.cell Grw.frozen
theorem rcnt_b {w : World} {k : Nat} (k1 : 1 ≤ k) (k2 : k ≤ 255) {size : Int} (hs : size ≤ 1000000) : Calls Tryz.prog 36 #[.int .i64 (k : Int), .int .i64 size] w fun e w' => e = .returned (.int .i64 (cntI k size)) ∧ Below w.heap.size w w' := (rcnt_any k1 k2 hs).mono fun e w' ⟨h1, h2⟩ => ⟨h1, by rw [h2]; exact Below.refl _ _⟩
set_option maxRecDepth 100000 in
set_option maxHeartbeats 8000000 in
theorem rright_any {w : World} {k : Nat} (k1 : 1 ≤ k) (k2 : k ≤ 255) {S : Nat → Prop} {A : Option Addr} {n c : Nat} {gen size : Int} {ps : List Int} (R : RdL IntR 1 S w A n ps) (hn : n ≤ 1000000) :
    Calls Tryz.prog 38 #[.int .i64 (k : Int), .agg (blobC A n c gen size)] w fun e w' => e = .returned (.bool (rightB k ps size)) ∧ Below w.heap.size w w' := by
  have bB := BoxAt.new w (blobC A n c gen size) 61
  have hb1 : Below w.heap.size w (w.alloc (.cells (blobC A n c gen size) 61)) := (Below.refl _ _).alloc (Nat.le_refl _) _
  obtain ⟨w1, hw1⟩ : ∃ w1, w.alloc (.cells (blobC A n c gen size) 61) = w1 := ⟨_, rfl⟩
  obtain ⟨q, hq⟩ : ∃ q, w.heap.size = q := ⟨_, rfl⟩
  rw [hw1] at bB hb1
  rw [hq] at bB
  have hrc := fun hs => fun (y : Later w1.heap.size w1) => rcnt_b (w := y.to) k1 k2 (size := size) hs
  have HR1 := Lib.hid (R.below IntR.stable hb1)
  have hnl := R.1
  have HNL := Lib.hid hnl
  have HB1 := Lib.hid hb1
  have BB := Lib.hid bB
  have hql := bB.lt
  have c1 : w1.cell? ⟨q, 0, none⟩ = some (.slice A n c) ∧ w1.cell? ⟨q, 2, none⟩ = some (.int .i64 size) := ⟨bB.cell 0, bB.cell 2⟩
  have q2 : (n : Int) ≤ 1000000 := by omega
  clear R hnl hb1 bB
  unfold blobC at hw1 ⊢
  by_cases h0 : size < 0
  · have HF := Lib.hid (show rightB k ps size = false by unfold rightB; rw [decide_eq_false (by omega : ¬ 0 ≤ size)]; simp)
    have f0 : decide (size < 0) = true := decide_eq_true h0
    clear hrc
    go_enter Tryz.func38, Tryz.ntmps38
    go_wp2_with fail
    clear hw1
    refine wp_region_later (by kernel_rfl) (by kernel_rfl) ?_
    repeat (go_big_quiet_step (fail))
    refine wpQuiet_nil ?_
    rintro _ ⟨z, rfl⟩
    go_wp2_with fail
    go_ret
    exact ⟨by rw [HF.out]; rfl, HB1.out.trans (z.ok.mono HB1.out.size)⟩
  · have f0 : decide (size < 0) = false := decide_eq_false h0
    by_cases h4 : size > 400
    · have HF := Lib.hid (show rightB k ps size = false by unfold rightB; rw [decide_eq_false (by omega : ¬ size ≤ 400)]; simp)
      have f4 : decide (size > 400) = true := decide_eq_true h4
      clear hrc
      go_enter Tryz.func38, Tryz.ntmps38
      go_wp2_with fail
      clear hw1
      refine wp_region_later (by kernel_rfl) (by kernel_rfl) ?_
      repeat (go_big_quiet_step (fail))
      refine wpQuiet_nil ?_
      rintro _ ⟨z, rfl⟩
      go_wp2_with fail
      go_ret
      exact ⟨by rw [HF.out]; rfl, HB1.out.trans (z.ok.mono HB1.out.size)⟩
    · have f4 : decide (size > 400) = false := decide_eq_false h4
      have hrc2 := hrc (by omega)
      have hrb : rightB k ps size = (nonB ps && decide ((n : Int) = cntI k size)) := by unfold rightB; rw [decide_eq_true (by omega : 0 ≤ size), decide_eq_true (by omega : size ≤ 400), HNL.out, Bool.true_and, Bool.true_and]
      have HRB := Lib.hid hrb
      obtain ⟨ci, hci⟩ : ∃ ci, cntI k size = ci := ⟨_, rfl⟩
      rw [hci] at hrc2 HRB
      clear hrc hrb hci
      by_cases hcc : (n : Int) = ci
      · have g1 : ((n : Int) != ci) = false := by simp [hcc]
        have HCC := Lib.hid hcc
        clear hcc
        go_enter Tryz.func38, Tryz.ntmps38
        go_wp2_with fail
        clear hw1
        refine wp_region_later (by kernel_rfl) (by kernel_rfl) ?_
        repeat (go_big_quiet_step ((go_at_call 36; exact Later.call _ (hrc2 _) (Nat.le_refl _))))
        refine wpQuiet_nil ?_
        rintro _ ⟨z, rfl⟩
        clear hrc2
        go_wp2_with fail
        have HBZ := Lib.hid (HB1.out.trans (z.ok.mono HB1.out.size))
        have HRZ := Lib.hid (HR1.out.below IntR.stable z.ok)
        have cz : z.to.cell? ⟨q, 0, none⟩ = some (.slice A n c) := (z.ok.cell (p := ⟨q, 0, none⟩) hql).trans c1.1
        obtain ⟨wz, hwz⟩ : ∃ wz, z.to = wz := ⟨_, rfl⟩
        rw [hwz] at HBZ HRZ cz ⊢
        clear hwz z
        go_loopw [5] (fun vi wr => ∃ i : Nat, i ≤ n ∧ vi = .int .i64 (i : Int) ∧ wr = wz ∧ Hid (nonB (ps.take i) = true)) (fun vi _ => n - (intOf vi).toNat)
        case atStart => exact ⟨0, Nat.zero_le _, rfl, rfl, Lib.hid rfl⟩
        case round =>
          obtain ⟨i, hi, rfl, hwr, HI⟩ := hrel
          rw [hwr]
          clear hwr
          have p0 : (0 : Int) ≤ (i : Int) := Int.natCast_nonneg _
          by_cases hlt : i < n
          · have p1 : (i : Int) < (n : Int) := by omega
            obtain ⟨ba, oa, rfl, _, hba⟩ := HRZ.out.addr hlt
            obtain ⟨x, hx, v1⟩ := int_at1 HRZ.out hlt
            by_cases hneg : x < 0
            · have HF := Lib.hid (show rightB k ps size = false by unfold rightB; rw [nonB_no hx hneg]; rfl)
              clear hx
              go_wp2_with fail
              go_ret
              exact ⟨by rw [HF.out]; rfl, by first | exact HBZ.out | (rw [← hq]; exact HBZ.out)⟩
            · have HI2 := Lib.hid (show nonB (ps.take (i + 1)) = true by rw [nonB_take HI.out hx]; exact decide_eq_true (by omega))
              clear hx HI
              go_wp2_with fail
              exact ⟨⟨i + 1, by omega, by go_num, trivial, HI2⟩, by simp [intOf]; omega⟩
          · have p1 : ¬ (i : Int) < (n : Int) := by omega
            obtain rfl : i = n := by omega
            have HF := Lib.hid (show rightB k ps size = true by have h1 := HI.out; rw [List.take_of_length_le (by have := HNL.out; omega)] at h1; rw [HRB.out, h1, decide_eq_true HCC.out]; rfl)
            go_wp2_with fail
            go_ret
            exact ⟨by rw [HF.out]; rfl, by first | exact HBZ.out | (rw [← hq]; exact HBZ.out)⟩
      · have g1 : ((n : Int) != ci) = true := by simp [hcc]
        have HF := Lib.hid (show rightB k ps size = false by rw [HRB.out, decide_eq_false hcc]; simp)
        clear hcc
        go_enter Tryz.func38, Tryz.ntmps38
        go_wp2_with fail
        clear hw1
        refine wp_region_later (by kernel_rfl) (by kernel_rfl) ?_
        repeat (go_big_quiet_step ((go_at_call 36; exact Later.call _ (hrc2 _) (Nat.le_refl _))))
        refine wpQuiet_nil ?_
        rintro _ ⟨z, rfl⟩
        clear hrc2
        go_wp2_with fail
        go_ret
        exact ⟨by rw [HF.out]; rfl, HB1.out.trans (z.ok.mono HB1.out.size)⟩
end Go.Proofs.YtcliejdiaohamaaGreat

set_option linter.unusedSimpArgs false
set_option linter.unusedVariables false
namespace Go.Proofs.YtcliejdiaohamaaGreat
open Go.RowKit Go.Cib
attribute [local go_sem] cell_set Later.cell Later.frozen Grw.cell Grw.frozen
def varL (v : Nat) : List Nat := if h : v < 128 then [v] else (v % 128 + 128) :: varL (v / 128)
termination_by v
decreasing_by omega
theorem or_b8 {a : Nat} (ha : a < 256) : bits .or .u8 (a : Int) 128 = ((a % 128 + 128 : Nat) : Int) := by
  have : ∀ a, a < 256 → bits .or .u8 ((a : Nat) : Int) 128 = ((a % 128 + 128 : Nat) : Int) := by decide +kernel
  exact this a ha
set_option maxRecDepth 100000 in
set_option maxHeartbeats 4000000 in
theorem putvar_any {w : World} {n c v : Nat} {A : Option Addr} {S : Nat → Prop} {xs : List Nat} (R : RdL ByR 1 S w A n xs) (hn : n ≤ 9000) (hv : v < 18446744073709551616) :
    Calls Tryz.prog 169 #[.slice A n c, .int .u64 (v : Int)] w fun e w' => ∃ A' c' m, e = .returned (.slice A' m c') ∧ OwnL ByR 5 1 w.heap.size (fun _ => True) w' (.slice A' m c') m (xs ++ varL v) ∧ m ≤ n + 10 ∧ Below w.heap.size w w' := by
  have hgr := grown_any (c := c) (room := 10) R (by omega) (by omega)
  have HV := Lib.hid hv
  clear R hv
  push_cast at hgr
  go_enter Tryz.func169, Tryz.ntmps169
  go_wp2_with fail
  refine hgr.mono ?_
  rintro e w1 ⟨g, rfl, ho, hb1⟩
  have HO := Lib.hid ho
  have HB := Lib.hid hb1
  clear hgr ho hb1
  go_wp2_with fail
  go_loopw [1, 5] (fun vi vs wr => ∃ (j u : Nat) (A : Option Addr) (c' : Nat) (pre : List Nat), vi = .int .u64 u ∧ vs = .slice A (n + j) c' ∧ Hid (u * 128 ^ j ≤ v) ∧ j ≤ 9 ∧ Hid (pre ++ varL u = varL v) ∧ Hid (OwnL ByR 5 1 w.heap.size (fun _ => True) wr (.slice A (n + j) c') (n + j) (xs ++ pre)) ∧ Hid (Below w.heap.size w wr)) (fun vi _ _ => (intOf vi).toNat)
  case atStart => exact ⟨0, v, _, _, [], rfl, rfl, Lib.hid (by simp), by omega, Lib.hid rfl, by rw [List.append_nil]; exact HO, HB⟩
  case round =>
    clear HO HB
    obtain ⟨j, u, AO, cO, pre, rfl, rfl, HU, hj, HP, HO, HB⟩ := hrel
    have p0 : (0 : Int) ≤ (u : Int) := Int.natCast_nonneg _
    by_cases hlt : u < 128
    · have p1 : ¬ (u : Int) ≥ 128 := by omega
      have hszr := HB.out.size
      have HN := Lib.hid (show xs ++ pre ++ [u] = xs ++ varL v by rw [← HP.out, varL, dif_pos hlt, List.append_assoc])
      have f1 : IntKind.u8.wrap (u : Int) = (u : Int) := by rw [IntKind.wrap_u8]; omega
      go_wp2_with (at_builtin; go_must (refine wpList_push1 ByR.stable ByR.one sl_by (by rfl) (by rfl) (base := w.heap.size) (S := fun _ => True) (cs := #[.int .u8 (u : Int)]) (y := u) (by rfl) (by rfl) HO.out (by rfl) ⟨by omega, rfl⟩ (by unfold maxLen; omega) (by omega) hszr ?_); intro A8 c8 ug hc8 own9 hlt8 hb8 hat8; rw [HN.out] at own9; have HO9 := Lib.hid own9; have HB9 := Lib.hid (HB.out.trans hb8); clear own9 hb8 hlt8 hat8)
      go_ret
      exact ⟨A8, c8, _, rfl, HO9.out, by omega, HB9.out⟩
    · have p1 : (u : Int) ≥ 128 := by omega
      have hszr := HB.out.size
      have g1 : bits .or .u8 ((u : Int) % 256) 128 = ((u % 128 + 128 : Nat) : Int) := by
        have h1 := or_b8 (a := u % 256) (Nat.mod_lt _ (by omega))
        rw [show (u % 256 % 128 + 128 : Nat) = u % 128 + 128 by omega] at h1
        push_cast at h1 ⊢
        exact h1
      have hyl : u % 128 + 128 < 256 := by omega
      obtain ⟨y, hye⟩ : ∃ y, u % 128 + 128 = y := ⟨_, rfl⟩
      have HYE := Lib.hid hye
      rw [hye] at g1 hyl
      clear hye
      go_wp2_with (at_builtin; go_must (refine wpList_push1 ByR.stable ByR.one sl_by (by rfl) (by rfl) (base := w.heap.size) (S := fun _ => True) (cs := #[.int .u8 (y : Int)]) (y := y) (by rfl) (by rfl) HO.out (by rfl) ⟨hyl, rfl⟩ (by unfold maxLen; omega) (by omega) hszr ?_); intro A8 c8 ug hc8 own9 hlt8 hb8 hat8; have HO9 := Lib.hid own9; have HB9 := Lib.hid (HB.out.trans hb8); clear own9 hb8 hlt8 hat8)
      have hu2 : u / 128 * 128 ^ (j + 1) ≤ v := by
        have h1 := HU.out
        have h2 : u / 128 * 128 ≤ u := Nat.div_mul_le_self u 128
        rw [Nat.pow_succ, Nat.mul_comm (128 ^ j) 128, ← Nat.mul_assoc]
        exact Nat.le_trans (Nat.mul_le_mul_right _ h2) h1
      have hj2 : j + 1 ≤ 9 := by
        have h1 := HU.out
        have h3 := HV.out
        rcases Nat.lt_or_ge j 9 with h | h
        · omega
        · have hj9 : j = 9 := by omega
          subst hj9
          omega
      have hp2 : (pre ++ [y]) ++ varL (u / 128) = varL v := by
        rw [← HP.out]
        conv => rhs; rw [varL, dif_neg hlt, HYE.out]
        rw [List.append_assoc]; rfl
      have HO10 := HO9.out
      rw [List.append_assoc] at HO10
      exact ⟨⟨j + 1, u / 128, A8, c8, pre ++ [y], by push_cast; rfl, rfl, Lib.hid hu2, hj2, Lib.hid hp2, Lib.hid HO10, HB9⟩, by simp [intOf]; omega⟩
end Go.Proofs.YtcliejdiaohamaaGreat

set_option linter.unusedSimpArgs false
set_option linter.unusedVariables false
namespace Go.Proofs.YtcliejdiaohamaaGreat
open Go.RowKit Go.Cib
attribute [local go_sem] cell_set Later.cell Later.frozen Grw.cell Grw.frozen
def placesL (ps : List Nat) : List Nat := (ps.map varL).flatten
theorem OwnL.rdS {E : TypeId} {base n c : Nat} {w : World} {A : Option Addr} {xs : List Nat} (h : OwnL ByR E 1 base (fun _ => True) w (.slice A n c) n xs) : RdL ByR 1 (fun _ => True) w A n xs := by
  obtain ⟨A', c', e, _, hr⟩ := h.rd (S' := fun _ => True) (fun j hj => trivial) (fun cs x hx => hx)
  injection e with e1 _ e2
  subst e1
  exact hr
theorem OwnL.rdJ {E : TypeId} {base n c B : Nat} {w : World} {A : Option Addr} {xs : List Nat} (h : OwnL ByR E 1 base (fun _ => True) w (.slice A n c) n xs) (hB : B ≤ base) : RdL ByR 1 (fun j => B ≤ j) w A n xs := by
  obtain ⟨A', c', e, _, hr⟩ := h.rd (S' := fun j => B ≤ j) (fun j hj => Nat.le_trans hB hj) (fun cs x hx => hx)
  injection e with e1 _ e2
  subst e1
  exact hr
theorem placesL_snoc {ps : List Nat} {i x : Nat} (h : ps[i]? = some x) : placesL (ps.take (i + 1)) = placesL (ps.take i) ++ varL x := by
  unfold placesL
  rw [List.take_add_one, h]
  simp
set_option maxRecDepth 100000 in
set_option maxHeartbeats 8000000 in
theorem bpb_any {w : World} {S S2 : Nat → Prop} {A A0 : Option Addr} {n0 c0 n c gen size : Nat} {xs ps : List Nat} (R0 : RdL ByR 1 S2 w A0 n0 xs) (R : RdL IntR 1 S w A n (ps.map Int.ofNat)) (hn0 : n0 ≤ 2000) (hn : n ≤ 500) (hsz : size ≤ 1000000) (hg : gen < 18446744073709551616) (hps : ∀ x ∈ ps, x < 9000000000000000000) :
    Calls Tryz.prog 103 #[.slice A0 n0 c0, .agg (blobC A n c (gen : Int) (size : Int))] w fun e w' => ∃ A' c' m, e = .returned (.slice A' m c') ∧ RdL ByR 1 (fun j => w.heap.size ≤ j) w' A' m (xs ++ varL size ++ varL gen ++ varL n ++ placesL ps) ∧ Below w.heap.size w w' := by
  have hb0 : Below w.heap.size w (w.alloc (.cells (blobC A n c (gen : Int) (size : Int)) 61)) := (Below.refl _ _).alloc (Nat.le_refl _) _
  have bB := BoxAt.new w (blobC A n c (gen : Int) (size : Int)) 61
  unfold blobC at hb0 bB ⊢
  obtain ⟨w1, hw1⟩ : ∃ w1, w.alloc (.cells #[.slice A n c, .int .u64 (gen : Int), .int .i64 (size : Int)] 61) = w1 := ⟨_, rfl⟩
  obtain ⟨q, hq⟩ : ∃ q, w.heap.size = q := ⟨_, rfl⟩
  rw [hw1] at hb0 bB
  rw [hq] at bB
  have HR0 := Lib.hid (R0.below ByR.stable hb0)
  have HR := Lib.hid R
  have HB0 := Lib.hid hb0
  have BB := Lib.hid bB
  have HQ := Lib.hid hq
  have p0 : (0 : Int) ≤ (size : Int) := Int.natCast_nonneg _
  have HPS := Lib.hid hps
  clear R0 R hb0 bB hps
  go_enter Tryz.func103, Tryz.ntmps103
  go_wp2_with (at_builtin; go_must (refine wpList_appL ByR.stable ByR.one sl_by (by rfl) (by rfl) (base := w1.heap.size) (S := fun _ => True) (n := 0) (v := .slice none 0 0) (xs := []) (by rfl) OwnL.nil_ (by rfl) HR0.out (fun _ _ h => h) (by unfold maxLen; omega) (by omega) (Nat.le_refl _) ?_); intro A3 c3 w5 hc3 hown hg3 hat; have HB5 := Lib.hid ((Below.refl w1.heap.size w1).grown hg3 (Nat.le_refl _) (fun k hk => by cases hk)); have HO5 := Lib.hid hown; have bB5 := BB.out.below HB5.out; have k0 := bB5.cell 0; have k1 := bB5.cell 1; have k2 := bB5.cell 2; clear bB5 hown hg3 hat)
  clear hw1
  have HBD := Lib.hid HB5.out.drew
  have HOD := Lib.hid (show OwnL ByR 5 1 w1.heap.size (fun _ => True) w5.drew (.slice A3 n0 c3) n0 xs from by have h1 := OwnL.keep ByR.stable (w' := w5.drew) HO5.out (Below.refl _ _).drew; rw [Nat.zero_add, List.nil_append] at h1; exact h1)
  have s0 : w5.drew.cell? ⟨q, 0, none⟩ = some (.slice A n c) ∧ w5.drew.cell? ⟨q, 1, none⟩ = some (.int .u64 (gen : Int)) ∧ w5.drew.cell? ⟨q, 2, none⟩ = some (.int .i64 (size : Int)) := ⟨k0, k1, k2⟩
  have f1 : IntKind.u64.wrap (size : Int) = (size : Int) := by rw [IntKind.wrap_u64]; omega
  have f2 : IntKind.u64.wrap (n : Int) = (n : Int) := by rw [IntKind.wrap_u64]; omega
  refine wp_region_held_drew (S := fun w' => w'.cell? ⟨q, 0, none⟩ = some (.slice A n c) ∧ w'.cell? ⟨q, 1, none⟩ = some (.int .u64 (gen : Int)) ∧ w'.cell? ⟨q, 2, none⟩ = some (.int .i64 (size : Int))) (by kernel_rfl) (by first | exact s0 | exact s6 | exact s7 | exact s8) (fun hHeld => ?_)
  refine wpAnyH_take (i := 0) (v := ?_) rfl (by kernel_rfl) (by kernel_rfl) (by kernel_rfl) (fun _ _ _ h => h) (Or.inl ⟨by first | kernel_rfl | rfl, ?_⟩) (by assumption) ?_
  rotate_left
  · (intro wq hSw; (try dsimp only at hSw); (try simp (maxSteps := 2000000) only [List.getElem_toArray, List.getElem_cons_succ, List.getElem_cons_zero]); go_simp); try with_reducible rfl
  try simp (maxSteps := 2000000) only [List.getElem_toArray, List.getElem_cons_succ, List.getElem_cons_zero, Act.put, List.setIfInBounds_toArray, List.set_cons_zero, List.set_cons_succ]
  refine wpAnyH_take (i := 1) (v := ?_) rfl (by kernel_rfl) (by kernel_rfl) (by kernel_rfl) (fun _ _ _ h => h) (Or.inl ⟨by first | kernel_rfl | rfl, ?_⟩) (by assumption) ?_
  rotate_left
  · (intro wq hSw; (try dsimp only at hSw); (try simp (maxSteps := 2000000) only [List.getElem_toArray, List.getElem_cons_succ, List.getElem_cons_zero]); go_simp); try with_reducible rfl
  try simp (maxSteps := 2000000) only [List.getElem_toArray, List.getElem_cons_succ, List.getElem_cons_zero, Act.put, List.setIfInBounds_toArray, List.set_cons_zero, List.set_cons_succ]
  refine wpAnyH_take (i := 2) (v := ?_) rfl (by kernel_rfl) (by kernel_rfl) (by kernel_rfl) (fun _ _ _ h => h) (Or.inl ⟨by first | kernel_rfl | rfl, ?_⟩) (by assumption) ?_
  rotate_left
  · (intro wq hSw; (try dsimp only at hSw); (try simp (maxSteps := 2000000) only [List.getElem_toArray, List.getElem_cons_succ, List.getElem_cons_zero]); go_simp); try with_reducible rfl
  try simp (maxSteps := 2000000) only [List.getElem_toArray, List.getElem_cons_succ, List.getElem_cons_zero, Act.put, List.setIfInBounds_toArray, List.set_cons_zero, List.set_cons_succ]
  refine wpAnyH_take (i := 3) (v := ?_) rfl (by kernel_rfl) (by kernel_rfl) (by kernel_rfl) (fun _ _ _ h => h) (Or.inl ⟨by first | kernel_rfl | rfl, ?_⟩) (by assumption) ?_
  rotate_left
  · (intro wq hSw; (try dsimp only at hSw); (try simp (maxSteps := 2000000) only [List.getElem_toArray, List.getElem_cons_succ, List.getElem_cons_zero]); go_simp); try with_reducible rfl
  try simp (maxSteps := 2000000) only [List.getElem_toArray, List.getElem_cons_succ, List.getElem_cons_zero, Act.put, List.setIfInBounds_toArray, List.set_cons_zero, List.set_cons_succ]
  refine wpAnyH_take (i := 5) (v := ?_) rfl (by kernel_rfl) (by kernel_rfl) (by kernel_rfl) (fun _ _ _ h => h) (Or.inl ⟨by first | kernel_rfl | rfl, ?_⟩) (by assumption) ?_
  rotate_left
  · (intro wq hSw; (try dsimp only at hSw); (try simp (maxSteps := 2000000) only [List.getElem_toArray, List.getElem_cons_succ, List.getElem_cons_zero]); go_simp); try with_reducible rfl
  try simp (maxSteps := 2000000) only [List.getElem_toArray, List.getElem_cons_succ, List.getElem_cons_zero, Act.put, List.setIfInBounds_toArray, List.set_cons_zero, List.set_cons_succ]
  refine wpAnyH_take (i := 6) (v := ?_) rfl (by kernel_rfl) (by kernel_rfl) (by kernel_rfl) (fun _ _ _ h => h) (Or.inl ⟨by first | kernel_rfl | rfl, ?_⟩) (by assumption) ?_
  rotate_left
  · (intro wq hSw; (try dsimp only at hSw); (try simp (maxSteps := 2000000) only [List.getElem_toArray, List.getElem_cons_succ, List.getElem_cons_zero]); go_simp); try with_reducible rfl
  try simp (maxSteps := 2000000) only [List.getElem_toArray, List.getElem_cons_succ, List.getElem_cons_zero, Act.put, List.setIfInBounds_toArray, List.set_cons_zero, List.set_cons_succ]
  refine wpAnyH_take (i := 8) (v := ?_) rfl (by kernel_rfl) (by kernel_rfl) (by kernel_rfl) (fun _ _ _ h => h) (Or.inl ⟨by first | kernel_rfl | rfl, ?_⟩) (by assumption) ?_
  rotate_left
  · (intro wq hSw; (try dsimp only at hSw); (try simp (maxSteps := 2000000) only [List.getElem_toArray, List.getElem_cons_succ, List.getElem_cons_zero]); go_simp); try with_reducible rfl
  try simp (maxSteps := 2000000) only [List.getElem_toArray, List.getElem_cons_succ, List.getElem_cons_zero, Act.put, List.setIfInBounds_toArray, List.set_cons_zero, List.set_cons_succ]
  refine wpAnyH_take (i := 9) (v := ?_) rfl (by kernel_rfl) (by kernel_rfl) (by kernel_rfl) (fun _ _ _ h => h) (Or.inl ⟨by first | kernel_rfl | rfl, ?_⟩) (by assumption) ?_
  rotate_left
  · (intro wq hSw; (try dsimp only at hSw); (try simp (maxSteps := 2000000) only [List.getElem_toArray, List.getElem_cons_succ, List.getElem_cons_zero]); go_simp); try with_reducible rfl
  try simp (maxSteps := 2000000) only [List.getElem_toArray, List.getElem_cons_succ, List.getElem_cons_zero, Act.put, List.setIfInBounds_toArray, List.set_cons_zero, List.set_cons_succ]
  refine wpAnyH_take (i := 10) (v := ?_) rfl (by kernel_rfl) (by kernel_rfl) (by kernel_rfl) (fun _ _ _ h => h) (Or.inl ⟨by first | kernel_rfl | rfl, ?_⟩) (by assumption) ?_
  rotate_left
  · (intro wq hSw; (try dsimp only at hSw); (try simp (maxSteps := 2000000) only [List.getElem_toArray, List.getElem_cons_succ, List.getElem_cons_zero]); go_simp); try with_reducible rfl
  try simp (maxSteps := 2000000) only [List.getElem_toArray, List.getElem_cons_succ, List.getElem_cons_zero, Act.put, List.setIfInBounds_toArray, List.set_cons_zero, List.set_cons_succ]
  refine wpAnyH_take (i := 11) (v := ?_) rfl (by kernel_rfl) (by kernel_rfl) (by kernel_rfl) (fun _ _ _ h => h) (Or.inl ⟨by first | kernel_rfl | rfl, ?_⟩) (by assumption) ?_
  rotate_left
  · (intro wq hSw; (try dsimp only at hSw); (try simp (maxSteps := 2000000) only [List.getElem_toArray, List.getElem_cons_succ, List.getElem_cons_zero]); go_simp); try with_reducible rfl
  try simp (maxSteps := 2000000) only [List.getElem_toArray, List.getElem_cons_succ, List.getElem_cons_zero, Act.put, List.setIfInBounds_toArray, List.set_cons_zero, List.set_cons_succ]
  refine wpAnyH_ready (rs := [4]) (by kernel_rfl) (by simp) ?_
  refine AllReadyH.cons rfl (fun K hK => ?_) AllReadyH.nil
  try simp (maxSteps := 2000000) only [List.getElem_toArray, List.getElem_cons_succ, List.getElem_cons_zero]
  go_simp
  go_at_call 169
  refine (putvar_any (v := size) (OwnL.rdS HOD.out) (by omega) (by omega)).mono ?_
  rintro e w6 ⟨A6, c6, m6, rfl, ho6, hm6, hb6⟩
  have HB6 := Lib.hid (HBD.out.trans (hb6.mono HBD.out.size))
  have HO6 := Lib.hid ho6
  have bB6 := BB.out.below HB6.out
  have s6 : w6.cell? ⟨q, 0, none⟩ = some (.slice A n c) ∧ w6.cell? ⟨q, 1, none⟩ = some (.int .u64 (gen : Int)) ∧ w6.cell? ⟨q, 2, none⟩ = some (.int .i64 (size : Int)) := ⟨bB6.cell 0, bB6.cell 1, bB6.cell 2⟩
  clear ho6 hb6 bB6
  try (go_wp2_with fail)
  refine hK.out _ _ (by first | exact s0 | exact s6 | exact s7 | exact s8) (fun hHeld => ?_)
  clear hK K
  try simp (maxSteps := 2000000) only [List.getElem_toArray, List.getElem_cons_succ, List.getElem_cons_zero, Act.put, List.setIfInBounds_toArray, List.set_cons_zero, List.set_cons_succ]
  refine wpAnyH_ready (rs := [7]) (by kernel_rfl) (by simp) ?_
  refine AllReadyH.cons rfl (fun K hK => ?_) AllReadyH.nil
  try simp (maxSteps := 2000000) only [List.getElem_toArray, List.getElem_cons_succ, List.getElem_cons_zero]
  go_simp
  go_at_call 169
  refine (putvar_any (v := gen) (OwnL.rdS HO6.out) (by omega) hg).mono ?_
  rintro e w7 ⟨A7, c7, m7, rfl, ho7, hm7, hb7⟩
  have HB7 := Lib.hid (HB6.out.trans (hb7.mono HB6.out.size))
  have HO7 := Lib.hid ho7
  have bB7 := BB.out.below HB7.out
  have s7 : w7.cell? ⟨q, 0, none⟩ = some (.slice A n c) ∧ w7.cell? ⟨q, 1, none⟩ = some (.int .u64 (gen : Int)) ∧ w7.cell? ⟨q, 2, none⟩ = some (.int .i64 (size : Int)) := ⟨bB7.cell 0, bB7.cell 1, bB7.cell 2⟩
  clear ho7 hb7 bB7
  try (go_wp2_with fail)
  refine hK.out _ _ (by first | exact s0 | exact s6 | exact s7 | exact s8) (fun hHeld => ?_)
  clear hK K
  try simp (maxSteps := 2000000) only [List.getElem_toArray, List.getElem_cons_succ, List.getElem_cons_zero, Act.put, List.setIfInBounds_toArray, List.set_cons_zero, List.set_cons_succ]
  refine wpAnyH_ready (rs := [12]) (by kernel_rfl) (by simp) ?_
  refine AllReadyH.cons rfl (fun K hK => ?_) AllReadyH.nil
  try simp (maxSteps := 2000000) only [List.getElem_toArray, List.getElem_cons_succ, List.getElem_cons_zero]
  go_simp
  go_at_call 169
  refine (putvar_any (v := n) (OwnL.rdS HO7.out) (by omega) (by omega)).mono ?_
  rintro e w8 ⟨A8, c8, m8, rfl, ho8, hm8, hb8⟩
  have HB8 := Lib.hid (HB7.out.trans (hb8.mono HB7.out.size))
  have HO8 := Lib.hid ho8
  have bB8 := BB.out.below HB8.out
  have s8 : w8.cell? ⟨q, 0, none⟩ = some (.slice A n c) ∧ w8.cell? ⟨q, 1, none⟩ = some (.int .u64 (gen : Int)) ∧ w8.cell? ⟨q, 2, none⟩ = some (.int .i64 (size : Int)) := ⟨bB8.cell 0, bB8.cell 1, bB8.cell 2⟩
  clear ho8 hb8 bB8
  try (go_wp2_with fail)
  refine hK.out _ _ (by first | exact s0 | exact s6 | exact s7 | exact s8) (fun hHeld => ?_)
  clear hK K
  try simp (maxSteps := 2000000) only [List.getElem_toArray, List.getElem_cons_succ, List.getElem_cons_zero, Act.put, List.setIfInBounds_toArray, List.set_cons_zero, List.set_cons_succ]
  refine wpAnyH_take (i := 13) (v := ?_) rfl (by kernel_rfl) (by kernel_rfl) (by kernel_rfl) (fun _ _ _ h => h) (Or.inl ⟨by first | kernel_rfl | rfl, ?_⟩) (by assumption) ?_
  rotate_left
  · (intro wq hSw; (try dsimp only at hSw); (try simp (maxSteps := 2000000) only [List.getElem_toArray, List.getElem_cons_succ, List.getElem_cons_zero]); go_simp); try with_reducible rfl
  try simp (maxSteps := 2000000) only [List.getElem_toArray, List.getElem_cons_succ, List.getElem_cons_zero, Act.put, List.setIfInBounds_toArray, List.set_cons_zero, List.set_cons_succ]
  refine wpAnyH_done (by kernel_rfl) ?_ _
  have HBW7 := Lib.hid (Nat.le_trans HB0.out.size HB7.out.size)
  clear s0 s6 s7 hHeld HOD HBD HO6 HB6 HO7 HB7
  obtain ⟨c80, c81, c82⟩ := s8
  have HM8 := Lib.hid (show m8 ≤ n0 + 30 by omega)
  have HBW := Lib.hid (HB0.out.trans (HB8.out.mono HB0.out.size))
  go_wp2_with fail
  go_loopw [6, 31] (fun vo vi wr => ∃ (i mm : Nat) (A2 : Option Addr) (c2 : Nat), i ≤ n ∧ vi = .int .i64 i ∧ vo = .slice A2 mm c2 ∧ Hid (mm ≤ n0 + 30 + 10 * i) ∧ Hid (RdL ByR 1 (fun j => w.heap.size ≤ j) wr A2 mm (xs ++ varL size ++ varL gen ++ varL n ++ placesL (ps.take i))) ∧ Hid (Below w8.heap.size w8 wr)) (fun _ vi _ => n - (intOf vi).toNat)
  case atStart => exact ⟨0, m8, A8, c8, Nat.zero_le _, rfl, rfl, Lib.hid (by have := HM8.out; omega), Lib.hid (by rw [List.take_zero, show placesL [] = [] from rfl, List.append_nil]; exact OwnL.rdJ HO8.out (by have := HBW7.out; exact this)), Lib.hid (Below.refl _ _)⟩
  case round =>
    obtain ⟨i, mm, A2, c2, hi, rfl, rfl, HM, HO, HB⟩ := hrel
    have p0 : (0 : Int) ≤ (i : Int) := Int.natCast_nonneg _
    have HW := Lib.hid (HBW.out.trans (HB.out.mono HBW.out.size))
    by_cases hlt : i < n
    · have p1 : (i : Int) < (n : Int) := by omega
      obtain ⟨ba, oa, rfl, _, hba⟩ := HR.out.addr hlt
      obtain ⟨x0, hx0, v1⟩ := int_at1 HR.out hlt
      rw [List.getElem?_map, Option.map_eq_some_iff] at hx0
      obtain ⟨x, hx, rfl⟩ := hx0
      have v2 := (HW.out.cell (p := ⟨ba, oa + i, none⟩) hba).trans v1
      have hxs := HPS.out x (List.mem_of_getElem? hx)
      have HSN := Lib.hid (placesL_snoc hx)
      have f3 : IntKind.u64.wrap (x : Int) = (x : Int) := by rw [IntKind.wrap_u64]; omega
      have p3 : (0 : Int) ≤ (x : Int) := Int.natCast_nonneg _
      have hpv := putvar_any (c := c2) (v := x) HO.out (by have := HM.out; omega) (by omega)
      have hsz := HW.out.size
      clear v1 hx hxs
      rw [show Int.ofNat x = (x : Int) from rfl] at v2
      go_wp2_with fail
      refine hpv.mono ?_
      clear hpv
      rintro e w9 ⟨A9, c9, m9, rfl, ho9, hm9, hb9⟩
      have HR9 := Lib.hid (OwnL.rdJ ho9 hsz)
      have HB9 := Lib.hid (HB.out.trans (hb9.mono HB.out.size))
      clear ho9 hb9
      go_wp2_with fail
      exact ⟨⟨i + 1, m9, A9, c9, by omega, by go_num, rfl, Lib.hid (by have := HM.out; omega), Lib.hid (by rw [HSN.out, ← List.append_assoc]; exact HR9.out), HB9⟩, by simp [intOf]; omega⟩
    · have p1 : ¬ (i : Int) < (n : Int) := by omega
      obtain rfl : i = n := by omega
      have HF := Lib.hid (show RdL ByR 1 (fun j => w.heap.size ≤ j) wr A2 mm (xs ++ varL size ++ varL gen ++ varL i ++ placesL ps) from by
        have h1 := HO.out
        rwa [List.take_of_length_le (by have := HR.out.1; rw [List.length_map] at this; omega)] at h1)
      go_wp2_with fail
      go_ret
      have h1 := HF.out
      have h2 := HW.out
      rw [HQ.out] at h1 h2
      simp only [List.append_assoc] at h1
      exact ⟨A2, c2, mm, rfl, h1, h2⟩
end Go.Proofs.YtcliejdiaohamaaGreat

set_option linter.unusedSimpArgs false
set_option linter.unusedVariables false
namespace Go.Proofs.YtcliejdiaohamaaGreat
open Go.RowKit Go.Cib
attribute [local go_sem] cell_set Later.cell Later.frozen Grw.cell Grw.frozen
def xK : List Nat := (List.replicate 100 0).set 99 7
theorem xK_len : xK.length = 100 := by unfold xK; simp
theorem ref_at1 {S : Nat → Prop} {w : World} {b o n : Nat} {xs : List (Int × Int)} (h : RdL RefR 3 S w (some ⟨b, o, none⟩) n xs) {i : Nat} (hi : i < n) :
    ∃ x, xs[i]? = some x ∧ w.cell? ⟨b, o + i * 3, none⟩ = some (.int .u8 3) ∧ w.cell? ⟨b, o + i * 3 + 1, none⟩ = some (.int .i64 x.1) ∧ w.cell? ⟨b, o + i * 3 + 2, none⟩ = some (.int .u64 x.2) := by
  obtain ⟨hl, cs, _, h2, h3⟩ := h.at hi
  unfold RefR at h2
  subst h2
  exact ⟨xs[i], List.getElem?_eq_getElem hl, h3 0 _ rfl, h3 1 _ rfl, h3 2 _ rfl⟩
set_option maxRecDepth 100000 in
set_option maxHeartbeats 16000000 in
theorem bkeeps_any {w : World} : Calls Tryz.prog 32 #[] w fun e w' => e = .returned (.bool true) ∧ Below w.heap.size w w' := by
  have hmd := bmade_any (w0 := w) (w := w) (k := 1) (m := 1) (f := 2) (c := 5) (Below.refl _ _) (by omega) (by omega) (by omega) (by omega) (by omega) (by omega)
  have e0 : baseC ((1 : Nat) : Int) ((1 : Nat) : Int) ((2 : Nat) : Int) ((5 : Nat) : Int) = #[.int .i64 1, .int .i64 1, .int .i64 2, .int .i64 5] := rfl
  rw [e0] at hmd
  clear e0
  go_enter Tryz.func32, Tryz.ntmps32
  go_wp2_with fail
  refine hmd.mono ?_
  clear hmd
  rintro e w1 ⟨a, cb, bf, p, o, l, go, gl, rfl, hM, hP, hb1⟩
  have hM1 : MidP (PoolB p o l go gl) (fun j => j < w.heap.size) w w1 a cb bf 1 1 7 (newS 7 2) := hM
  have hP1 : PoolT w1 p o l go gl 0 2 5 0 := PoolT.new hP
  have hmk := makeBy 100 (by omega) w1
  rw [show ((100 : Nat) : Int) = 100 from rfl] at hmk
  have hr1 := (RowIn.made w1 100 5).set (i := 99) (x := 7) (by simp) (by omega)
  have hbx : Below w1.heap.size w1 (w1.alloc (.cells (Array.replicate 100 (.int .u8 0)) 5)) := (Below.refl _ _).alloc (Nat.le_refl _) _
  have hM2 := hM1.below hbx
  have hP2 := hP1.below hbx
  have bx := BoxAt.new w1 (Array.replicate 100 (.int .u8 0)) 5
  obtain ⟨wx, hwx⟩ : ∃ wx, w1.alloc (.cells (Array.replicate 100 (.int .u8 0)) 5) = wx := ⟨_, rfl⟩
  obtain ⟨qx, hqx⟩ : ∃ qx, w1.heap.size = qx := ⟨_, rfl⟩
  have hsx : wx.heap.size = qx + 1 := by rw [← hwx, ← hqx, World.size_alloc]
  have hs1 := hb1.size
  rw [hwx] at hr1 hM2 hP2 bx
  rw [hqx] at hr1 bx hM2
  have kx := bx.cell 99
  rw [show (Array.replicate 100 (Value.int .u8 0))[99]? = some (Value.int .u8 0) by simp] at kx
  have zx := bx.frozen 99
  have hKx : Keep (fun j => j = qx) wx (wx.setCell ⟨qx, 99, none⟩ (.int .u8 7)) := (Keep.refl (fun j => j = qx) wx).setCell (p := ⟨qx, 99, none⟩) (fun _ => rfl) _
  have hPB1 : ∀ j, PoolB p o l go gl j → j < w1.heap.size := fun j hj => hM1.ltP hj
  have hM3 := hM2.own hKx (fun j hj => by subst hj; exact ⟨.inr (by omega), by omega⟩)
  have hP3 := hP2.keep hKx (fun j hj e => by have := hPB1 j hj; omega)
  obtain ⟨w2, hw2⟩ : ∃ w2, wx.setCell ⟨qx, 99, none⟩ (.int .u8 7) = w2 := ⟨_, rfl⟩
  have hr2 : RdL ByR 1 (fun j => j = qx) w2 (some ⟨qx, 0, none⟩) 100 xK := by
    rw [← hw2]
    have h := hr1.rd (S := fun j => j = qx) rfl
    rw [show ((List.replicate 100 0).set 99 7).length = 100 by simp] at h
    exact h
  rw [hw2] at hM3 hP3
  have hc3 : cntN 1 100 = 3 := by decide
  have hpu := bput_at hM3 hP3 (fun j hj => hj) hr2 (fun j hj => .inr (by omega)) (Nat.le_refl _) (by omega) (by rw [hc3]; omega) (by rw [hc3]; omega) (by omega) (fun st hst => by
    obtain ⟨d, hd, rfl⟩ := List.mem_iff_getElem.1 hst
    rw [(newS_at (List.getElem?_eq_getElem hd)).1]; decide)
  rw [hc3, show ((0 : Nat) : Int) = 0 from rfl, show ((100 : Nat) : Int) = 100 from rfl] at hpu
  have HR2 := Lib.hid hr2
  have HX2 := Lib.hid (show ∀ j, j = qx → j < w.heap.size ∨ qx ≤ j ∧ j < wx.heap.size from fun j hj => .inr (by omega))
  have HPU := Lib.hid hpu
  have HB1 := Lib.hid hb1
  have HM1 := Lib.hid hM1
  clear hM hP hM1 hP1 hbx hM2 hP2 bx hM3 hP3 hr1 hb1 hKx hc3 hpu hr2
  go_wp2_with fail
  refine HPU.out.mono ?_
  clear HPU hwx hqx hw2 kx zx hsx hs1 hPB1 hmk
  rintro e w3 ⟨A3, c3, S3, rfl, hc3, hr3, hS3, hP3, hM3, hK3⟩
  have hA := HdB.new (k := 1) (N := 1 + 1) (a := 2 + 0) (G := 0) (M := 3) (Alv.new 7 2) (by_byt HR2.out) (by omega)
  have HA := Lib.hid hA
  have hXb := BoxAt.new w3 (blobC A3 3 c3 0 100) 61
  have hb4 : Below w3.heap.size w3 (w3.alloc (.cells (blobC A3 3 c3 0 100) 61)) := (Below.refl _ _).alloc (Nat.le_refl _) _
  have hM4 := hM3.below hb4
  obtain ⟨w4, hw4⟩ : ∃ w4, w3.alloc (.cells (blobC A3 3 c3 0 100) 61) = w4 := ⟨_, rfl⟩
  obtain ⟨q, hq⟩ : ∃ q, w3.heap.size = q := ⟨_, rfl⟩
  rw [hw4] at hXb hb4 hM4
  rw [hq] at hXb
  have hr34 := hr3.below IntR.stable hb4
  have hr24 := (hK3.rd ByR.stable HR2.out HX2.out).below ByR.stable hb4
  have HP4 := Lib.hid (hP3.below hb4)
  have hgt := bget_any (c := c3) (G := 0) (size := 100) (xs := xK) (g := fun _ => true) hM4.x.mid hr34 (by decide) (by omega) (fun x hx => by obtain ⟨i, hi, rfl⟩ := plL_mem hx; omega) (Lib.hid (by decide)) (by_byt HR2.out) xK_len hA.refs (by decide)
  rw [show ((0 : Nat) : Int) = 0 from rfl, show ((100 : Nat) : Int) = 100 from rfl] at hgt
  have HGT := Lib.hid hgt
  have HR3 := Lib.hid hr34
  have HR2' := Lib.hid hr24
  have HM4 := Lib.hid hM4
  have HC3 := Lib.hid hc3
  have BB4 := Lib.hid hXb
  have c4 : w4.cell? ⟨q, 0, none⟩ = some (.slice A3 3 c3) ∧ w4.cell? ⟨q, 1, none⟩ = some (.int .u64 0) ∧ w4.cell? ⟨q, 2, none⟩ = some (.int .i64 100) := ⟨hXb.cell 0, hXb.cell 1, hXb.cell 2⟩
  clear hc3 hr3 hS3 hP3 hM3 hK3 hA hXb hb4 hM4 hr34 hr24 hgt HR2 HX2
  unfold blobC at hw4 HGT ⊢
  go_wp2_with fail
  refine HGT.out.mono ?_
  clear HGT hw4 hq
  rintro e w5 ⟨A5, c5, rfl, hc5, hr5, hb5⟩
  have BB5 := Lib.hid (BB4.out.below hb5)
  have HR35 := Lib.hid (HR3.out.below IntR.stable hb5)
  have HR25 := Lib.hid (HR2'.out.below ByR.stable hb5)
  have HR5 := Lib.hid hr5
  have HP5 := Lib.hid (HP4.out.below hb5)
  have HM5 := Lib.hid (HM4.out.below' hb5)
  have hrf := refs_any (c := c3) (gen := 0) (size := 100) HR35.out (by omega) HC3.out
  have c5 : w5.cell? ⟨q, 0, none⟩ = some (.slice A3 3 c3) ∧ w5.cell? ⟨q, 1, none⟩ = some (.int .u64 0) ∧ w5.cell? ⟨q, 2, none⟩ = some (.int .i64 100) := ⟨BB5.out.cell 0, BB5.out.cell 1, BB5.out.cell 2⟩
  clear hc5 hr5 hb5 HM4 HP4 HR3 HR2' BB4 c4
  unfold blobC at hrf
  go_wp2_with fail
  refine hrf.mono ?_
  clear hrf c5
  rintro e w6 ⟨A6, c6, rfl, hc6, hr6, hb6⟩
  have BB6 := Lib.hid (BB5.out.below hb6)
  have HR36 := Lib.hid (HR35.out.below IntR.stable hb6)
  have HR26 := Lib.hid (HR25.out.below ByR.stable hb6)
  have HR56 := Lib.hid (HR5.out.below ByR.stable hb6)
  have HP6 := Lib.hid (HP5.out.below hb6)
  have HB6 := Lib.hid (HM5.out.below' hb6).bel
  obtain ⟨pb, po, rfl, _, hpb⟩ := HR36.out.addr (k := 2) (by omega)
  obtain ⟨x2, hx2, v2⟩ := int_at1 HR36.out (k := 2) (by omega)
  obtain ⟨rb, ro, rfl, _, hrb⟩ := hr6.addr (k := 2) (by omega)
  obtain ⟨y2, hy2, u0, u1, u2⟩ := ref_at1 hr6 (i := 2) (by omega)
  obtain rfl : x2 = 4 := by
    have h : (plL (2 + 0) 3)[2]? = some 4 := by decide
    rw [h] at hx2; exact (Option.some.inj hx2).symm
  obtain rfl : y2 = (4, 2) := by
    have h : (refL 0 (plL (2 + 0) 3))[2]? = some (4, 2) := by decide
    rw [h] at hy2; exact (Option.some.inj hy2).symm
  obtain ⟨T, hT⟩ : ∃ T, textB xK = T := ⟨_, rfl⟩
  have HSF : Hid (∀ w', Below w6.heap.size w6 w' → (w'.cell? ⟨q, 0, none⟩ = some (.slice (some ⟨pb, po, none⟩) 3 c3) ∧ w'.cell? ⟨q, 1, none⟩ = some (.int .u64 0) ∧ w'.cell? ⟨q, 2, none⟩ = some (.int .i64 100) ∧ w'.cell? ⟨pb, po + 2, none⟩ = some (.int .i64 4) ∧ w'.cell? ⟨rb, ro + 6, none⟩ = some (.int .u8 3) ∧ w'.cell? ⟨rb, ro + 7, none⟩ = some (.int .i64 4) ∧ w'.cell? ⟨rb, ro + 8, none⟩ = some (.int .u64 2) ∧ (convert 80 9 (.slice A5 100 c5)).run Tryz.prog w' = .ok (.string T) w' ∧ (convert 80 9 (.slice (some ⟨qx, 0, none⟩) 100 100)).run Tryz.prog w' = .ok (.string T) w')) := Lib.hid fun w' hb => by
    have bB := BB6.out.below hb
    rw [← hT]
    exact ⟨bB.cell 0, bB.cell 1, bB.cell 2, (hb.cell (p := ⟨pb, po + 2, none⟩) hpb).trans v2, (hb.cell (p := ⟨rb, ro + 6, none⟩) hrb).trans u0, (hb.cell (p := ⟨rb, ro + 7, none⟩) hrb).trans u1, (hb.cell (p := ⟨rb, ro + 8, none⟩) hrb).trans u2, text_run (HR56.out.below ByR.stable hb), text_run (HR26.out.below ByR.stable hb)⟩
  have hfr := fun w' (hb : Below w6.heap.size w6 w') => (HP6.out.below hb).free
  have HFR := Lib.hid hfr
  clear hr6 hb6 HM5 HR35 HR25 HR5 HP5 BB5 hx2 v2 hy2 u0 u1 u2 hT hfr hpb hrb HR36 HR26 HR56 BB6 HA
  go_wp2_with fail
  have fw : IntKind.u64.wrap 2 = 2 := by rw [IntKind.wrap_u64]; rfl
  have hd6 : Below w6.heap.size w6 w6.drew := (Below.refl _ _).drew
  refine wp_region_held_drew (S := fun w' => w'.cell? ⟨q, 0, none⟩ = some (.slice (some ⟨pb, po, none⟩) 3 c3) ∧ w'.cell? ⟨q, 1, none⟩ = some (.int .u64 0) ∧ w'.cell? ⟨q, 2, none⟩ = some (.int .i64 100) ∧ w'.cell? ⟨pb, po + 2, none⟩ = some (.int .i64 4) ∧ w'.cell? ⟨rb, ro + 6, none⟩ = some (.int .u8 3) ∧ w'.cell? ⟨rb, ro + 7, none⟩ = some (.int .i64 4) ∧ w'.cell? ⟨rb, ro + 8, none⟩ = some (.int .u64 2) ∧ (convert 80 9 (.slice A5 100 c5)).run Tryz.prog w' = .ok (.string T) w' ∧ (convert 80 9 (.slice (some ⟨qx, 0, none⟩) 100 100)).run Tryz.prog w' = .ok (.string T) w') (by kernel_rfl) (by first | exact HSF.out _ hd6 | exact HSF.out _ hb7 | exact HSF.out _ (hb7.alloc hb7.size _) | exact HSF.out _ hb9) (fun hHeld => ?_)
  refine wpAnyH_take (i := 0) (v := ?_) rfl (by kernel_rfl) (by kernel_rfl) (by kernel_rfl) (fun _ _ _ h => h) (Or.inl ⟨by first | kernel_rfl | rfl, ?_⟩) (by assumption) ?_
  rotate_left
  · (intro wq hSw; (try dsimp only at hSw); (try simp (maxSteps := 2000000) only [List.getElem_toArray, List.getElem_cons_succ, List.getElem_cons_zero]); go_simp); try with_reducible rfl
  try simp (maxSteps := 2000000) only [List.getElem_toArray, List.getElem_cons_succ, List.getElem_cons_zero, Act.put, List.setIfInBounds_toArray, List.set_cons_zero, List.set_cons_succ]
  refine wpAnyH_take (i := 1) (v := ?_) rfl (by kernel_rfl) (by kernel_rfl) (by kernel_rfl) (fun _ _ _ h => h) (Or.inl ⟨by first | kernel_rfl | rfl, ?_⟩) (by assumption) ?_
  rotate_left
  · (intro wq hSw; (try dsimp only at hSw); (try simp (maxSteps := 2000000) only [List.getElem_toArray, List.getElem_cons_succ, List.getElem_cons_zero]); go_simp); try with_reducible rfl
  try simp (maxSteps := 2000000) only [List.getElem_toArray, List.getElem_cons_succ, List.getElem_cons_zero, Act.put, List.setIfInBounds_toArray, List.set_cons_zero, List.set_cons_succ]
  refine wpAnyH_take (i := 2) (v := ?_) rfl (by kernel_rfl) (by kernel_rfl) (by kernel_rfl) (fun _ _ _ h => h) (Or.inl ⟨by first | kernel_rfl | rfl, ?_⟩) (by assumption) ?_
  rotate_left
  · (intro wq hSw; (try dsimp only at hSw); (try simp (maxSteps := 2000000) only [List.getElem_toArray, List.getElem_cons_succ, List.getElem_cons_zero]); go_simp); try with_reducible rfl
  try simp (maxSteps := 2000000) only [List.getElem_toArray, List.getElem_cons_succ, List.getElem_cons_zero, Act.put, List.setIfInBounds_toArray, List.set_cons_zero, List.set_cons_succ]
  refine wpAnyH_take (i := 3) (v := ?_) rfl (by kernel_rfl) (by kernel_rfl) (by kernel_rfl) (fun _ _ _ h => h) (Or.inl ⟨by first | kernel_rfl | rfl, ?_⟩) (by assumption) ?_
  rotate_left
  · (intro wq hSw; (try dsimp only at hSw); (try simp (maxSteps := 2000000) only [List.getElem_toArray, List.getElem_cons_succ, List.getElem_cons_zero]); go_simp); try with_reducible rfl
  try simp (maxSteps := 2000000) only [List.getElem_toArray, List.getElem_cons_succ, List.getElem_cons_zero, Act.put, List.setIfInBounds_toArray, List.set_cons_zero, List.set_cons_succ]
  refine wpAnyH_take (i := 4) (v := ?_) rfl (by kernel_rfl) (by kernel_rfl) (by kernel_rfl) (fun _ _ _ h => h) (Or.inl ⟨by first | kernel_rfl | rfl, ?_⟩) (by assumption) ?_
  rotate_left
  · (intro wq hSw; (try dsimp only at hSw); (try simp (maxSteps := 2000000) only [List.getElem_toArray, List.getElem_cons_succ, List.getElem_cons_zero]); go_simp); try with_reducible rfl
  try simp (maxSteps := 2000000) only [List.getElem_toArray, List.getElem_cons_succ, List.getElem_cons_zero, Act.put, List.setIfInBounds_toArray, List.set_cons_zero, List.set_cons_succ]
  refine wpAnyH_take (i := 5) (v := ?_) rfl (by kernel_rfl) (by kernel_rfl) (by kernel_rfl) (fun _ _ _ h => h) (Or.inl ⟨by first | kernel_rfl | rfl, ?_⟩) (by assumption) ?_
  rotate_left
  · (intro wq hSw; (try dsimp only at hSw); (try simp (maxSteps := 2000000) only [List.getElem_toArray, List.getElem_cons_succ, List.getElem_cons_zero]); go_simp); try with_reducible rfl
  try simp (maxSteps := 2000000) only [List.getElem_toArray, List.getElem_cons_succ, List.getElem_cons_zero, Act.put, List.setIfInBounds_toArray, List.set_cons_zero, List.set_cons_succ]
  refine wpAnyH_take (i := 6) (v := ?_) rfl (by kernel_rfl) (by kernel_rfl) (by kernel_rfl) (fun _ _ _ h => h) (Or.inl ⟨by first | kernel_rfl | rfl, ?_⟩) (by assumption) ?_
  rotate_left
  · (intro wq hSw; (try dsimp only at hSw); (try simp (maxSteps := 2000000) only [List.getElem_toArray, List.getElem_cons_succ, List.getElem_cons_zero]); go_simp); try with_reducible rfl
  try simp (maxSteps := 2000000) only [List.getElem_toArray, List.getElem_cons_succ, List.getElem_cons_zero, Act.put, List.setIfInBounds_toArray, List.set_cons_zero, List.set_cons_succ]
  refine wpAnyH_take (i := 7) (v := ?_) rfl (by kernel_rfl) (by kernel_rfl) (by kernel_rfl) (fun _ _ _ h => h) (Or.inl ⟨by first | kernel_rfl | rfl, ?_⟩) (by assumption) ?_
  rotate_left
  · (intro wq hSw; (try dsimp only at hSw); (try simp (maxSteps := 2000000) only [List.getElem_toArray, List.getElem_cons_succ, List.getElem_cons_zero]); go_simp); try with_reducible rfl
  try simp (maxSteps := 2000000) only [List.getElem_toArray, List.getElem_cons_succ, List.getElem_cons_zero, Act.put, List.setIfInBounds_toArray, List.set_cons_zero, List.set_cons_succ]
  refine wpAnyH_take (i := 8) (v := ?_) rfl (by kernel_rfl) (by kernel_rfl) (by kernel_rfl) (fun _ _ _ h => h) (Or.inl ⟨by first | kernel_rfl | rfl, ?_⟩) (by assumption) ?_
  rotate_left
  · (intro wq hSw; (try dsimp only at hSw); (try simp (maxSteps := 2000000) only [List.getElem_toArray, List.getElem_cons_succ, List.getElem_cons_zero]); go_simp); try with_reducible rfl
  try simp (maxSteps := 2000000) only [List.getElem_toArray, List.getElem_cons_succ, List.getElem_cons_zero, Act.put, List.setIfInBounds_toArray, List.set_cons_zero, List.set_cons_succ]
  refine wpAnyH_take (i := 9) (v := ?_) rfl (by kernel_rfl) (by kernel_rfl) (by kernel_rfl) (fun _ _ _ h => h) (Or.inl ⟨by first | kernel_rfl | rfl, ?_⟩) (by assumption) ?_
  rotate_left
  · (intro wq hSw; (try dsimp only at hSw); (try simp (maxSteps := 2000000) only [List.getElem_toArray, List.getElem_cons_succ, List.getElem_cons_zero]); go_simp); try with_reducible rfl
  try simp (maxSteps := 2000000) only [List.getElem_toArray, List.getElem_cons_succ, List.getElem_cons_zero, Act.put, List.setIfInBounds_toArray, List.set_cons_zero, List.set_cons_succ]
  refine wpAnyH_take (i := 10) (v := ?_) rfl (by kernel_rfl) (by kernel_rfl) (by kernel_rfl) (fun _ _ _ h => h) (Or.inl ⟨by first | kernel_rfl | rfl, ?_⟩) (by assumption) ?_
  rotate_left
  · (intro wq hSw; (try dsimp only at hSw); (try simp (maxSteps := 2000000) only [List.getElem_toArray, List.getElem_cons_succ, List.getElem_cons_zero]); go_simp); try with_reducible rfl
  try simp (maxSteps := 2000000) only [List.getElem_toArray, List.getElem_cons_succ, List.getElem_cons_zero, Act.put, List.setIfInBounds_toArray, List.set_cons_zero, List.set_cons_succ]
  refine wpAnyH_take (i := 11) (v := ?_) rfl (by kernel_rfl) (by kernel_rfl) (by kernel_rfl) (fun _ _ _ h => h) (Or.inl ⟨by first | kernel_rfl | rfl, ?_⟩) (by assumption) ?_
  rotate_left
  · (intro wq hSw; (try dsimp only at hSw); (try simp (maxSteps := 2000000) only [List.getElem_toArray, List.getElem_cons_succ, List.getElem_cons_zero]); go_simp); try with_reducible rfl
  try simp (maxSteps := 2000000) only [List.getElem_toArray, List.getElem_cons_succ, List.getElem_cons_zero, Act.put, List.setIfInBounds_toArray, List.set_cons_zero, List.set_cons_succ]
  refine wpAnyH_take (i := 12) (v := ?_) rfl (by kernel_rfl) (by kernel_rfl) (by kernel_rfl) (fun _ _ _ h => h) (Or.inl ⟨by first | kernel_rfl | rfl, ?_⟩) (by assumption) ?_
  rotate_left
  · (intro wq hSw; (try dsimp only at hSw); (try simp (maxSteps := 2000000) only [List.getElem_toArray, List.getElem_cons_succ, List.getElem_cons_zero]); go_simp); try with_reducible rfl
  try simp (maxSteps := 2000000) only [List.getElem_toArray, List.getElem_cons_succ, List.getElem_cons_zero, Act.put, List.setIfInBounds_toArray, List.set_cons_zero, List.set_cons_succ]
  refine wpAnyH_take (i := 13) (v := ?_) rfl (by kernel_rfl) (by kernel_rfl) (by kernel_rfl) (fun _ _ _ h => h) (Or.inl ⟨by first | kernel_rfl | rfl, ?_⟩) (by assumption) ?_
  rotate_left
  · (intro wq hSw; (try dsimp only at hSw); (try simp (maxSteps := 2000000) only [List.getElem_toArray, List.getElem_cons_succ, List.getElem_cons_zero]); go_simp); try with_reducible rfl
  try simp (maxSteps := 2000000) only [List.getElem_toArray, List.getElem_cons_succ, List.getElem_cons_zero, Act.put, List.setIfInBounds_toArray, List.set_cons_zero, List.set_cons_succ]
  refine wpAnyH_take (i := 14) (v := ?_) rfl (by kernel_rfl) (by kernel_rfl) (by kernel_rfl) (fun _ _ _ h => h) (Or.inl ⟨by first | kernel_rfl | rfl, ?_⟩) (by assumption) ?_
  rotate_left
  · (intro wq hSw; (try dsimp only at hSw); (try simp (maxSteps := 2000000) only [List.getElem_toArray, List.getElem_cons_succ, List.getElem_cons_zero]); go_simp); try with_reducible rfl
  try simp (maxSteps := 2000000) only [List.getElem_toArray, List.getElem_cons_succ, List.getElem_cons_zero, Act.put, List.setIfInBounds_toArray, List.set_cons_zero, List.set_cons_succ]
  refine wpAnyH_take (i := 15) (v := ?_) rfl (by kernel_rfl) (by kernel_rfl) (by kernel_rfl) (fun _ _ _ h => h) (Or.inl ⟨by first | kernel_rfl | rfl, ?_⟩) (by assumption) ?_
  rotate_left
  · (intro wq hSw; (try dsimp only at hSw); (try simp (maxSteps := 2000000) only [List.getElem_toArray, List.getElem_cons_succ, List.getElem_cons_zero]); go_simp); try with_reducible rfl
  try simp (maxSteps := 2000000) only [List.getElem_toArray, List.getElem_cons_succ, List.getElem_cons_zero, Act.put, List.setIfInBounds_toArray, List.set_cons_zero, List.set_cons_succ]
  refine wpAnyH_take (i := 16) (v := ?_) rfl (by kernel_rfl) (by kernel_rfl) (by kernel_rfl) (fun _ _ _ h => h) (Or.inl ⟨by first | kernel_rfl | rfl, ?_⟩) (by assumption) ?_
  rotate_left
  · (intro wq hSw; (try dsimp only at hSw); (try simp (maxSteps := 2000000) only [List.getElem_toArray, List.getElem_cons_succ, List.getElem_cons_zero]); go_simp); try with_reducible rfl
  try simp (maxSteps := 2000000) only [List.getElem_toArray, List.getElem_cons_succ, List.getElem_cons_zero, Act.put, List.setIfInBounds_toArray, List.set_cons_zero, List.set_cons_succ]
  refine wpAnyH_take (i := 17) (v := ?_) rfl (by kernel_rfl) (by kernel_rfl) (by kernel_rfl) (fun _ _ _ h => h) (Or.inl ⟨by first | kernel_rfl | rfl, ?_⟩) (by assumption) ?_
  rotate_left
  · (intro wq hSw; (try dsimp only at hSw); (try simp (maxSteps := 2000000) only [List.getElem_toArray, List.getElem_cons_succ, List.getElem_cons_zero]); go_simp); try with_reducible rfl
  try simp (maxSteps := 2000000) only [List.getElem_toArray, List.getElem_cons_succ, List.getElem_cons_zero, Act.put, List.setIfInBounds_toArray, List.set_cons_zero, List.set_cons_succ]
  refine wpAnyH_take (i := 18) (v := ?_) rfl (by kernel_rfl) (by kernel_rfl) (by kernel_rfl) (fun _ _ _ h => h) (Or.inl ⟨by first | kernel_rfl | rfl, ?_⟩) (by assumption) ?_
  rotate_left
  · (intro wq hSw; (try dsimp only at hSw); (try simp (maxSteps := 2000000) only [List.getElem_toArray, List.getElem_cons_succ, List.getElem_cons_zero]); go_simp); try with_reducible rfl
  try simp (maxSteps := 2000000) only [List.getElem_toArray, List.getElem_cons_succ, List.getElem_cons_zero, Act.put, List.setIfInBounds_toArray, List.set_cons_zero, List.set_cons_succ]
  refine wpAnyH_take (i := 19) (v := ?_) rfl (by kernel_rfl) (by kernel_rfl) (by kernel_rfl) (fun _ _ _ h => h) (Or.inl ⟨by first | kernel_rfl | rfl, ?_⟩) (by assumption) ?_
  rotate_left
  · (intro wq hSw; (try dsimp only at hSw); (try simp (maxSteps := 2000000) only [List.getElem_toArray, List.getElem_cons_succ, List.getElem_cons_zero]); go_simp); try with_reducible rfl
  try simp (maxSteps := 2000000) only [List.getElem_toArray, List.getElem_cons_succ, List.getElem_cons_zero, Act.put, List.setIfInBounds_toArray, List.set_cons_zero, List.set_cons_succ]
  refine wpAnyH_take (i := 20) (v := ?_) rfl (by kernel_rfl) (by kernel_rfl) (by kernel_rfl) (fun _ _ _ h => h) (Or.inl ⟨by first | kernel_rfl | rfl, ?_⟩) (by assumption) ?_
  rotate_left
  · (intro wq hSw; (try dsimp only at hSw); (try simp (maxSteps := 2000000) only [List.getElem_toArray, List.getElem_cons_succ, List.getElem_cons_zero]); go_simp); try with_reducible rfl
  try simp (maxSteps := 2000000) only [List.getElem_toArray, List.getElem_cons_succ, List.getElem_cons_zero, Act.put, List.setIfInBounds_toArray, List.set_cons_zero, List.set_cons_succ]
  refine wpAnyH_take (i := 21) (v := ?_) rfl (by kernel_rfl) (by kernel_rfl) (by kernel_rfl) (fun _ _ _ h => h) (Or.inl ⟨by first | kernel_rfl | rfl, ?_⟩) (by assumption) ?_
  rotate_left
  · (intro wq hSw; (try dsimp only at hSw); (try simp (maxSteps := 2000000) only [List.getElem_toArray, List.getElem_cons_succ, List.getElem_cons_zero]); go_simp); try with_reducible rfl
  try simp (maxSteps := 2000000) only [List.getElem_toArray, List.getElem_cons_succ, List.getElem_cons_zero, Act.put, List.setIfInBounds_toArray, List.set_cons_zero, List.set_cons_succ]
  refine wpAnyH_ready (rs := [22]) (by kernel_rfl) (by simp) ?_
  refine AllReadyH.cons rfl (fun K hK => ?_) AllReadyH.nil
  try simp (maxSteps := 2000000) only [List.getElem_toArray, List.getElem_cons_succ, List.getElem_cons_zero]
  go_simp
  go_at_call 42
  refine (HFR.out _ hd6).mono ?_
  rintro e w7 ⟨rfl, hb⟩
  have hb7 : Below w6.heap.size w6 w7 := hd6.trans (hb.mono hd6.size)
  clear hb
  try (go_wp2_with fail)
  refine hK.out _ _ (by first | exact HSF.out _ hd6 | exact HSF.out _ hb7 | exact HSF.out _ (hb7.alloc hb7.size _) | exact HSF.out _ hb9) (fun hHeld => ?_)
  clear hK K
  try simp (maxSteps := 2000000) only [List.getElem_toArray, List.getElem_cons_succ, List.getElem_cons_zero, Act.put, List.setIfInBounds_toArray, List.set_cons_zero, List.set_cons_succ]
  refine wpAnyH_take (i := 23) (v := ?_) rfl (by kernel_rfl) (by kernel_rfl) (by kernel_rfl) (fun _ _ _ h => h) (Or.inl ⟨by first | kernel_rfl | rfl, ?_⟩) (by assumption) ?_
  rotate_left
  · (intro wq hSw; (try dsimp only at hSw); (try simp (maxSteps := 2000000) only [List.getElem_toArray, List.getElem_cons_succ, List.getElem_cons_zero]); go_simp); try with_reducible rfl
  try simp (maxSteps := 2000000) only [List.getElem_toArray, List.getElem_cons_succ, List.getElem_cons_zero, Act.put, List.setIfInBounds_toArray, List.set_cons_zero, List.set_cons_succ]
  refine wpAnyH_take (i := 24) (v := ?_) rfl (by kernel_rfl) (by kernel_rfl) (by kernel_rfl) (fun _ _ _ h => h) (Or.inl ⟨by first | kernel_rfl | rfl, ?_⟩) (by assumption) ?_
  rotate_left
  · (intro wq hSw; (try dsimp only at hSw); (try simp (maxSteps := 2000000) only [List.getElem_toArray, List.getElem_cons_succ, List.getElem_cons_zero]); go_simp); try with_reducible rfl
  try simp (maxSteps := 2000000) only [List.getElem_toArray, List.getElem_cons_succ, List.getElem_cons_zero, Act.put, List.setIfInBounds_toArray, List.set_cons_zero, List.set_cons_succ]
  refine wpAnyH_take (i := 25) (v := ?_) rfl (by kernel_rfl) (by kernel_rfl) (by kernel_rfl) (fun _ _ _ h => h) (Or.inl ⟨by first | kernel_rfl | rfl, ?_⟩) (by assumption) ?_
  rotate_left
  · (intro wq hSw; (try dsimp only at hSw); (try simp (maxSteps := 2000000) only [List.getElem_toArray, List.getElem_cons_succ, List.getElem_cons_zero]); go_simp); try with_reducible rfl
  try simp (maxSteps := 2000000) only [List.getElem_toArray, List.getElem_cons_succ, List.getElem_cons_zero, Act.put, List.setIfInBounds_toArray, List.set_cons_zero, List.set_cons_succ]
  refine wpAnyH_take (i := 26) (v := ?_) rfl (by kernel_rfl) (by kernel_rfl) (by kernel_rfl) (fun _ _ _ h => h) (Or.inl ⟨by first | kernel_rfl | rfl, ?_⟩) (by assumption) ?_
  rotate_left
  · (intro wq hSw; (try dsimp only at hSw); (try simp (maxSteps := 2000000) only [List.getElem_toArray, List.getElem_cons_succ, List.getElem_cons_zero]); go_simp); try with_reducible rfl
  try simp (maxSteps := 2000000) only [List.getElem_toArray, List.getElem_cons_succ, List.getElem_cons_zero, Act.put, List.setIfInBounds_toArray, List.set_cons_zero, List.set_cons_succ]
  refine wpAnyH_take (i := 27) (v := ?_) rfl (by kernel_rfl) (by kernel_rfl) (by kernel_rfl) (fun _ _ _ h => h) (Or.inl ⟨by first | kernel_rfl | rfl, ?_⟩) (by assumption) ?_
  rotate_left
  · (intro wq hSw; (try dsimp only at hSw); (try simp (maxSteps := 2000000) only [List.getElem_toArray, List.getElem_cons_succ, List.getElem_cons_zero]); go_simp); try with_reducible rfl
  try simp (maxSteps := 2000000) only [List.getElem_toArray, List.getElem_cons_succ, List.getElem_cons_zero, Act.put, List.setIfInBounds_toArray, List.set_cons_zero, List.set_cons_succ]
  refine wpAnyH_take (i := 28) (v := ?_) rfl (by kernel_rfl) (by kernel_rfl) (by kernel_rfl) (fun _ _ _ h => h) (Or.inl ⟨by first | kernel_rfl | rfl, ?_⟩) (by assumption) ?_
  rotate_left
  · (intro wq hSw; (try dsimp only at hSw); (try simp (maxSteps := 2000000) only [List.getElem_toArray, List.getElem_cons_succ, List.getElem_cons_zero]); go_simp); try with_reducible rfl
  try simp (maxSteps := 2000000) only [List.getElem_toArray, List.getElem_cons_succ, List.getElem_cons_zero, Act.put, List.setIfInBounds_toArray, List.set_cons_zero, List.set_cons_succ]
  refine wpAnyH_take (i := 29) (v := ?_) rfl (by kernel_rfl) (by kernel_rfl) (by kernel_rfl) (fun _ _ _ h => h) (Or.inl ⟨by first | kernel_rfl | rfl, ?_⟩) (by assumption) ?_
  rotate_left
  · (intro wq hSw; (try dsimp only at hSw); (try simp (maxSteps := 2000000) only [List.getElem_toArray, List.getElem_cons_succ, List.getElem_cons_zero]); go_simp); try with_reducible rfl
  try simp (maxSteps := 2000000) only [List.getElem_toArray, List.getElem_cons_succ, List.getElem_cons_zero, Act.put, List.setIfInBounds_toArray, List.set_cons_zero, List.set_cons_succ]
  refine wpAnyH_take (i := 30) (v := ?_) rfl (by kernel_rfl) (by kernel_rfl) (by kernel_rfl) (fun _ _ _ h => h) (Or.inl ⟨by first | kernel_rfl | rfl, ?_⟩) (by assumption) ?_
  rotate_left
  · (intro wq hSw; (try dsimp only at hSw); (try simp (maxSteps := 2000000) only [List.getElem_toArray, List.getElem_cons_succ, List.getElem_cons_zero]); go_simp); try with_reducible rfl
  try simp (maxSteps := 2000000) only [List.getElem_toArray, List.getElem_cons_succ, List.getElem_cons_zero, Act.put, List.setIfInBounds_toArray, List.set_cons_zero, List.set_cons_succ]
  refine wpAnyH_take (i := 31) (v := ?_) rfl (by kernel_rfl) (by kernel_rfl) (by kernel_rfl) (fun _ _ _ h => h) (Or.inl ⟨by first | kernel_rfl | rfl, ?_⟩) (by assumption) ?_
  rotate_left
  · (intro wq hSw; (try dsimp only at hSw); (try simp (maxSteps := 2000000) only [List.getElem_toArray, List.getElem_cons_succ, List.getElem_cons_zero]); go_simp); try with_reducible rfl
  try simp (maxSteps := 2000000) only [List.getElem_toArray, List.getElem_cons_succ, List.getElem_cons_zero, Act.put, List.setIfInBounds_toArray, List.set_cons_zero, List.set_cons_succ]
  refine wpAnyH_take (i := 32) (v := ?_) rfl (by kernel_rfl) (by kernel_rfl) (by kernel_rfl) (fun _ _ _ h => h) (Or.inl ⟨by first | kernel_rfl | rfl, ?_⟩) (by assumption) ?_
  rotate_left
  · (intro wq hSw; (try dsimp only at hSw); (try simp (maxSteps := 2000000) only [List.getElem_toArray, List.getElem_cons_succ, List.getElem_cons_zero]); go_simp); try with_reducible rfl
  try simp (maxSteps := 2000000) only [List.getElem_toArray, List.getElem_cons_succ, List.getElem_cons_zero, Act.put, List.setIfInBounds_toArray, List.set_cons_zero, List.set_cons_succ]
  refine wpAnyH_take (i := 33) (v := ?_) rfl (by kernel_rfl) (by kernel_rfl) (by kernel_rfl) (fun _ _ _ h => h) (Or.inl ⟨by first | kernel_rfl | rfl, ?_⟩) (by assumption) ?_
  rotate_left
  · (intro wq hSw; (try dsimp only at hSw); (try simp (maxSteps := 2000000) only [List.getElem_toArray, List.getElem_cons_succ, List.getElem_cons_zero]); go_simp); try with_reducible rfl
  try simp (maxSteps := 2000000) only [List.getElem_toArray, List.getElem_cons_succ, List.getElem_cons_zero, Act.put, List.setIfInBounds_toArray, List.set_cons_zero, List.set_cons_succ]
  refine wpAnyH_take (i := 34) (v := ?_) rfl (by kernel_rfl) (by kernel_rfl) (by kernel_rfl) (fun _ _ _ h => h) (Or.inl ⟨by first | kernel_rfl | rfl, ?_⟩) (by assumption) ?_
  rotate_left
  · (intro wq hSw; (try dsimp only at hSw); (try simp (maxSteps := 2000000) only [List.getElem_toArray, List.getElem_cons_succ, List.getElem_cons_zero]); go_simp); try with_reducible rfl
  try simp (maxSteps := 2000000) only [List.getElem_toArray, List.getElem_cons_succ, List.getElem_cons_zero, Act.put, List.setIfInBounds_toArray, List.set_cons_zero, List.set_cons_succ]
  refine wpAnyH_take (i := 35) (v := ?_) rfl (by kernel_rfl) (by kernel_rfl) (by kernel_rfl) (fun _ _ _ h => h) (Or.inl ⟨by first | kernel_rfl | rfl, ?_⟩) (by assumption) ?_
  rotate_left
  · (intro wq hSw; (try dsimp only at hSw); (try simp (maxSteps := 2000000) only [List.getElem_toArray, List.getElem_cons_succ, List.getElem_cons_zero]); go_simp); try with_reducible rfl
  try simp (maxSteps := 2000000) only [List.getElem_toArray, List.getElem_cons_succ, List.getElem_cons_zero, Act.put, List.setIfInBounds_toArray, List.set_cons_zero, List.set_cons_succ]
  refine wpAnyH_take (i := 36) (v := ?_) rfl (by kernel_rfl) (by kernel_rfl) (by kernel_rfl) (fun _ _ _ h => h) (Or.inl ⟨by first | kernel_rfl | rfl, ?_⟩) (by assumption) ?_
  rotate_left
  · (intro wq hSw; (try dsimp only at hSw); (try simp (maxSteps := 2000000) only [List.getElem_toArray, List.getElem_cons_succ, List.getElem_cons_zero]); go_simp); try with_reducible rfl
  try simp (maxSteps := 2000000) only [List.getElem_toArray, List.getElem_cons_succ, List.getElem_cons_zero, Act.put, List.setIfInBounds_toArray, List.set_cons_zero, List.set_cons_succ]
  refine wpAnyH_take (i := 37) (v := ?_) rfl (by kernel_rfl) (by kernel_rfl) (by kernel_rfl) (fun _ _ _ h => h) (Or.inl ⟨by first | kernel_rfl | rfl, ?_⟩) (by assumption) ?_
  rotate_left
  · (intro wq hSw; (try dsimp only at hSw); (try simp (maxSteps := 2000000) only [List.getElem_toArray, List.getElem_cons_succ, List.getElem_cons_zero]); go_simp); try with_reducible rfl
  try simp (maxSteps := 2000000) only [List.getElem_toArray, List.getElem_cons_succ, List.getElem_cons_zero, Act.put, List.setIfInBounds_toArray, List.set_cons_zero, List.set_cons_succ]
  refine wpAnyH_take (i := 38) (v := ?_) rfl (by kernel_rfl) (by kernel_rfl) (by kernel_rfl) (fun _ _ _ h => h) (Or.inl ⟨by first | kernel_rfl | rfl, ?_⟩) (by assumption) ?_
  rotate_left
  · (intro wq hSw; (try dsimp only at hSw); (try simp (maxSteps := 2000000) only [List.getElem_toArray, List.getElem_cons_succ, List.getElem_cons_zero]); go_simp); try with_reducible rfl
  try simp (maxSteps := 2000000) only [List.getElem_toArray, List.getElem_cons_succ, List.getElem_cons_zero, Act.put, List.setIfInBounds_toArray, List.set_cons_zero, List.set_cons_succ]
  refine wpAnyH_take (i := 39) (v := ?_) rfl (by kernel_rfl) (by kernel_rfl) (by kernel_rfl) (fun _ _ _ h => h) (Or.inl ⟨by first | kernel_rfl | rfl, ?_⟩) (by assumption) ?_
  rotate_left
  · (intro wq hSw; (try dsimp only at hSw); (try simp (maxSteps := 2000000) only [List.getElem_toArray, List.getElem_cons_succ, List.getElem_cons_zero]); go_simp); try with_reducible rfl
  try simp (maxSteps := 2000000) only [List.getElem_toArray, List.getElem_cons_succ, List.getElem_cons_zero, Act.put, List.setIfInBounds_toArray, List.set_cons_zero, List.set_cons_succ]
  refine wpAnyH_take (i := 40) (v := ?_) rfl (by kernel_rfl) (by kernel_rfl) (by kernel_rfl) (fun _ _ _ h => h) (Or.inl ⟨by first | kernel_rfl | rfl, ?_⟩) (by assumption) ?_
  rotate_left
  · (intro wq hSw; (try dsimp only at hSw); (try simp (maxSteps := 2000000) only [List.getElem_toArray, List.getElem_cons_succ, List.getElem_cons_zero]); go_simp); try with_reducible rfl
  try simp (maxSteps := 2000000) only [List.getElem_toArray, List.getElem_cons_succ, List.getElem_cons_zero, Act.put, List.setIfInBounds_toArray, List.set_cons_zero, List.set_cons_succ]
  refine wpAnyH_take (i := 41) (v := ?_) rfl (by kernel_rfl) (by kernel_rfl) (by kernel_rfl) (fun _ _ _ h => h) (Or.inl ⟨by first | kernel_rfl | rfl, ?_⟩) (by assumption) ?_
  rotate_left
  · (intro wq hSw; (try dsimp only at hSw); (try simp (maxSteps := 2000000) only [List.getElem_toArray, List.getElem_cons_succ, List.getElem_cons_zero]); go_simp); try with_reducible rfl
  try simp (maxSteps := 2000000) only [List.getElem_toArray, List.getElem_cons_succ, List.getElem_cons_zero, Act.put, List.setIfInBounds_toArray, List.set_cons_zero, List.set_cons_succ]
  refine wpAnyH_take (i := 42) (v := ?_) rfl (by kernel_rfl) (by kernel_rfl) (by kernel_rfl) (fun _ _ _ h => h) (Or.inl ⟨by first | kernel_rfl | rfl, ?_⟩) (by assumption) ?_
  rotate_left
  · (intro wq hSw; (try dsimp only at hSw); (try simp (maxSteps := 2000000) only [List.getElem_toArray, List.getElem_cons_succ, List.getElem_cons_zero]); go_simp); try with_reducible rfl
  try simp (maxSteps := 2000000) only [List.getElem_toArray, List.getElem_cons_succ, List.getElem_cons_zero, Act.put, List.setIfInBounds_toArray, List.set_cons_zero, List.set_cons_succ]
  refine wpAnyH_take (i := 43) (v := ?_) rfl (by kernel_rfl) (by kernel_rfl) (by kernel_rfl) (fun _ _ _ h => h) (Or.inl ⟨by first | kernel_rfl | rfl, ?_⟩) (by assumption) ?_
  rotate_left
  · (intro wq hSw; (try dsimp only at hSw); (try simp (maxSteps := 2000000) only [List.getElem_toArray, List.getElem_cons_succ, List.getElem_cons_zero]); go_simp); try with_reducible rfl
  try simp (maxSteps := 2000000) only [List.getElem_toArray, List.getElem_cons_succ, List.getElem_cons_zero, Act.put, List.setIfInBounds_toArray, List.set_cons_zero, List.set_cons_succ]
  refine wpAnyH_take (i := 44) (v := ?_) rfl (by kernel_rfl) (by kernel_rfl) (by kernel_rfl) (fun _ _ _ h => h) (Or.inl ⟨by first | kernel_rfl | rfl, ?_⟩) (by assumption) ?_
  rotate_left
  · (intro wq hSw; (try dsimp only at hSw); (try simp (maxSteps := 2000000) only [List.getElem_toArray, List.getElem_cons_succ, List.getElem_cons_zero]); go_simp); try with_reducible rfl
  try simp (maxSteps := 2000000) only [List.getElem_toArray, List.getElem_cons_succ, List.getElem_cons_zero, Act.put, List.setIfInBounds_toArray, List.set_cons_zero, List.set_cons_succ]
  refine wpAnyH_take (i := 45) (v := ?_) rfl (by kernel_rfl) (by kernel_rfl) (by kernel_rfl) (fun _ _ _ h => h) (Or.inl ⟨by first | kernel_rfl | rfl, ?_⟩) (by assumption) ?_
  rotate_left
  · (intro wq hSw; (try dsimp only at hSw); (try simp (maxSteps := 2000000) only [List.getElem_toArray, List.getElem_cons_succ, List.getElem_cons_zero]); go_simp); try with_reducible rfl
  try simp (maxSteps := 2000000) only [List.getElem_toArray, List.getElem_cons_succ, List.getElem_cons_zero, Act.put, List.setIfInBounds_toArray, List.set_cons_zero, List.set_cons_succ]
  refine wpAnyH_take (i := 46) (v := ?_) rfl (by kernel_rfl) (by kernel_rfl) (by kernel_rfl) (fun _ _ _ h => h) (Or.inl ⟨by first | kernel_rfl | rfl, ?_⟩) (by assumption) ?_
  rotate_left
  · (intro wq hSw; (try dsimp only at hSw); (try simp (maxSteps := 2000000) only [List.getElem_toArray, List.getElem_cons_succ, List.getElem_cons_zero]); go_simp); try with_reducible rfl
  try simp (maxSteps := 2000000) only [List.getElem_toArray, List.getElem_cons_succ, List.getElem_cons_zero, Act.put, List.setIfInBounds_toArray, List.set_cons_zero, List.set_cons_succ]
  refine wpAnyH_take (i := 47) (v := ?_) rfl (by kernel_rfl) (by kernel_rfl) (by kernel_rfl) (fun _ _ _ h => h) (Or.inl ⟨by first | kernel_rfl | rfl, ?_⟩) (by assumption) ?_
  rotate_left
  · (intro wq hSw; (try dsimp only at hSw); (try simp (maxSteps := 2000000) only [List.getElem_toArray, List.getElem_cons_succ, List.getElem_cons_zero]); go_simp); try with_reducible rfl
  try simp (maxSteps := 2000000) only [List.getElem_toArray, List.getElem_cons_succ, List.getElem_cons_zero, Act.put, List.setIfInBounds_toArray, List.set_cons_zero, List.set_cons_succ]
  refine wpAnyH_take (i := 48) (v := ?_) rfl (by kernel_rfl) (by kernel_rfl) (by kernel_rfl) (fun _ _ _ h => h) (Or.inl ⟨by first | kernel_rfl | rfl, ?_⟩) (by assumption) ?_
  rotate_left
  · (intro wq hSw; (try dsimp only at hSw); (try simp (maxSteps := 2000000) only [List.getElem_toArray, List.getElem_cons_succ, List.getElem_cons_zero]); go_simp); try with_reducible rfl
  try simp (maxSteps := 2000000) only [List.getElem_toArray, List.getElem_cons_succ, List.getElem_cons_zero, Act.put, List.setIfInBounds_toArray, List.set_cons_zero, List.set_cons_succ]
  refine wpAnyH_take (i := 49) (v := ?_) rfl (by kernel_rfl) (by kernel_rfl) (by kernel_rfl) (fun _ _ _ h => h) (Or.inl ⟨by first | kernel_rfl | rfl, ?_⟩) (by assumption) ?_
  rotate_left
  · (intro wq hSw; (try dsimp only at hSw); (try simp (maxSteps := 2000000) only [List.getElem_toArray, List.getElem_cons_succ, List.getElem_cons_zero]); go_simp); try with_reducible rfl
  try simp (maxSteps := 2000000) only [List.getElem_toArray, List.getElem_cons_succ, List.getElem_cons_zero, Act.put, List.setIfInBounds_toArray, List.set_cons_zero, List.set_cons_succ]
  refine wpAnyH_take (i := 50) (v := ?_) rfl (by kernel_rfl) (by kernel_rfl) (by kernel_rfl) (fun _ _ _ h => h) (Or.inl ⟨by first | kernel_rfl | rfl, ?_⟩) (by assumption) ?_
  rotate_left
  · (intro wq hSw; (try dsimp only at hSw); (try simp (maxSteps := 2000000) only [List.getElem_toArray, List.getElem_cons_succ, List.getElem_cons_zero]); go_simp); try with_reducible rfl
  try simp (maxSteps := 2000000) only [List.getElem_toArray, List.getElem_cons_succ, List.getElem_cons_zero, Act.put, List.setIfInBounds_toArray, List.set_cons_zero, List.set_cons_succ]
  refine wpAnyH_take (i := 51) (v := ?_) rfl (by kernel_rfl) (by kernel_rfl) (by kernel_rfl) (fun _ _ _ h => h) (Or.inl ⟨by first | kernel_rfl | rfl, ?_⟩) (by assumption) ?_
  rotate_left
  · (intro wq hSw; (try dsimp only at hSw); (try simp (maxSteps := 2000000) only [List.getElem_toArray, List.getElem_cons_succ, List.getElem_cons_zero]); go_simp); try with_reducible rfl
  try simp (maxSteps := 2000000) only [List.getElem_toArray, List.getElem_cons_succ, List.getElem_cons_zero, Act.put, List.setIfInBounds_toArray, List.set_cons_zero, List.set_cons_succ]
  refine wpAnyH_ready (rs := [52]) (by kernel_rfl) (by simp) ?_
  refine AllReadyH.cons rfl (fun K hK => ?_) AllReadyH.nil
  try simp (maxSteps := 2000000) only [List.getElem_toArray, List.getElem_cons_succ, List.getElem_cons_zero]
  go_simp
  refine hK.out _ _ (by first | exact HSF.out _ hd6 | exact HSF.out _ hb7 | exact HSF.out _ (hb7.alloc hb7.size _) | exact HSF.out _ hb9) (fun hHeld => ?_)
  clear hK K
  try simp (maxSteps := 2000000) only [List.getElem_toArray, List.getElem_cons_succ, List.getElem_cons_zero, Act.put, List.setIfInBounds_toArray, List.set_cons_zero, List.set_cons_succ]
  refine wpAnyH_take (i := 53) (v := ?_) rfl (by kernel_rfl) (by kernel_rfl) (by kernel_rfl) (fun _ _ _ h => h) (Or.inl ⟨by first | kernel_rfl | rfl, ?_⟩) (by assumption) ?_
  rotate_left
  · (intro wq hSw; (try dsimp only at hSw); (try simp (maxSteps := 2000000) only [List.getElem_toArray, List.getElem_cons_succ, List.getElem_cons_zero]); go_simp); try with_reducible rfl
  try simp (maxSteps := 2000000) only [List.getElem_toArray, List.getElem_cons_succ, List.getElem_cons_zero, Act.put, List.setIfInBounds_toArray, List.set_cons_zero, List.set_cons_succ]
  refine wpAnyH_ready (rs := [54]) (by kernel_rfl) (by simp) ?_
  refine AllReadyH.cons rfl (fun K hK => ?_) AllReadyH.nil
  try simp (maxSteps := 2000000) only [List.getElem_toArray, List.getElem_cons_succ, List.getElem_cons_zero]
  go_simp
  go_at_call 103
  have h8 : Below w6.heap.size w6 (w7.alloc (.cells #[.int .i64 7] 3)) := hb7.alloc hb7.size _
  have hr8 := RdL.one (R := IntR) IntR.stable (E := 3) (s := 1) (S := fun _ => True) (W := w7) (cs := #[.int .i64 7]) (y := (7 : Int)) rfl rfl
  have hpb8 := bpb_any (c0 := 0) (c := 1) (gen := 300) (size := 5) (xs := []) (ps := [7]) (RdL.nil (A := none) (S := fun _ => True) (w := w7.alloc (.cells #[.int .i64 7] 3))) hr8 (by omega) (by omega) (by omega) (by omega) (fun x hx => by simp at hx; omega)
  rw [show ([] : List Nat) ++ varL 5 ++ varL 300 ++ varL 1 ++ placesL [7] = [5, 172, 2, 1, 7] by decide +kernel] at hpb8
  unfold blobC at hpb8
  refine hpb8.mono ?_
  clear hpb8 hr8
  rintro e w9 ⟨A9, c9, m9, rfl, hr9, hb⟩
  have hb9 : Below w6.heap.size w6 w9 := h8.trans (hb.mono h8.size)
  have hcv : ∀ wq, Below w9.heap.size w9 wq → (convert 80 9 (.slice A9 m9 c9)).run Tryz.prog wq = .ok (.string ⟨#[5, 172, 2, 1, 7]⟩) wq := fun wq h => by
    have t := text_run (c := c9) (hr9.below ByR.stable h)
    rw [show textB [5, 172, 2, 1, 7] = ⟨#[5, 172, 2, 1, 7]⟩ by decide +kernel] at t
    exact t
  have hbb : Below w9.heap.size w9 w9 := Below.refl _ _
  have HB9 := Lib.hid (HB6.out.trans (hb9.mono HB6.out.size))
  clear hb hr9 h8
  try (go_wp2_with fail)
  refine hK.out _ _ (by first | exact HSF.out _ hd6 | exact HSF.out _ hb7 | exact HSF.out _ (hb7.alloc hb7.size _) | exact HSF.out _ hb9) (fun hHeld => ?_)
  clear hK K
  try simp (maxSteps := 2000000) only [List.getElem_toArray, List.getElem_cons_succ, List.getElem_cons_zero, Act.put, List.setIfInBounds_toArray, List.set_cons_zero, List.set_cons_succ]
  refine wpAnyH_nar (S' := fun w' => Below w9.heap.size w9 w') (fun w' h => HSF.out _ (hb9.trans (h.mono hb9.size))) _ _ _ _ ?_
  refine wpAnyH_take (i := 55) (v := ?_) rfl (by kernel_rfl) (by kernel_rfl) (by kernel_rfl) (fun _ _ _ h => h) (Or.inl ⟨by first | kernel_rfl | rfl, ?_⟩) (by assumption) ?_
  rotate_left
  · (intro wq hSw; (try dsimp only at hSw); (try simp (maxSteps := 2000000) only [List.getElem_toArray, List.getElem_cons_succ, List.getElem_cons_zero]); go_simp); try with_reducible rfl
  try simp (maxSteps := 2000000) only [List.getElem_toArray, List.getElem_cons_succ, List.getElem_cons_zero, Act.put, List.setIfInBounds_toArray, List.set_cons_zero, List.set_cons_succ]
  refine wpAnyH_take (i := 56) (v := ?_) rfl (by kernel_rfl) (by kernel_rfl) (by kernel_rfl) (fun _ _ _ h => h) (Or.inl ⟨by first | kernel_rfl | rfl, ?_⟩) (by assumption) ?_
  rotate_left
  · (intro wq hSw; (try dsimp only at hSw); (try simp (maxSteps := 2000000) only [List.getElem_toArray, List.getElem_cons_succ, List.getElem_cons_zero]); go_simp); try with_reducible rfl
  try simp (maxSteps := 2000000) only [List.getElem_toArray, List.getElem_cons_succ, List.getElem_cons_zero, Act.put, List.setIfInBounds_toArray, List.set_cons_zero, List.set_cons_succ]
  refine wpAnyH_take (i := 57) (v := ?_) rfl (by kernel_rfl) (by kernel_rfl) (by kernel_rfl) (fun _ _ _ h => h) (Or.inl ⟨by first | kernel_rfl | rfl, ?_⟩) (by assumption) ?_
  rotate_left
  · (intro wq hSw; (try dsimp only at hSw); (try simp (maxSteps := 2000000) only [List.getElem_toArray, List.getElem_cons_succ, List.getElem_cons_zero]); go_simp); try with_reducible rfl
  try simp (maxSteps := 2000000) only [List.getElem_toArray, List.getElem_cons_succ, List.getElem_cons_zero, Act.put, List.setIfInBounds_toArray, List.set_cons_zero, List.set_cons_succ]
  refine wpAnyH_take (i := 58) (v := ?_) rfl (by kernel_rfl) (by kernel_rfl) (by kernel_rfl) (fun _ _ _ h => h) (Or.inl ⟨by first | kernel_rfl | rfl, ?_⟩) (by assumption) ?_
  rotate_left
  · (intro wq hSw; (try dsimp only at hSw); (try simp (maxSteps := 2000000) only [List.getElem_toArray, List.getElem_cons_succ, List.getElem_cons_zero]); go_simp); try with_reducible rfl
  try simp (maxSteps := 2000000) only [List.getElem_toArray, List.getElem_cons_succ, List.getElem_cons_zero, Act.put, List.setIfInBounds_toArray, List.set_cons_zero, List.set_cons_succ]
  refine wpAnyH_done (by kernel_rfl) ?_ _
  clear hHeld
  go_wp2_with fail
  go_ret
  exact ⟨rfl, HB9.out⟩
end Go.Proofs.YtcliejdiaohamaaGreat
