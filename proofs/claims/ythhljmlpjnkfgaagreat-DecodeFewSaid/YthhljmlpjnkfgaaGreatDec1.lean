/-
  How the data comes of k shards.
-/
import Derived.Test.YthhljmlpjnkfgaaGreatCod3
set_option linter.unusedSimpArgs false
set_option linter.unusedVariables false
namespace Go.Proofs.YthhljmlpjnkfgaaGreat
open Go.RowKit Go.Cib
attribute [local go_sem] cell_set Later.cell Later.frozen Grw.cell Grw.frozen

/-- A number that is not below nought. -/
def NatR (_ : Nat → Prop) (_ : World) (cs : List Value) (x : Nat) : Prop := cs = [.int .i64 (x : Int)]
theorem NatR.stable : Stable NatR := fun _ _ _ _ _ _ h _ => h
theorem NatR.one : ∀ S w cs x, NatR S w cs x → ∀ u ∈ cs, u.oneCell' = true := by
  rintro S w cs x rfl u hu
  simp at hu
  subst hu; rfl
theorem nat_at {S : Nat → Prop} {w : World} {b o n : Nat} {xs : List Nat} (h : RdL NatR 1 S w (some ⟨b, o, none⟩) n xs) {k : Nat} (hk : k < n) : w.cell? ⟨b, o + k, none⟩ = some (.int .i64 (gt xs k : Int)) := by
  obtain ⟨hl, cs, _, rfl, h2⟩ := h.at hk
  have e : gt xs k = xs[k] := Option.some.inj ((gt_of_lt hl).symm.trans (List.getElem?_eq_getElem hl))
  rw [e]
  have := h2 0 _ rfl
  rwa [Nat.mul_one, Nat.add_zero] at this
def useF (k : Nat) (us : List Nat) : Rws := us.map (rowF k)
theorem useF_shp {k n : Nat} {us : List Nat} (h : us.length = n) : Shp n k (useF k us) := ⟨by unfold useF; simpa using h, fun r hr => by
  obtain ⟨i, _, rfl⟩ := List.mem_map.1 hr
  exact ⟨rowF_len k i, rowF_byt k i⟩⟩
theorem useF_take {k j : Nat} {us : List Nat} (hj : j < us.length) : (useF k (us.take (j + 1))).flatten = (useF k (us.take j)).flatten ++ rowF k (gt us j) := by
  unfold useF
  rw [take_gt hj, List.map_append, List.flatten_append]; simp
set_option maxRecDepth 100000 in
set_option maxHeartbeats 8000000 in
theorem inverse_any {w : World} {cb b k m c : Nat} {A : Option Addr} {S : Nat → Prop} {us : List Nat} (H : CodAt w cb b k m) (R : RdL NatR 1 S w A k us) (hus : ∀ u ∈ us, u < k + m) (hI : Inj k (useF k us)) :
    Calls Tryz.prog 55 #[.pointer (some ⟨cb, 0, none⟩), .slice A k c] w fun e w' => ∃ A' c', e = .returned (.tuple #[.agg #[.int .i64 (k : Int), .int .i64 (k : Int), .slice A' (k * k) c'], .int .i64 0]) ∧ k * k ≤ c' ∧
      RdL ByR 1 (fun j => w.heap.size ≤ j) w' A' (k * k) (mkF (invE (useF k us) k) k k).flatten ∧ Below w.heap.size w w' := by
  have HC := Lib.hid H
  have HR := Lib.hid R
  have hul := R.1
  have hk1 := H.k1
  have hm1 := H.m1
  have hkm := H.km
  have q0 : (0 : Int) ≤ (k : Int) := Int.natCast_nonneg _
  have q1 : (k : Int) ≤ 255 := by omega
  have hkk : k * k ≤ 65025 := Nat.mul_le_mul (by omega : k ≤ 255) (by omega : k ≤ 255)
  have hK := fun w' h => ck_any (w := w') (HC.out.below h)
  clear H R
  go_enter Tryz.func55, Tryz.ntmps55
  go_wp2_with (go_at_call 31; refine (hK _ (by repeat (first | (with_reducible exact Below.refl _ _) | (with_reducible assumption) | (with_reducible refine Below.drew ?_) | (with_reducible refine Below.setCell ?_ ?_ _) | (with_reducible refine Below.alloc ?_ ?_ _) | (with_reducible refine Below.later ?_ ?_ _) | (first | (with_reducible exact Nat.le_refl _) | omega | (simp only [World.size_alloc, World.size_setCell, World.size_drew] <;> omega))))).mono ?_; rintro e w9 ⟨rfl, hw9⟩; rw [hw9]; clear hw9)
  have hi0 : FilI w ((w.alloc (.cells #[.int .i64 0, .int .i64 0, .slice none 0 0] 55)).alloc (.cells #[.int .i64 (k : Int), .int .i64 (k : Int), .slice none 0 0] 55)) w.heap.size (w.heap.size + 1) k k 0 none 0 (useF k (us.take 0)).flatten := by
    have e := BoxAt.new (w.alloc (.cells #[.int .i64 0, .int .i64 0, .slice none 0 0] 55)) #[.int .i64 (k : Int), .int .i64 (k : Int), .slice none 0 0] 55
    rw [World.size_alloc] at e
    exact ⟨OwnL.nil_, e, (BoxAt.new w _ _).alloc _, (by intro h; cases h), (by intro h; cases h), by omega, Nat.le_refl _, by omega, (by repeat (first | (with_reducible exact Below.refl _ _) | (with_reducible assumption) | (with_reducible refine Below.drew ?_) | (with_reducible refine Below.setCell ?_ ?_ _) | (with_reducible refine Below.alloc ?_ ?_ _) | (with_reducible refine Below.later ?_ ?_ _) | (first | (with_reducible exact Nat.le_refl _) | omega | (simp only [World.size_alloc, World.size_setCell, World.size_drew] <;> omega))))⟩
  have HI0 := Lib.hid hi0
  clear hi0
  generalize ((w.alloc (.cells #[.int .i64 0, .int .i64 0, .slice none 0 0] 55)).alloc (.cells #[.int .i64 (k : Int), .int .i64 (k : Int), .slice none 0 0] 55)) = wA at *
  go_loopw [16] (fun vi wr => ∃ (i : Nat) (A : Option Addr) (c : Nat), i ≤ k ∧ vi = .int .i64 i ∧ Hid (FilI w wr w.heap.size (w.heap.size + 1) k k (i * k) A c (useF k (us.take i)).flatten)) (fun vi _ => k - (intOf vi).toNat)
  case atStart => exact ⟨0, none, 0, Nat.zero_le _, rfl, by rw [Nat.zero_mul]; exact HI0⟩
  case round =>
    clear HI0
    obtain ⟨i, AR, cR, hi, rfl, HI⟩ := hrel
    have p0 : (0 : Int) ≤ (i : Int) := Int.natCast_nonneg _
    by_cases hlt : i < k
    · have p1 : (i : Int) < (k : Int) := by omega
      obtain ⟨bb, o, rfl, _, hbb⟩ := HR.out.addr hlt
      have c1 := (HI.out.bel.cell (p := ⟨bb, o + i, none⟩) hbb).trans (nat_at HR.out hlt)
      have hD := HI.out.below (w2 := wr.drew) (Below.refl _ _).drew
      have hrow := crow_any (HC.out.below hD.bel) (i := gt us i) (hus _ (gt_mem (by omega)))
      have s1 : wr.drew.cell? ⟨w.heap.size + 1, 2, none⟩ = some (.slice AR (i * k) cR) := hD.bq.cell 2
      have hsum : i * k + k ≤ 65025 := by
        have := Nat.mul_le_mul (show i + 1 ≤ k from hlt) (Nat.le_refl k)
        rw [Nat.succ_mul] at this
        omega
      have hut := useF_take (k := k) (us := us) (j := i) (by omega)
      have HD := Lib.hid hD
      have HUT := Lib.hid hut
      clear hD hut
      go_wp2_with fail
      refine wp_region_L (S := fun w' => w'.cell? ⟨w.heap.size + 1, 2, none⟩ = some (.slice AR (i * k) cR)) [7] (by kernel_rfl) (by first | exact s1 | exact s2 | exact s3) (fun hHeld => ?_)
      refine wpAnyL_take (i := 0) (v := ?_) rfl (by kernel_rfl) (by kernel_rfl) (by kernel_rfl) (by kernel_rfl) (fun _ _ _ h => h) (Or.inl ⟨by first | kernel_rfl | rfl, ?_⟩) (by assumption) ?_
      rotate_left
      · (intro wq0 hSw; (try dsimp only at hSw); (try simp (maxSteps := 2000000) only [List.getElem_toArray, List.getElem_cons_succ, List.getElem_cons_zero]); go_simp); try with_reducible rfl
      try simp (maxSteps := 2000000) only [List.getElem_toArray, List.getElem_cons_succ, List.getElem_cons_zero, Act.put, List.setIfInBounds_toArray, List.set_cons_zero, List.set_cons_succ]
      refine wpAnyL_take (i := 1) (v := ?_) rfl (by kernel_rfl) (by kernel_rfl) (by kernel_rfl) (by kernel_rfl) (fun _ _ _ h => h) (Or.inl ⟨by first | kernel_rfl | rfl, ?_⟩) (by assumption) ?_
      rotate_left
      · (intro wq0 hSw; (try dsimp only at hSw); (try simp (maxSteps := 2000000) only [List.getElem_toArray, List.getElem_cons_succ, List.getElem_cons_zero]); go_simp); try with_reducible rfl
      try simp (maxSteps := 2000000) only [List.getElem_toArray, List.getElem_cons_succ, List.getElem_cons_zero, Act.put, List.setIfInBounds_toArray, List.set_cons_zero, List.set_cons_succ]
      refine wpAnyL_take (i := 2) (v := ?_) rfl (by kernel_rfl) (by kernel_rfl) (by kernel_rfl) (by kernel_rfl) (fun _ _ _ h => h) (Or.inl ⟨by first | kernel_rfl | rfl, ?_⟩) (by assumption) ?_
      rotate_left
      · (intro wq0 hSw; (try dsimp only at hSw); (try simp (maxSteps := 2000000) only [List.getElem_toArray, List.getElem_cons_succ, List.getElem_cons_zero]); go_simp); try with_reducible rfl
      try simp (maxSteps := 2000000) only [List.getElem_toArray, List.getElem_cons_succ, List.getElem_cons_zero, Act.put, List.setIfInBounds_toArray, List.set_cons_zero, List.set_cons_succ]
      refine wpAnyL_take (i := 3) (v := ?_) rfl (by kernel_rfl) (by kernel_rfl) (by kernel_rfl) (by kernel_rfl) (fun _ _ _ h => h) (Or.inl ⟨by first | kernel_rfl | rfl, ?_⟩) (by assumption) ?_
      rotate_left
      · (intro wq0 hSw; (try dsimp only at hSw); (try simp (maxSteps := 2000000) only [List.getElem_toArray, List.getElem_cons_succ, List.getElem_cons_zero]); go_simp); try with_reducible rfl
      try simp (maxSteps := 2000000) only [List.getElem_toArray, List.getElem_cons_succ, List.getElem_cons_zero, Act.put, List.setIfInBounds_toArray, List.set_cons_zero, List.set_cons_succ]
      refine wpAnyL_ready (rs := [4]) (by kernel_rfl) (by simp) ?_
      refine AllReadyL.cons rfl (fun K hK => ?_) AllReadyL.nil
      try simp (maxSteps := 2000000) only [List.getElem_toArray, List.getElem_cons_succ, List.getElem_cons_zero]
      go_simp
      go_at_call 56
      refine hrow.mono ?_
      rintro e w2 ⟨g, rfl, hr2, hb2⟩
      have hD2 := HD.out.below hb2
      have s2 : w2.cell? ⟨w.heap.size + 1, 2, none⟩ = some (.slice AR (i * k) cR) := hD2.bq.cell 2
      have HD2 := Lib.hid hD2
      have HR2 := Lib.hid hr2
      clear hrow hb2 hD2 hr2
      try (go_wp2_with fail)
      refine hK.out _ _ (by first | exact s1 | exact s2 | exact s3) (fun hHeld => ?_)
      clear hK K
      try simp (maxSteps := 2000000) only [List.getElem_toArray, List.getElem_cons_succ, List.getElem_cons_zero, Act.put, List.setIfInBounds_toArray, List.set_cons_zero, List.set_cons_succ]
      refine wpAnyL_ready (rs := [5]) (by kernel_rfl) (by simp) ?_
      refine AllReadyL.cons rfl (fun K hK => ?_) AllReadyL.nil
      refine step_law (by rfl) (wpList_appL ByR.stable ByR.one sl_by (by rfl) (by rfl) (base := w.heap.size + 1) (S := fun _ => True) (by rfl) HD2.out.own (by rfl) HR2.out (fun _ _ h => h) (by unfold maxLen; omega) (by omega) HD2.out.br.lt ?_)
      intro A7 c7 w7 hc7 hown7 hg7 hat7
      refine And.intro rfl ?_
      have B9 := HD2.out.bq.grw hg7 HD2.out.nq
      have s3 : w7.cell? ⟨w.heap.size + 1, 2, none⟩ = some (.slice AR (i * k) cR) := B9.cell 2
      have f3 := B9.frozen 2
      have hp7 := HD2.out.appended hg7 hown7 hat7
      rw [← HUT.out] at hp7
      have hp8 : FilI w (w7.setCell ⟨w.heap.size + 1, 2, none⟩ (.slice A7 (i * k + k) c7)) w.heap.size (w.heap.size + 1) k k ((i + 1) * k) A7 c7 (useF k (us.take (i + 1))).flatten := by rw [Nat.succ_mul]; exact hp7
      have HP8 := Lib.hid hp8
      clear B9 hp7 hp8 hown7 hg7 hat7
      refine hK.out _ _ (by first | exact s1 | exact s2 | exact s3) (fun hHeld => ?_)
      clear hK K
      try simp (maxSteps := 2000000) only [List.getElem_toArray, List.getElem_cons_succ, List.getElem_cons_zero, Act.put, List.setIfInBounds_toArray, List.set_cons_zero, List.set_cons_succ]
      refine wpAnyL_take (i := 6) (v := ?_) rfl (by kernel_rfl) (by kernel_rfl) (by kernel_rfl) (by kernel_rfl) (fun _ _ _ h => h) (Or.inl ⟨by first | kernel_rfl | rfl, ?_⟩) (by assumption) ?_
      rotate_left
      · (intro wq0 hSw; (try dsimp only at hSw); (try simp (maxSteps := 2000000) only [List.getElem_toArray, List.getElem_cons_succ, List.getElem_cons_zero]); go_simp); try with_reducible rfl
      try simp (maxSteps := 2000000) only [List.getElem_toArray, List.getElem_cons_succ, List.getElem_cons_zero, Act.put, List.setIfInBounds_toArray, List.set_cons_zero, List.set_cons_succ]
      refine wpAnyL_ready (rs := [7]) (by kernel_rfl) (by simp) ?_
      refine AllReadyL.last rfl (by decide) (fun K hK => ?_) AllReadyL.nil
      try simp (maxSteps := 2000000) only [List.getElem_toArray, List.getElem_cons_succ, List.getElem_cons_zero]
      go_simp
      refine hK.out _ _ ?_
      clear hK K
      try simp (maxSteps := 2000000) only [List.getElem_toArray, List.getElem_cons_succ, List.getElem_cons_zero, Act.put, List.setIfInBounds_toArray, List.set_cons_zero, List.set_cons_succ]
      refine wpAnyL_done (by kernel_rfl) ?_ _
      clear s1 s2 s3 f3 hHeld
      go_wp2_with fail
      exact ⟨⟨i + 1, A7, c7, by omega, by go_num, HP8⟩, by simp [intOf]; omega⟩
    · have p1 : ¬ (i : Int) < (k : Int) := by omega
      obtain rfl : i = k := by omega
      have hD := HI.out.below (w2 := wr.drew) (Below.refl _ _).drew
      have hF := cfield_any (HC.out.below hD.bel)
      rw [← hul, List.take_length, hul] at hD
      obtain ⟨A', c', e1, hc', hr'⟩ := hD.own.rd (S' := fun _ => True) (fun _ _ => trivial) (fun cs x hx => hx)
      injection e1 with e1 _ e2
      subst e1; subst e2
      have hiv := invert_any (HC.out.below hD.bel).fld (useF_shp hul) hI hk1 (by omega) hr' hc'
      have s1 : wr.drew.cell? ⟨w.heap.size + 1, 0, none⟩ = some (.int .i64 i) ∧ wr.drew.cell? ⟨w.heap.size + 1, 1, none⟩ = some (.int .i64 i) ∧ wr.drew.cell? ⟨w.heap.size + 1, 2, none⟩ = some (.slice AR (i * i) cR) := ⟨hD.bq.cell 0, hD.bq.cell 1, hD.bq.cell 2⟩
      have hlr := hD.br.lt
      have HD := Lib.hid hD
      clear hD hr'
      go_wp2_with fail
      refine wp_region_L (S := fun w' => w'.cell? ⟨w.heap.size + 1, 0, none⟩ = some (.int .i64 i) ∧ w'.cell? ⟨w.heap.size + 1, 1, none⟩ = some (.int .i64 i) ∧ w'.cell? ⟨w.heap.size + 1, 2, none⟩ = some (.slice AR (i * i) cR)) [6, 7] (by kernel_rfl) (by first | exact s1 | exact s2) (fun hHeld => ?_)
      refine wpAnyL_take (i := 0) (v := ?_) rfl (by kernel_rfl) (by kernel_rfl) (by kernel_rfl) (by kernel_rfl) (fun _ _ _ h => h) (Or.inl ⟨by first | kernel_rfl | rfl, ?_⟩) (by assumption) ?_
      rotate_left
      · (intro wq0 hSw; (try dsimp only at hSw); (try simp (maxSteps := 2000000) only [List.getElem_toArray, List.getElem_cons_succ, List.getElem_cons_zero]); go_simp); try with_reducible rfl
      try simp (maxSteps := 2000000) only [List.getElem_toArray, List.getElem_cons_succ, List.getElem_cons_zero, Act.put, List.setIfInBounds_toArray, List.set_cons_zero, List.set_cons_succ]
      refine wpAnyL_take (i := 2) (v := ?_) rfl (by kernel_rfl) (by kernel_rfl) (by kernel_rfl) (by kernel_rfl) (fun _ _ _ h => h) (Or.inl ⟨by first | kernel_rfl | rfl, ?_⟩) (by assumption) ?_
      rotate_left
      · (intro wq0 hSw; (try dsimp only at hSw); (try simp (maxSteps := 2000000) only [List.getElem_toArray, List.getElem_cons_succ, List.getElem_cons_zero]); go_simp); try with_reducible rfl
      try simp (maxSteps := 2000000) only [List.getElem_toArray, List.getElem_cons_succ, List.getElem_cons_zero, Act.put, List.setIfInBounds_toArray, List.set_cons_zero, List.set_cons_succ]
      refine wpAnyL_ready (rs := [1]) (by kernel_rfl) (by simp) ?_
      refine AllReadyL.cons rfl (fun K hK => ?_) AllReadyL.nil
      try simp (maxSteps := 2000000) only [List.getElem_toArray, List.getElem_cons_succ, List.getElem_cons_zero]
      go_simp
      go_at_call 58
      refine hF.mono ?_
      rintro e w9 ⟨rfl, hw9⟩
      rw [hw9]
      clear hw9 hF
      try (go_wp2_with fail)
      refine hK.out _ _ (by first | exact s1 | exact s2) (fun hHeld => ?_)
      clear hK K
      try simp (maxSteps := 2000000) only [List.getElem_toArray, List.getElem_cons_succ, List.getElem_cons_zero, Act.put, List.setIfInBounds_toArray, List.set_cons_zero, List.set_cons_succ]
      refine wpAnyL_ready (rs := [3]) (by kernel_rfl) (by simp) ?_
      refine AllReadyL.cons rfl (fun K hK => ?_) AllReadyL.nil
      try simp (maxSteps := 2000000) only [List.getElem_toArray, List.getElem_cons_succ, List.getElem_cons_zero]
      go_simp
      go_at_call 72
      refine hiv.mono ?_
      rintro e w2 ⟨A2, c2, rfl, hc2, hr2, hb2⟩
      have hD2 := HD.out.below hb2
      have s2 : w2.cell? ⟨w.heap.size + 1, 0, none⟩ = some (.int .i64 i) ∧ w2.cell? ⟨w.heap.size + 1, 1, none⟩ = some (.int .i64 i) ∧ w2.cell? ⟨w.heap.size + 1, 2, none⟩ = some (.slice AR (i * i) cR) := ⟨hD2.bq.cell 0, hD2.bq.cell 1, hD2.bq.cell 2⟩
      have g0 := hD2.br.cell 0
      have g1 := hD2.br.cell 1
      have g2 := hD2.br.cell 2
      have f0 := hD2.br.frozen 0
      have f1 := hD2.br.frozen 1
      have f2 := hD2.br.frozen 2
      have HD2 := Lib.hid hD2
      have HR2 := Lib.hid hr2
      clear hiv hb2 hD2 hr2
      try (go_wp2_with fail)
      refine hK.out _ _ (by first | exact s1 | exact s2) (fun hHeld => ?_)
      clear hK K
      try simp (maxSteps := 2000000) only [List.getElem_toArray, List.getElem_cons_succ, List.getElem_cons_zero, Act.put, List.setIfInBounds_toArray, List.set_cons_zero, List.set_cons_succ]
      refine wpAnyL_take (i := 4) (v := ?_) rfl (by kernel_rfl) (by kernel_rfl) (by kernel_rfl) (by kernel_rfl) (fun _ _ _ h => h) (Or.inl ⟨by first | kernel_rfl | rfl, ?_⟩) (by assumption) ?_
      rotate_left
      · (intro wq0 hSw; (try dsimp only at hSw); (try simp (maxSteps := 2000000) only [List.getElem_toArray, List.getElem_cons_succ, List.getElem_cons_zero]); go_simp); try with_reducible rfl
      try simp (maxSteps := 2000000) only [List.getElem_toArray, List.getElem_cons_succ, List.getElem_cons_zero, Act.put, List.setIfInBounds_toArray, List.set_cons_zero, List.set_cons_succ]
      refine wpAnyL_take (i := 5) (v := ?_) rfl (by kernel_rfl) (by kernel_rfl) (by kernel_rfl) (by kernel_rfl) (fun _ _ _ h => h) (Or.inl ⟨by first | kernel_rfl | rfl, ?_⟩) (by assumption) ?_
      rotate_left
      · (intro wq0 hSw; (try dsimp only at hSw); (try simp (maxSteps := 2000000) only [List.getElem_toArray, List.getElem_cons_succ, List.getElem_cons_zero]); go_simp); try with_reducible rfl
      try simp (maxSteps := 2000000) only [List.getElem_toArray, List.getElem_cons_succ, List.getElem_cons_zero, Act.put, List.setIfInBounds_toArray, List.set_cons_zero, List.set_cons_succ]
      refine wpAnyL_ready (rs := [6]) (by kernel_rfl) (by simp) ?_
      refine AllReadyL.last rfl (by decide) (fun K hK => ?_) AllReadyL.nil
      try simp (maxSteps := 2000000) only [List.getElem_toArray, List.getElem_cons_succ, List.getElem_cons_zero]
      go_simp
      refine hK.out _ _ ?_
      clear hK K
      try simp (maxSteps := 2000000) only [List.getElem_toArray, List.getElem_cons_succ, List.getElem_cons_zero, Act.put, List.setIfInBounds_toArray, List.set_cons_zero, List.set_cons_succ]
      refine wpAnyL_ready (rs := [7]) (by kernel_rfl) (by simp) ?_
      refine AllReadyL.last rfl (by decide) (fun K hK => ?_) AllReadyL.nil
      try simp (maxSteps := 2000000) only [List.getElem_toArray, List.getElem_cons_succ, List.getElem_cons_zero]
      go_simp
      refine hK.out _ _ ?_
      clear hK K
      try simp (maxSteps := 2000000) only [List.getElem_toArray, List.getElem_cons_succ, List.getElem_cons_zero, Act.put, List.setIfInBounds_toArray, List.set_cons_zero, List.set_cons_succ]
      refine wpAnyL_done (by kernel_rfl) ?_ _
      go_wp2_with fail
      refine bodyPost_ret (v := .tuple #[.agg #[.int .i64 (i : Int), .int .i64 (i : Int), .slice A2 (i * i) c2], .int .i64 0]) (by simp [results, Tryz.results55, go_sem, *]) rfl ?_
      have hs := HD.out.bel.size
      refine ⟨A2, c2, rfl, hc2, ?_, ?_⟩
      · refine RdL.weaken ByR.stable (S := fun k => wr.drew.heap.size ≤ k) ?_ (fun k hk => Nat.le_trans hs hk)
        repeat (first | exact HR2.out | refine RdL.setCell ByR.stable ?_ (show ¬ wr.drew.heap.size ≤ _ by dsimp only; omega) _)
      · repeat (first | exact HD2.out.bel | refine Below.setCell ?_ (by dsimp only; omega) _)
end Go.Proofs.YthhljmlpjnkfgaaGreat
