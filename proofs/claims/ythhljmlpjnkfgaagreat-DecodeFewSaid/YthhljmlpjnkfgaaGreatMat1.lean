/-
  Matrices: small things, and one that a function tells.
-/
import Derived.Test.YthhljmlpjnkfgaaGreatFld3
set_option linter.unusedSimpArgs false
set_option linter.unusedVariables false
namespace Go.Proofs.YthhljmlpjnkfgaaGreat
open Go.RowKit Go.Cib
attribute [local go_sem] cell_set Later.cell Later.frozen Grw.cell Grw.frozen

theorem within_any {w : World} (n : Int) : Calls Tryz.prog 46 #[.int .i64 n] w fun e w' => e = .returned (.bool (decide (1 ≤ n ∧ n ≤ 255))) ∧ w' = w := by
  go_enter Tryz.func46, Tryz.ntmps46
  by_cases h1 : 1 ≤ n
  · by_cases h2 : n ≤ 255
    · have e : decide (1 ≤ n ∧ n ≤ 255) = true := by simp; omega
      rw [e]
      have h3 : n ≥ 1 := h1
      go_wp2_with fail
      go_ret
      exact ⟨rfl, rfl⟩
    · have e : decide (1 ≤ n ∧ n ≤ 255) = false := by simp; omega
      rw [e]
      have h3 : n ≥ 1 := h1
      go_wp2_with fail
      go_ret
      exact ⟨rfl, rfl⟩
  · have e : decide (1 ≤ n ∧ n ≤ 255) = false := by simp; omega
    rw [e]
    have h3 : ¬ n ≥ 1 := h1
    go_wp2_with fail
    go_ret
    exact ⟨rfl, rfl⟩

/-- Row by row. -/
def flatU (f : Nat → Nat → Nat) (cols i j : Nat) : List Nat := ((List.range i).flatMap fun a => (List.range cols).map (f a)) ++ (List.range j).map (f i)
def flatF (f : Nat → Nat → Nat) (rows cols : Nat) : List Nat := (List.range rows).flatMap fun a => (List.range cols).map (f a)
theorem flatU_zero (f : Nat → Nat → Nat) (cols i : Nat) : flatU f cols i 0 = flatF f i cols := by unfold flatU flatF; simp
theorem flatU_next (f : Nat → Nat → Nat) (cols i j : Nat) : flatU f cols i (j + 1) = flatU f cols i j ++ [f i j] := by unfold flatU; rw [List.range_succ, List.map_append, List.append_assoc]; rfl
theorem flatU_row (f : Nat → Nat → Nat) (cols i : Nat) : flatU f cols i cols = flatF f (i + 1) cols := by unfold flatU flatF; rw [List.range_succ, List.flatMap_append]; simp

structure FilI (w0 wr : World) (rb q rows cols n : Nat) (A : Option Addr) (c : Nat) (xs : List Nat) : Prop where
  own : OwnL ByR 5 1 (rb + 1) (fun _ => True) wr (.slice A n c) n xs
  bq : BoxAt wr q #[.int .i64 rows, .int .i64 cols, .slice A n c]
  br : BoxAt wr rb #[.int .i64 0, .int .i64 0, .slice none 0 0]
  nq : some q ≠ (Value.slice A n c).ownBlock
  nr : some rb ≠ (Value.slice A n c).ownBlock
  qr : rb ≠ q
  hr : w0.heap.size ≤ rb
  hq : w0.heap.size ≤ q
  bel : Below w0.heap.size w0 wr
theorem FilI.below {w0 wr w2 : World} {rb q rows cols n : Nat} {A : Option Addr} {c : Nat} {xs : List Nat} (h : FilI w0 wr rb q rows cols n A c xs) (hb : Below wr.heap.size wr w2) : FilI w0 w2 rb q rows cols n A c xs :=
  ⟨h.own.keep ByR.stable hb, h.bq.below hb, h.br.below hb, h.nq, h.nr, h.qr, h.hr, h.hq, h.bel.trans (hb.mono h.bel.size)⟩
theorem FilI.pushed {w0 w2 : World} {rb q rows cols n : Nat} {A A' : Option Addr} {c c' : Nat} {xs : List Nat} {y : Nat} (h : FilI w0 w2 rb q rows cols n A c xs) (u : Grw (Value.slice A n c).ownBlock w2)
    (hown : OwnL ByR 5 1 (rb + 1) (fun _ => True) u.to (.slice A' (n + 1) c') (n + 1) (xs ++ [y])) (hb : Below (rb + 1) w2 u.to)
    (hat : Value.ownBlock (.slice A' (n + 1) c') = (Value.slice A n c).ownBlock ∨ Value.ownBlock (.slice A' (n + 1) c') = some (w2.heap.size + 1)) :
    FilI w0 (u.to.setCell ⟨q, 2, none⟩ (.slice A' (n + 1) c')) rb q rows cols (n + 1) A' c' (xs ++ [y]) := by
  have hl := h.bq.lt
  have hl2 := h.br.lt
  have hne : ∀ k, k < w2.heap.size → some k ≠ (Value.slice A n c).ownBlock → some k ≠ Value.ownBlock (.slice A' (n + 1) c') := fun k hk h1 => by
    rcases hat with e | e
    · rw [e]; exact h1
    · rw [e]; intro h2; injection h2 with h2; omega
  refine ⟨?_, ?_, ?_, hne q hl h.nq, hne rb hl2 h.nr, h.qr, h.hr, h.hq, (h.bel.trans (hb.mono (by have := h.hr; omega))).setCell h.hq _⟩
  · obtain ⟨css, h1, h2, h3, h4, h5⟩ := hown
    refine ⟨css, h1.kept (row := some q) ⟨rfl, rfl, rfl, by simp, fun k _ hk => Below.heap_setCell _ _ _ _ (fun e => hk (by rw [e]))⟩ ?_, h2, h3, h4, fun i cs x hc hx => h5 i cs x hc hx⟩
    exact .inr fun e => hne q hl h.nq e.symm
  · have := (h.bq.grw u.ok h.nq).set 2 (.slice A' (n + 1) c')
    simpa using this
  · exact (h.br.grw u.ok h.nr).set_other (by exact h.qr) _

set_option maxRecDepth 100000 in
set_option maxHeartbeats 4000000 in
theorem filled_any {w : World} {rows cols : Nat} (hrows : rows ≤ 255) (hcols : cols ≤ 255) {g : FuncId} {cap : Array Value} {f : Nat → Nat → Nat} (hg : Hid (∀ args w, (callFunc g args).run Tryz.prog w = .ok (.enter g args) w))
    (hstep : Hid (∀ i j W, i < rows → j < cols → Below w.heap.size w W → Calls Tryz.prog g (#[.int .i64 (i : Int), .int .i64 (j : Int)] ++ cap) W fun e W' => e = .returned (.int .u8 (f i j : Int)) ∧ f i j < 256 ∧ Below W.heap.size W W')) :
    Calls Tryz.prog 48 #[.int .i64 (rows : Int), .int .i64 (cols : Int), .func (.func g) #[] cap] w fun e w' => ∃ A c, e = .returned (.agg #[.int .i64 (rows : Int), .int .i64 (cols : Int), .slice A (rows * cols) c]) ∧ rows * cols ≤ c ∧
      RdL ByR 1 (fun k => w.heap.size ≤ k) w' A (rows * cols) (flatF f rows cols) ∧ Below w.heap.size w w' := by
  have hgg := hg.out
  have q0 : (0 : Int) ≤ (rows : Int) := Int.natCast_nonneg _
  have q1 : (0 : Int) ≤ (cols : Int) := Int.natCast_nonneg _
  have q2 : (rows : Int) ≤ 255 := by omega
  have q3 : (cols : Int) ≤ 255 := by omega
  have hmx : rows * cols ≤ 65025 := Nat.mul_le_mul hrows hcols
  have q4 : IntKind.i64.wrap ((rows : Int) * (cols : Int)) = ((rows * cols : Nat) : Int) := by
    rw [IntKind.wrap_i64, ← Int.natCast_mul]; omega
  go_enter Tryz.func48, Tryz.ntmps48
  go_wp2_with (at_make; refine wpList_make0 ByR (fun _ => True) sl_by rfl rfl (base := w.heap.size + 1) rfl rfl (rows * cols) (by omega) (by omega) (by unfold maxLen; omega) (by (first | (with_reducible exact Nat.le_refl _) | omega | (simp only [World.size_alloc, World.size_setCell, World.size_drew] <;> omega))) ?_; intro y hys hown; have hyb : Below w.heap.size w y.to := ((Below.refl _ _).alloc (Nat.le_refl _) _).trans (y.ok.mono (by rw [World.size_alloc]; omega)))
  obtain ⟨q, hq⟩ : ∃ q, y.to.heap.size = q := ⟨_, rfl⟩
  obtain ⟨rb, hrb⟩ : ∃ rb, w.heap.size = rb := ⟨_, rfl⟩
  have hF0 : FilI w (y.to.alloc (.cells #[.int .i64 (rows : Int), .int .i64 (cols : Int), .slice (some ⟨w.heap.size + 1, 0, none⟩) 0 (rows * cols)] 55)) rb q rows cols 0 (some ⟨w.heap.size + 1, 0, none⟩) (rows * cols) [] := by
    have hyl := y.ok.size
    simp only [World.size_alloc] at hown hys hyl
    refine ⟨OwnL.alloc ByR.stable (hrb ▸ hown) _, hq ▸ BoxAt.new _ _ _, hrb ▸ ((BoxAt.new w _ _).below y.ok).alloc _, ?_, ?_, by omega, by omega, by omega, hyb.alloc hyb.size _⟩
    · intro e; injection e with e; dsimp only at e; omega
    · intro e; injection e with e; dsimp only at e; omega
  rw [hrb, hq]
  rw [hrb] at hF0
  have HF0 := Lib.hid hF0
  have HRB := Lib.hid hrb
  clear hF0 hown hys hyb hq hrb
  generalize hwB : (y.to.alloc _) = wB at *
  clear hwB
  go_loopw [18] (fun vi wr => ∃ (i : Nat) (A : Option Addr) (c : Nat), i ≤ rows ∧ vi = .int .i64 i ∧ Hid (FilI w wr rb q rows cols (i * cols) A c (flatF f i cols))) (fun vi _ => rows - (intOf vi).toNat)
  case atStart => exact ⟨0, _, _, Nat.zero_le _, rfl, by rw [Nat.zero_mul]; exact HF0⟩
  case round =>
    obtain ⟨wo, rfl⟩ : ∃ wo, wo = wr := ⟨_, rfl⟩
    clear HF0
    obtain ⟨i, A, c, hi, rfl, HI⟩ := hrel
    have p0 : (0 : Int) ≤ (i : Int) := Int.natCast_nonneg _
    by_cases hlt : i < rows
    · have p1 : (i : Int) < (rows : Int) := by omega
      go_wp2_with fail
      go_loopw [22] (fun vi wr => ∃ (j : Nat) (A : Option Addr) (c : Nat), j ≤ cols ∧ vi = .int .i64 j ∧ Hid (FilI w wr rb q rows cols (i * cols + j) A c (flatU f cols i j))) (fun vi _ => cols - (intOf vi).toNat)
      case atStart => exact ⟨0, A, c, Nat.zero_le _, rfl, by rw [flatU_zero]; exact HI⟩
      case round =>
        clear HI A c
        obtain ⟨j, A, c, hj, rfl, HI⟩ := hrel
        have p2 : (0 : Int) ≤ (j : Int) := Int.natCast_nonneg _
        by_cases hlj : j < cols
        · have p3 : (j : Int) < (cols : Int) := by omega
          have hnx : i * cols + j < 65025 := by
            have := Nat.mul_le_mul (show i + 1 ≤ rows from hlt) (Nat.le_refl cols)
            rw [Nat.succ_mul] at this
            omega
          have c0 := HI.out.bq.cell 2
          have s0 : wr.drew.cell? ⟨q, 2, none⟩ = some (.slice A (i * cols + j) c) ∧ q < wr.drew.heap.size := ⟨c0, HI.out.bq.lt⟩
          have HD := Lib.hid (HI.out.below (w2 := wr.drew) (Below.refl _ _).drew)
          have hst := hstep.out i j wr.drew hlt hlj HD.out.bel
          clear c0
          go_wp2_with fail
          refine wp_region_L (S := fun w' => w'.cell? ⟨q, 2, none⟩ = some (.slice A (i * cols + j) c) ∧ q < w'.heap.size) [9] (by kernel_rfl) (by first | exact s0 | exact s2 | exact s9 | exact ⟨(World.cell?_alloc_past _ _ _ s2.2).trans s2.1, by rw [World.size_alloc]; exact Nat.lt_succ_of_lt s2.2⟩) (fun hHeld => ?_)
          refine wpAnyL_take (i := 0) (v := ?_) rfl (by kernel_rfl) (by kernel_rfl) (by kernel_rfl) (by kernel_rfl) (fun _ _ _ h => h) (Or.inl ⟨by first | kernel_rfl | rfl, ?_⟩) (by assumption) ?_
          rotate_left
          · (intro wq0 hSw; (try dsimp only at hSw); (try simp (maxSteps := 2000000) only [List.getElem_toArray, List.getElem_cons_succ, List.getElem_cons_zero]); go_simp); try with_reducible rfl
          try simp (maxSteps := 2000000) only [List.getElem_toArray, List.getElem_cons_succ, List.getElem_cons_zero, Act.put, List.setIfInBounds_toArray, List.set_cons_zero, List.set_cons_succ]
          refine wpAnyL_take (i := 1) (v := ?_) rfl (by kernel_rfl) (by kernel_rfl) (by kernel_rfl) (by kernel_rfl) (fun _ _ _ h => h) (Or.inl ⟨by first | kernel_rfl | rfl, ?_⟩) (by assumption) ?_
          rotate_left
          · (intro wq0 hSw; (try dsimp only at hSw); (try simp (maxSteps := 2000000) only [List.getElem_toArray, List.getElem_cons_succ, List.getElem_cons_zero]); go_simp); try with_reducible rfl
          try simp (maxSteps := 2000000) only [List.getElem_toArray, List.getElem_cons_succ, List.getElem_cons_zero, Act.put, List.setIfInBounds_toArray, List.set_cons_zero, List.set_cons_succ]
          refine wpAnyL_take (i := 2) (v := ?_) rfl (by kernel_rfl) (by kernel_rfl) (by kernel_rfl) (by kernel_rfl) (fun _ _ _ h => h) (Or.inl ⟨by first | kernel_rfl | rfl, ?_⟩) (by assumption) ?_
          rotate_left
          · (intro wq0 hSw; (try dsimp only at hSw); (try simp (maxSteps := 2000000) only [List.getElem_toArray, List.getElem_cons_succ, List.getElem_cons_zero]); go_simp); try with_reducible rfl
          try simp (maxSteps := 2000000) only [List.getElem_toArray, List.getElem_cons_succ, List.getElem_cons_zero, Act.put, List.setIfInBounds_toArray, List.set_cons_zero, List.set_cons_succ]
          refine wpAnyL_take (i := 3) (v := ?_) rfl (by kernel_rfl) (by kernel_rfl) (by kernel_rfl) (by kernel_rfl) (fun _ _ _ h => h) (Or.inl ⟨by first | kernel_rfl | rfl, ?_⟩) (by assumption) ?_
          rotate_left
          · (intro wq0 hSw; (try dsimp only at hSw); (try simp (maxSteps := 2000000) only [List.getElem_toArray, List.getElem_cons_succ, List.getElem_cons_zero]); go_simp); try with_reducible rfl
          try simp (maxSteps := 2000000) only [List.getElem_toArray, List.getElem_cons_succ, List.getElem_cons_zero, Act.put, List.setIfInBounds_toArray, List.set_cons_zero, List.set_cons_succ]
          refine wpAnyL_take (i := 4) (v := ?_) rfl (by kernel_rfl) (by kernel_rfl) (by kernel_rfl) (by kernel_rfl) (fun _ _ _ h => h) (Or.inl ⟨by first | kernel_rfl | rfl, ?_⟩) (by assumption) ?_
          rotate_left
          · (intro wq0 hSw; (try dsimp only at hSw); (try simp (maxSteps := 2000000) only [List.getElem_toArray, List.getElem_cons_succ, List.getElem_cons_zero]); go_simp); try with_reducible rfl
          try simp (maxSteps := 2000000) only [List.getElem_toArray, List.getElem_cons_succ, List.getElem_cons_zero, Act.put, List.setIfInBounds_toArray, List.set_cons_zero, List.set_cons_succ]
          refine wpAnyL_ready (rs := [5]) (by kernel_rfl) (by simp) ?_
          refine AllReadyL.cons rfl (fun K hK => ?_) AllReadyL.nil
          try simp (maxSteps := 2000000) only [List.getElem_toArray, List.getElem_cons_succ, List.getElem_cons_zero]
          go_simp
          refine hst.mono ?_
          rintro e w2 ⟨rfl, hv, hb2⟩
          have HI2 := Lib.hid (HD.out.below hb2)
          have s2 : w2.cell? ⟨q, 2, none⟩ = some (.slice A (i * cols + j) c) ∧ q < w2.heap.size := ⟨HI2.out.bq.cell 2, HI2.out.bq.lt⟩
          have HV := Lib.hid hv
          clear hst hb2 hv
          try (go_wp2_with fail)
          refine hK.out _ _ (by first | exact s0 | exact s2 | exact s9 | exact ⟨(World.cell?_alloc_past _ _ _ s2.2).trans s2.1, by rw [World.size_alloc]; exact Nat.lt_succ_of_lt s2.2⟩) (fun hHeld => ?_)
          clear hK K
          try simp (maxSteps := 2000000) only [List.getElem_toArray, List.getElem_cons_succ, List.getElem_cons_zero, Act.put, List.setIfInBounds_toArray, List.set_cons_zero, List.set_cons_succ]
          refine wpAnyL_ready (rs := [6]) (by kernel_rfl) (by simp) ?_
          refine AllReadyL.cons rfl (fun K hK => ?_) AllReadyL.nil
          try simp (maxSteps := 2000000) only [List.getElem_toArray, List.getElem_cons_succ, List.getElem_cons_zero]
          go_simp
          refine hK.out _ _ (by first | exact s0 | exact s2 | exact s9 | exact ⟨(World.cell?_alloc_past _ _ _ s2.2).trans s2.1, by rw [World.size_alloc]; exact Nat.lt_succ_of_lt s2.2⟩) (fun hHeld => ?_)
          clear hK K
          try simp (maxSteps := 2000000) only [List.getElem_toArray, List.getElem_cons_succ, List.getElem_cons_zero, Act.put, List.setIfInBounds_toArray, List.set_cons_zero, List.set_cons_succ]
          refine wpAnyL_ready (rs := [7]) (by kernel_rfl) (by simp) ?_
          refine AllReadyL.cons rfl (fun K hK => ?_) AllReadyL.nil
          refine step_law (by rfl) (wpList_push1 ByR.stable ByR.one sl_by (by rfl) (by rfl) (base := rb + 1) (S := fun _ => True) (cs := #[.int .u8 (f i j : Int)]) (y := f i j) (by rfl) (by rfl) HI2.out.own (by rfl) ⟨HV.out, rfl⟩ (by unfold maxLen; omega) (by omega) HI2.out.br.lt ?_)
          intro A8 c8 u8 hc8 own9 hlt8 hb8 hat8
          refine And.intro rfl ?_
          have B9 := HI2.out.bq.grw u8.ok HI2.out.nq
          have s9 : u8.to.cell? ⟨q, 2, none⟩ = some (.slice A (i * cols + j) c) ∧ q < u8.to.heap.size := ⟨B9.cell 2, B9.lt⟩
          have f9 := B9.frozen 2
          have HP := Lib.hid (HI2.out.pushed u8 own9 hb8 hat8)
          clear own9 hb8 hat8 B9
          refine hK.out _ _ (by first | exact s0 | exact s2 | exact s9 | exact ⟨(World.cell?_alloc_past _ _ _ s2.2).trans s2.1, by rw [World.size_alloc]; exact Nat.lt_succ_of_lt s2.2⟩) (fun hHeld => ?_)
          clear hK K
          try simp (maxSteps := 2000000) only [List.getElem_toArray, List.getElem_cons_succ, List.getElem_cons_zero, Act.put, List.setIfInBounds_toArray, List.set_cons_zero, List.set_cons_succ]
          refine wpAnyL_take (i := 8) (v := ?_) rfl (by kernel_rfl) (by kernel_rfl) (by kernel_rfl) (by kernel_rfl) (fun _ _ _ h => h) (Or.inl ⟨by first | kernel_rfl | rfl, ?_⟩) (by assumption) ?_
          rotate_left
          · (intro wq0 hSw; (try dsimp only at hSw); (try simp (maxSteps := 2000000) only [List.getElem_toArray, List.getElem_cons_succ, List.getElem_cons_zero]); go_simp); try with_reducible rfl
          try simp (maxSteps := 2000000) only [List.getElem_toArray, List.getElem_cons_succ, List.getElem_cons_zero, Act.put, List.setIfInBounds_toArray, List.set_cons_zero, List.set_cons_succ]
          refine wpAnyL_ready (rs := [9]) (by kernel_rfl) (by simp) ?_
          refine AllReadyL.last rfl (by decide) (fun K hK => ?_) AllReadyL.nil
          try simp (maxSteps := 2000000) only [List.getElem_toArray, List.getElem_cons_succ, List.getElem_cons_zero]
          go_simp
          refine hK.out _ _ ?_
          clear hK K
          try simp (maxSteps := 2000000) only [List.getElem_toArray, List.getElem_cons_succ, List.getElem_cons_zero, Act.put, List.setIfInBounds_toArray, List.set_cons_zero, List.set_cons_succ]
          refine wpAnyL_done (by kernel_rfl) ?_ _
          clear f9 s9 s2 hHeld
          rw [← flatU_next] at HP
          go_wp2_with fail
          exact ⟨⟨j + 1, A8, c8, by omega, by go_num, HP⟩, by simp [intOf]; omega⟩
        · have p3 : ¬ (j : Int) < (cols : Int) := by omega
          obtain rfl : j = cols := by omega
          rw [flatU_row, ← Nat.succ_mul] at HI
          go_wp2_with fail
          exact ⟨⟨i + 1, A, c, by omega, by go_num, HI⟩, by simp [intOf]; omega⟩
    · have p1 : ¬ (i : Int) < (rows : Int) := by omega
      obtain rfl : i = rows := by omega
      have b0 := HI.out.bq.cell 0
      have b1 := HI.out.bq.cell 1
      have b2 := HI.out.bq.cell 2
      have r0 := HI.out.br.cell 0
      have r1 := HI.out.br.cell 1
      have r2 := HI.out.br.cell 2
      have f0 := HI.out.br.frozen 0
      have f1 := HI.out.br.frozen 1
      have f2 := HI.out.br.frozen 2
      go_wp2_with fail
      refine bodyPost_ret (v := .agg #[.int .i64 (i : Int), .int .i64 (cols : Int), .slice A (i * cols) c]) (by simp [results, Tryz.results48, go_sem, *]) rfl ?_
      obtain ⟨A', c', e1, hc, hr⟩ := HI.out.own.rd (S' := fun k => rb < k) (fun _ hk => hk) (fun cs x hx => hx)
      injection e1 with e1 _ e2
      subst e1; subst e2
      have hrl : ∀ {w' : World} {p : Addr} {v : Value}, p.block = rb → RdL ByR 1 (fun k => rb < k) w' A (i * cols) (flatF f i cols) → RdL ByR 1 (fun k => rb < k) (w'.setCell p v) A (i * cols) (flatF f i cols) := fun hp h => h.setCell ByR.stable (by rw [hp]; exact Nat.lt_irrefl _) _
      have hbl : ∀ {w' : World} {p : Addr} {v : Value}, p.block = rb → Below w.heap.size w w' → Below w.heap.size w (w'.setCell p v) := fun hp h => h.setCell (by rw [hp]; exact HI.out.hr) _
      refine ⟨A, c, rfl, hc, RdL.weaken ByR.stable (S := fun k => rb < k) ?_ (fun k hk => Nat.le_trans HI.out.hr (Nat.le_of_lt hk)), ?_⟩
      · repeat (first | exact hr | refine hrl rfl ?_)
      · repeat (first | exact HI.out.bel | refine hbl rfl ?_)
end Go.Proofs.YthhljmlpjnkfgaaGreat
