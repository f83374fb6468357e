/-
  The product of two matrices.
-/
import Derived.Test.YthhljmlpjnkfgaaGreatMat9
set_option linter.unusedSimpArgs false
set_option linter.unusedVariables false
namespace Go.Proofs.YthhljmlpjnkfgaaGreat
open Go.RowKit Go.Cib
attribute [local go_sem] cell_set Later.cell Later.frozen Grw.cell Grw.frozen

/-- Rows, each times a factor, added to z. -/
def combF : List Nat → Rws → List Nat → List Nat
  | c :: cs, r :: rs, z => combF cs rs (fd c r z)
  | _, _, z => z
theorem combF_snoc : ∀ (cs : List Nat) (rs : Rws) (c : Nat) (r z : List Nat), cs.length = rs.length → combF (cs ++ [c]) (rs ++ [r]) z = fd c r (combF cs rs z)
  | [], [], _, _, _, _ => rfl
  | [], _ :: _, _, _, _, h => by cases h
  | _ :: _, [], _, _, _, h => by cases h
  | c' :: cs, r' :: rs, c, r, z, h => combF_snoc cs rs c r (fd c' r' z) (by simpa using h)
theorem combF_take {u : List Nat} {B : Rws} {z : List Nat} {j : Nat} (hj : j < u.length) (hb : j < B.length) : combF (u.take (j + 1)) (B.take (j + 1)) z = fd (gt u j) (ra B j) (combF (u.take j) (B.take j) z) := by
  rw [take_gt hj, show B.take (j + 1) = B.take j ++ [ra B j] by rw [List.take_add_one, ra_of_lt hb]; rfl, combF_snoc _ _ _ _ _ (by rw [List.length_take, List.length_take]; omega)]
theorem combF_ok {m : Nat} : ∀ (cs : List Nat) (rs : Rws) (z : List Nat), z.length = m → Byt z → (combF cs rs z).length = m ∧ Byt (combF cs rs z)
  | [], _, _, h, h2 => ⟨h, h2⟩
  | _ :: _, [], _, h, h2 => ⟨h, h2⟩
  | c :: cs, r :: rs, z, h, h2 => combF_ok cs rs (fd c r z) (by rw [fd_len]; exact h) (fd_byt _ _ _ h2)
def mulF (U B : Rws) (m : Nat) : Rws := U.map fun u => combF u B (List.replicate m 0)
theorem mulF_take {U B : Rws} {r n m i : Nat} (hU : Shp r n U) (hi : i < r) : ((mulF U B m).take (i + 1)).flatten = ((mulF U B m).take i).flatten ++ combF (ra U i) B (List.replicate m 0) := by
  have h1 : (mulF U B m)[i]? = some (combF (ra U i) B (List.replicate m 0)) := by unfold mulF; rw [List.getElem?_map, ra_of_lt (by rw [hU.1]; exact hi)]; rfl
  rw [List.take_add_one, h1, List.flatten_append]
  simp
theorem byt_zeros (m : Nat) : Byt (List.replicate m 0) := fun x hx => by rw [(List.mem_replicate.1 hx).2]; omega
theorem FilI.appended {w0 w2 : World} {rb q rows cols n m : Nat} {A A' : Option Addr} {c c' : Nat} {xs ys : List Nat} (h : FilI w0 w2 rb q rows cols n A c xs) {u : World} (hg : w2.grownBy u (Value.slice A n c).ownBlock)
    (hown : OwnL ByR 5 1 (rb + 1) (fun _ => True) u (.slice A' (n + m) c') (n + m) (xs ++ ys))
    (hat : Value.ownBlock (.slice A' (n + m) c') = (Value.slice A n c).ownBlock ∨ Value.ownBlock (.slice A' (n + m) c') = some w2.heap.size) :
    FilI w0 (u.setCell ⟨q, 2, none⟩ (.slice A' (n + m) c')) rb q rows cols (n + m) A' c' (xs ++ ys) := by
  have hl := h.bq.lt
  have hl2 := h.br.lt
  have hb : Below w0.heap.size w2 u := ⟨hg.os, hg.tape, hg.output, hg.size, fun k hk => hg.block k (Nat.lt_of_lt_of_le hk h.bel.size) (fun e => by have h1 := (h.own.lt k e.symm).1; have := h.hr; omega)⟩
  have hne : ∀ k, k < w2.heap.size → some k ≠ (Value.slice A n c).ownBlock → some k ≠ Value.ownBlock (.slice A' (n + m) c') := fun k hk h1 => by
    rcases hat with e | e
    · rw [e]; exact h1
    · rw [e]; intro h2; injection h2 with h2; omega
  refine ⟨?_, ?_, ?_, hne q hl h.nq, hne rb hl2 h.nr, h.qr, h.hr, h.hq, (h.bel.trans hb).setCell h.hq _⟩
  · obtain ⟨css, h1, h2, h3, h4, h5⟩ := hown
    refine ⟨css, h1.kept (row := some q) ⟨rfl, rfl, rfl, by simp, fun k _ hk => Below.heap_setCell _ _ _ _ (fun e => hk (by rw [e]))⟩ ?_, h2, h3, h4, fun i cs x hc hx => h5 i cs x hc hx⟩
    exact .inr fun e => hne q hl h.nq e.symm
  · have := (h.bq.grw hg h.nq).set 2 (.slice A' (n + m) c')
    simpa using this
  · exact (h.br.grw hg h.nr).set_other (by exact h.qr) _
set_option maxRecDepth 100000 in
set_option maxHeartbeats 16000000 in
theorem mmul_any {w : World} {b r n m c1 c2 : Nat} {A1 A2 : Option Addr} {S : Nat → Prop} {U B : Rws} (F : Fld w b) (hU : Shp r n U) (hB : Shp n m B) (h1 : 1 ≤ r) (h2 : r ≤ 255) (h3 : 1 ≤ n) (h4 : n ≤ 255) (h5 : 1 ≤ m) (h6 : m ≤ 255)
    (R1 : RdL ByR 1 S w A1 (r * n) U.flatten) (R2 : RdL ByR 1 S w A2 (n * m) B.flatten) (hc1 : r * n ≤ c1) (hc2 : n * m ≤ c2) :
    Calls Tryz.prog 57 #[.pointer (some ⟨b, 0, none⟩), .agg #[.int .i64 (r : Int), .int .i64 (n : Int), .slice A1 (r * n) c1], .agg #[.int .i64 (n : Int), .int .i64 (m : Int), .slice A2 (n * m) c2]] w fun e w' => ∃ A' c',
      e = .returned (.tuple #[.agg #[.int .i64 (r : Int), .int .i64 (m : Int), .slice A' (r * m) c'], .int .i64 0]) ∧ r * m ≤ c' ∧ RdL ByR 1 (fun k => w.heap.size ≤ k) w' A' (r * m) (mulF U B m).flatten ∧ Below w.heap.size w w' := by
  have HR1 := Lib.hid R1
  have HR2 := Lib.hid R2
  have HF := Lib.hid F
  have q1 : (r : Int) ≤ 255 := by omega
  have q2 : (0 : Int) ≤ (r : Int) := Int.natCast_nonneg _
  have q3 : (n : Int) ≤ 255 := by omega
  have q4 : (0 : Int) ≤ (n : Int) := Int.natCast_nonneg _
  have q5 : (m : Int) ≤ 255 := by omega
  have q6 : (0 : Int) ≤ (m : Int) := Int.natCast_nonneg _
  have hmx : r * m ≤ 65025 := Nat.mul_le_mul h2 h6
  have q7 : IntKind.i64.wrap ((r : Int) * (m : Int)) = ((r * m : Nat) : Int) := by
    rw [IntKind.wrap_i64, ← Int.natCast_mul]; omega
  clear R1 R2 F
  go_enter Tryz.func57, Tryz.ntmps57
  go_wp2_with fail
  have ha1 := ((BoxAt.new w #[.int .i64 (r : Int), .int .i64 (n : Int), .slice A1 (r * n) c1] 55).alloc (.cells #[.int .i64 (n : Int), .int .i64 (m : Int), .slice A2 (n * m) c2] 55)).alloc (.cells #[.int .i64 0, .int .i64 0, .slice none 0 0] 55)
  have hb1 := (BoxAt.new (w.alloc (.cells #[.int .i64 (r : Int), .int .i64 (n : Int), .slice A1 (r * n) c1] 55)) #[.int .i64 (n : Int), .int .i64 (m : Int), .slice A2 (n * m) c2] 55).alloc (.cells #[.int .i64 0, .int .i64 0, .slice none 0 0] 55)
  have hr1 := BoxAt.new ((w.alloc (.cells #[.int .i64 (r : Int), .int .i64 (n : Int), .slice A1 (r * n) c1] 55)).alloc (.cells #[.int .i64 (n : Int), .int .i64 (m : Int), .slice A2 (n * m) c2] 55)) #[.int .i64 0, .int .i64 0, .slice none 0 0] 55
  have hbe : Below w.heap.size w (((w.alloc (.cells #[.int .i64 (r : Int), .int .i64 (n : Int), .slice A1 (r * n) c1] 55)).alloc (.cells #[.int .i64 (n : Int), .int .i64 (m : Int), .slice A2 (n * m) c2] 55)).alloc (.cells #[.int .i64 0, .int .i64 0, .slice none 0 0] 55)) := (by repeat (first | (with_reducible exact Below.refl _ _) | (with_reducible assumption) | (with_reducible refine Below.drew ?_) | (with_reducible refine Below.setCell ?_ ?_ _) | (with_reducible refine Below.alloc ?_ ?_ _) | (with_reducible refine Below.later ?_ ?_ _) | (first | (with_reducible exact Nat.le_refl _) | omega | (simp only [World.size_alloc, World.size_setCell, World.size_drew] <;> omega))))
  simp only [World.size_alloc] at ha1 hb1 hr1
  generalize (((w.alloc (.cells #[.int .i64 (r : Int), .int .i64 (n : Int), .slice A1 (r * n) c1] 55)).alloc (.cells #[.int .i64 (n : Int), .int .i64 (m : Int), .slice A2 (n * m) c2] 55)).alloc (.cells #[.int .i64 0, .int .i64 0, .slice none 0 0] 55)) = w1 at *
  refine (nobody_any (HF.out.below hbe)).mono ?_
  rintro e w2 ⟨rfl, t2⟩
  replace hbe := hbe.trans (t2.mono hbe.size)
  replace ha1 := ha1.below t2
  replace hb1 := hb1.below t2
  replace hr1 := hr1.below t2
  have a0 := ha1.cell 0
  have a1 := ha1.cell 1
  have a2 := ha1.cell 2
  have b0 := hb1.cell 0
  have b1 := hb1.cell 1
  have b2 := hb1.cell 2
  clear t2
  go_wp2_with fail
  refine (right_ok h1 h2 h3 h4).mono ?_
  rintro e w3 ⟨rfl, t2⟩
  replace hbe := hbe.trans (t2.mono hbe.size)
  replace ha1 := ha1.below t2
  replace hb1 := hb1.below t2
  replace hr1 := hr1.below t2
  replace a0 := ha1.cell 0
  replace a1 := ha1.cell 1
  replace a2 := ha1.cell 2
  replace b0 := hb1.cell 0
  replace b1 := hb1.cell 1
  replace b2 := hb1.cell 2
  clear t2
  go_wp2_with fail
  refine (right_ok h3 h4 h5 h6).mono ?_
  rintro e w4 ⟨rfl, t2⟩
  replace hbe := hbe.trans (t2.mono hbe.size)
  replace ha1 := ha1.below t2
  replace hb1 := hb1.below t2
  replace hr1 := hr1.below t2
  replace a0 := ha1.cell 0
  replace a1 := ha1.cell 1
  replace a2 := ha1.cell 2
  replace b0 := hb1.cell 0
  replace b1 := hb1.cell 1
  replace b2 := hb1.cell 2
  clear t2
  go_wp2_with fail
  have hab := ha1.lt
  have hbb := hb1.lt
  have hrb := hr1.lt
  have hs4 := hbe.size
  have s1 : w4.drew.cell? ⟨w.heap.size, 0, none⟩ = some (.int .i64 r) ∧ w4.drew.cell? ⟨w.heap.size + 1, 1, none⟩ = some (.int .i64 m) := ⟨a0, b1⟩
  have keepB : ∀ w', Below w4.drew.heap.size w4.drew w' → w'.cell? ⟨w.heap.size, 0, none⟩ = some (.int .i64 r) ∧ w'.cell? ⟨w.heap.size + 1, 1, none⟩ = some (.int .i64 m) := fun w' h => ⟨(h.cell (p := ⟨w.heap.size, 0, none⟩) hab).trans a0, (h.cell (p := ⟨w.heap.size + 1, 1, none⟩) hbb).trans b1⟩
  have KB := Lib.hid keepB
  have HA := Lib.hid ha1
  have HBx := Lib.hid hb1
  have HRx := Lib.hid hr1
  have HBE := Lib.hid hbe
  have hd4 : w4.drew.heap.size = w4.heap.size := rfl
  clear keepB ha1 hb1 hr1 hbe
  refine wp_region_held_drew (S := fun w' => w'.cell? ⟨w.heap.size, 0, none⟩ = some (.int .i64 r) ∧ w'.cell? ⟨w.heap.size + 1, 1, none⟩ = some (.int .i64 m)) (by kernel_rfl) (by first | exact s1 | exact KB.out _ (by assumption)) (fun hHeld => ?_)
  refine wpAnyH_take (i := 0) (v := ?_) rfl (by kernel_rfl) (by kernel_rfl) (by kernel_rfl) (fun _ _ _ h => h) (Or.inl ⟨by first | kernel_rfl | rfl, ?_⟩) (by assumption) ?_
  rotate_left
  · (intro wq hSw; (try dsimp only at hSw); (try simp (maxSteps := 2000000) only [List.getElem_toArray, List.getElem_cons_succ, List.getElem_cons_zero]); go_simp); try with_reducible rfl
  try simp (maxSteps := 2000000) only [List.getElem_toArray, List.getElem_cons_succ, List.getElem_cons_zero, Act.put, List.setIfInBounds_toArray, List.set_cons_zero, List.set_cons_succ]
  refine wpAnyH_take (i := 1) (v := ?_) rfl (by kernel_rfl) (by kernel_rfl) (by kernel_rfl) (fun _ _ _ h => h) (Or.inl ⟨by first | kernel_rfl | rfl, ?_⟩) (by assumption) ?_
  rotate_left
  · (intro wq hSw; (try dsimp only at hSw); (try simp (maxSteps := 2000000) only [List.getElem_toArray, List.getElem_cons_succ, List.getElem_cons_zero]); go_simp); try with_reducible rfl
  try simp (maxSteps := 2000000) only [List.getElem_toArray, List.getElem_cons_succ, List.getElem_cons_zero, Act.put, List.setIfInBounds_toArray, List.set_cons_zero, List.set_cons_succ]
  refine wpAnyH_take (i := 2) (v := ?_) rfl (by kernel_rfl) (by kernel_rfl) (by kernel_rfl) (fun _ _ _ h => h) (Or.inl ⟨by first | kernel_rfl | rfl, ?_⟩) (by assumption) ?_
  rotate_left
  · (intro wq hSw; (try dsimp only at hSw); (try simp (maxSteps := 2000000) only [List.getElem_toArray, List.getElem_cons_succ, List.getElem_cons_zero]); go_simp); try with_reducible rfl
  try simp (maxSteps := 2000000) only [List.getElem_toArray, List.getElem_cons_succ, List.getElem_cons_zero, Act.put, List.setIfInBounds_toArray, List.set_cons_zero, List.set_cons_succ]
  refine wpAnyH_take (i := 3) (v := ?_) rfl (by kernel_rfl) (by kernel_rfl) (by kernel_rfl) (fun _ _ _ h => h) (Or.inl ⟨by first | kernel_rfl | rfl, ?_⟩) (by assumption) ?_
  rotate_left
  · (intro wq hSw; (try dsimp only at hSw); (try simp (maxSteps := 2000000) only [List.getElem_toArray, List.getElem_cons_succ, List.getElem_cons_zero]); go_simp); try with_reducible rfl
  try simp (maxSteps := 2000000) only [List.getElem_toArray, List.getElem_cons_succ, List.getElem_cons_zero, Act.put, List.setIfInBounds_toArray, List.set_cons_zero, List.set_cons_succ]
  refine wpAnyH_take (i := 4) (v := ?_) rfl (by kernel_rfl) (by kernel_rfl) (by kernel_rfl) (fun _ _ _ h => h) (Or.inl ⟨by first | kernel_rfl | rfl, ?_⟩) (by assumption) ?_
  rotate_left
  · (intro wq hSw; (try dsimp only at hSw); (try simp (maxSteps := 2000000) only [List.getElem_toArray, List.getElem_cons_succ, List.getElem_cons_zero]); go_simp); try with_reducible rfl
  try simp (maxSteps := 2000000) only [List.getElem_toArray, List.getElem_cons_succ, List.getElem_cons_zero, Act.put, List.setIfInBounds_toArray, List.set_cons_zero, List.set_cons_succ]
  refine wpAnyH_take (i := 5) (v := ?_) rfl (by kernel_rfl) (by kernel_rfl) (by kernel_rfl) (fun _ _ _ h => h) (Or.inl ⟨by first | kernel_rfl | rfl, ?_⟩) (by assumption) ?_
  rotate_left
  · (intro wq hSw; (try dsimp only at hSw); (try simp (maxSteps := 2000000) only [List.getElem_toArray, List.getElem_cons_succ, List.getElem_cons_zero]); go_simp); try with_reducible rfl
  try simp (maxSteps := 2000000) only [List.getElem_toArray, List.getElem_cons_succ, List.getElem_cons_zero, Act.put, List.setIfInBounds_toArray, List.set_cons_zero, List.set_cons_succ]
  refine wpAnyH_take (i := 6) (v := ?_) rfl (by kernel_rfl) (by kernel_rfl) (by kernel_rfl) (fun _ _ _ h => h) (Or.inl ⟨by first | kernel_rfl | rfl, ?_⟩) (by assumption) ?_
  rotate_left
  · (intro wq hSw; (try dsimp only at hSw); (try simp (maxSteps := 2000000) only [List.getElem_toArray, List.getElem_cons_succ, List.getElem_cons_zero]); go_simp); try with_reducible rfl
  try simp (maxSteps := 2000000) only [List.getElem_toArray, List.getElem_cons_succ, List.getElem_cons_zero, Act.put, List.setIfInBounds_toArray, List.set_cons_zero, List.set_cons_succ]
  refine wpAnyH_take (i := 7) (v := ?_) rfl (by kernel_rfl) (by kernel_rfl) (by kernel_rfl) (fun _ _ _ h => h) (Or.inl ⟨by first | kernel_rfl | rfl, ?_⟩) (by assumption) ?_
  rotate_left
  · (intro wq hSw; (try dsimp only at hSw); (try simp (maxSteps := 2000000) only [List.getElem_toArray, List.getElem_cons_succ, List.getElem_cons_zero]); go_simp); try with_reducible rfl
  try simp (maxSteps := 2000000) only [List.getElem_toArray, List.getElem_cons_succ, List.getElem_cons_zero, Act.put, List.setIfInBounds_toArray, List.set_cons_zero, List.set_cons_succ]
  refine wpAnyH_take (i := 8) (v := ?_) rfl (by kernel_rfl) (by kernel_rfl) (by kernel_rfl) (fun _ _ _ h => h) (Or.inl ⟨by first | kernel_rfl | rfl, ?_⟩) (by assumption) ?_
  rotate_left
  · (intro wq hSw; (try dsimp only at hSw); (try simp (maxSteps := 2000000) only [List.getElem_toArray, List.getElem_cons_succ, List.getElem_cons_zero]); go_simp); try with_reducible rfl
  try simp (maxSteps := 2000000) only [List.getElem_toArray, List.getElem_cons_succ, List.getElem_cons_zero, Act.put, List.setIfInBounds_toArray, List.set_cons_zero, List.set_cons_succ]
  refine wpAnyH_ready (rs := [9, 11]) (by kernel_rfl) (by simp) ?_
  refine AllReadyH.cons rfl (fun K hK => ?_) (AllReadyH.cons rfl (fun K hK => ?_) AllReadyH.nil)
  · refine step_law (by rfl) (wpList_make0 ByR (fun _ => True) sl_by (by rfl) (by rfl) (base := w.heap.size + 1 + 1 + 1) (by rfl) (by rfl) (r * m) (by omega) (by omega) (by unfold maxLen; omega) (by first | omega | (show _ ≤ (w4.alloc _).heap.size; rw [World.size_alloc]; omega)) ?_)
    intro y hys hown
    refine And.intro rfl ?_
    have hyb : Below w4.drew.heap.size w4.drew y.to := y.ok
    refine hK.out _ _ (by exact KB.out _ hyb) (fun hHeld => ?_)
    clear hK K
    try simp (maxSteps := 2000000) only [List.getElem_toArray, List.getElem_cons_succ, List.getElem_cons_zero, Act.put, List.setIfInBounds_toArray, List.set_cons_zero, List.set_cons_succ]
    refine wpAnyH_take (i := 10) (v := ?_) rfl (by kernel_rfl) (by kernel_rfl) (by kernel_rfl) (fun _ _ _ h => h) (Or.inl ⟨by first | kernel_rfl | rfl, ?_⟩) (by assumption) ?_
    rotate_left
    · (intro wq hSw; (try dsimp only at hSw); (try simp (maxSteps := 2000000) only [List.getElem_toArray, List.getElem_cons_succ, List.getElem_cons_zero]); go_simp); try with_reducible rfl
    try simp (maxSteps := 2000000) only [List.getElem_toArray, List.getElem_cons_succ, List.getElem_cons_zero, Act.put, List.setIfInBounds_toArray, List.set_cons_zero, List.set_cons_succ]
    refine wpAnyH_ready (rs := [11]) (by kernel_rfl) (by simp) ?_
    refine AllReadyH.cons rfl (fun K hK => ?_) AllReadyH.nil
    try simp (maxSteps := 2000000) only [List.getElem_toArray, List.getElem_cons_succ, List.getElem_cons_zero]
    go_simp
    refine hK.out _ _ (KB.out _ (y.ok.alloc y.ok.size _)) (fun hHeld => ?_)
    clear hK K
    try simp (maxSteps := 2000000) only [List.getElem_toArray, List.getElem_cons_succ, List.getElem_cons_zero, Act.put, List.setIfInBounds_toArray, List.set_cons_zero, List.set_cons_succ]
    refine wpAnyH_ready (rs := [12]) (by kernel_rfl) (by simp) ?_
    refine AllReadyH.cons rfl (fun K hK => ?_) AllReadyH.nil
    try simp (maxSteps := 2000000) only [List.getElem_toArray, List.getElem_cons_succ, List.getElem_cons_zero]
    go_simp
    refine hK.out _ _ (KB.out _ (y.ok.alloc y.ok.size _)) (fun hHeld => ?_)
    clear hK K
    try simp (maxSteps := 2000000) only [List.getElem_toArray, List.getElem_cons_succ, List.getElem_cons_zero, Act.put, List.setIfInBounds_toArray, List.set_cons_zero, List.set_cons_succ]
    refine wpAnyH_done (by kernel_rfl) ?_ _
    have hq : FilI w (y.to.alloc (.cells #[.int .i64 (r : Int), .int .i64 (m : Int), .slice (some ⟨w4.heap.size, 0, none⟩) 0 (r * m)] 55)) (w.heap.size + 1 + 1) y.to.heap.size r m 0 (some ⟨w4.heap.size, 0, none⟩) (r * m) [] ∧ Below w4.heap.size w4 (y.to.alloc (.cells #[.int .i64 (r : Int), .int .i64 (m : Int), .slice (some ⟨w4.heap.size, 0, none⟩) 0 (r * m)] 55)) ∧ (∀ k, (Value.slice (some ⟨w4.heap.size, 0, none⟩) 0 (r * m)).ownBlock = some k → w4.heap.size ≤ k) ∧ w4.heap.size ≤ y.to.heap.size := by
      have hb9 : Below w4.heap.size w4 y.to := (Below.refl _ _).drew.trans y.ok
      have hys' : w4.heap.size < y.to.heap.size := hys
      refine ⟨⟨OwnL.alloc ByR.stable hown _, BoxAt.new _ _ _, (HRx.out.below hb9).alloc _, fun e => ?_, fun e => ?_, by omega, by omega, by omega, (HBE.out.trans (hb9.mono hs4)).alloc (by omega) _⟩, hb9.alloc (by omega) _, fun k hk => by injection hk with hk; dsimp only at hk; omega, by omega⟩
      · injection e with e; dsimp only at e; omega
      · injection e with e; dsimp only at e; omega
    obtain ⟨hFQ, hbQ, hoQ, hgQ⟩ := hq
    have HQG := Lib.hid hgQ
    generalize hwQ : (y.to.alloc (.cells #[.int .i64 (r : Int), .int .i64 (m : Int), .slice (some ⟨w4.heap.size, 0, none⟩) 0 (r * m)] 55)) = wQ at *
    clear hwQ
    generalize hqq : (y.to.heap.size) = q at *
    clear hqq
    have HFQ := Lib.hid hFQ
    have HBQ := Lib.hid hbQ
    have HOQ := Lib.hid hoQ
    have aQ := (HA.out.below hbQ).cell 0
    clear hFQ hbQ hoQ hgQ hown s1 hHeld
    go_wp2_with fail
    go_loopw [47] (fun vi wr => ∃ (i : Nat) (A : Option Addr) (c : Nat), i ≤ r ∧ vi = .int .i64 i ∧ Hid (FilI w wr (w.heap.size + 1 + 1) (q) r m (i * m) A c ((mulF U B m).take i).flatten) ∧ Hid (Below w4.heap.size w4 wr) ∧ Hid (∀ k, (Value.slice A (i * m) c).ownBlock = some k → w4.heap.size ≤ k)) (fun vi _ => r - (intOf vi).toNat)
    case atStart => exact ⟨0, _, _, Nat.zero_le _, rfl, by rw [Nat.zero_mul]; exact HFQ, HBQ, HOQ⟩
    case round =>
      obtain ⟨wo, rfl⟩ : ∃ wo, wo = wr := ⟨_, rfl⟩
      clear HFQ HBQ HOQ aQ
      obtain ⟨i, A, c, hi, rfl, HI, HB, HOB⟩ := hrel
      have p0 : (0 : Int) ≤ (i : Int) := Int.natCast_nonneg _
      by_cases hlt : i < r
      · have p1 : (i : Int) < (r : Int) := by omega
        have x0 := (HA.out.below HB.out).cell 1
        have x1 := (HA.out.below HB.out).cell 2
        have y1 := (HBx.out.below HB.out).cell 1
        have y2 := (HBx.out.below HB.out).cell 2
        have hmk := makeBy m (by omega) wo
        have hz := RowIn.made wo m 5
        have hbz : Below wo.heap.size wo (wo.alloc (.cells (Array.replicate m (.int .u8 0)) 5)) := (Below.refl _ _).alloc (Nat.le_refl _) _
        have hzr := hz.rd (S := fun k => wo.heap.size ≤ k) (Nat.le_refl _)
        rw [List.length_replicate] at hzr
        obtain ⟨w5, hw5⟩ : ∃ w5, wo.alloc (.cells (Array.replicate m (.int .u8 0)) 5) = w5 := ⟨_, rfl⟩
        rw [hw5] at hmk hbz hzr
        have x0' := ((HA.out.below HB.out).below hbz).cell 1
        have x1' := ((HA.out.below HB.out).below hbz).cell 2
        have hrow1 := fun w' => row_any (w := w') (A := A1) (Nat.mul_le_mul hlt (Nat.le_refl n)) hc1 (by omega : i ≤ 255) h4 h3
        have HZ := Lib.hid hzr
        have HBZ := Lib.hid hbz
        clear hz hzr hw5 hbz
        go_wp2_with (go_at_call 76; refine (hrow1 _).mono ?_; rintro e w9 ⟨rfl, hw9⟩; rw [hw9]; clear hw9)
        clear hrow1 hmk x0 x1 x0' x1'
        have hul := (hU.row hlt).1
        have hBl := hB.1
        go_loopw [10, 60] (fun vs vj wr => ∃ (j : Nat) (As : Option Addr) (cs : Nat), j ≤ n ∧ vj = .int .i64 j ∧ vs = .slice As m cs ∧ m ≤ cs ∧ Hid (RdL ByR 1 (fun k => wo.heap.size ≤ k) wr As m (combF ((ra U i).take j) (B.take j) (List.replicate m 0))) ∧ Hid (Below wo.heap.size wo wr)) (fun _ vj _ => n - (intOf vj).toNat)
        case atStart => exact ⟨0, _, m, Nat.zero_le _, rfl, rfl, Nat.le_refl _, by rw [List.take_zero, List.take_zero]; exact HZ, HBZ⟩
        case round =>
          clear HZ HBZ y1 y2
          obtain ⟨j, As, cs, hj, rfl, rfl, hcs, HS, HBj⟩ := hrel
          have p2 : (0 : Int) ≤ (j : Int) := Int.natCast_nonneg _
          have hbw : Below w4.heap.size w4 wr := HB.out.trans (HBj.out.mono HB.out.size)
          have hbl : Below w.heap.size w wr := HBE.out.trans (hbw.mono HBE.out.size)
          by_cases hlj : j < n
          · have p3 : (j : Int) < (n : Int) := by omega
            have y1 := (HBx.out.below hbw).cell 1
            have y2 := (HBx.out.below hbw).cell 2
            have hr1 := row_rd hU (HR1.out.below ByR.stable hbl) hlt h3
            obtain ⟨b4, o4, e4, _, l4⟩ := hr1.addr hlj
            rw [e4] at hr1 ⊢
            obtain ⟨v4, x4⟩ := by_at hr1 hlj
            have hr2 := row_rd hB (HR2.out.below ByR.stable hbl) hlj h5
            have hrow2 := fun w' => row_any (w := w') (A := A2) (Nat.mul_le_mul hlj (Nat.le_refl m)) hc2 (by omega : j ≤ 255) h6 h5
            have hfo := fold_any (w := wr) (cp := m) (cp2 := cs) (HF.out.below hbl) x4 hr2 (by omega) (Nat.le_refl _) HS.out (by omega)
            rw [← combF_take (by omega) (by omega)] at hfo
            clear hr1 hr2 hbw hbl
            go_wp2_with (first | (go_at_call 76; refine (hrow2 _).mono ?_; rintro e w9 ⟨rfl, hw9⟩; rw [hw9]; clear hw9) | (go_at_call 77; refine hfo.mono ?_; rintro e w6 ⟨AN, cN, rfl, hcN, hrs, hb6⟩; have HRS := Lib.hid (hrs.weaken ByR.stable (S' := fun k => wo.heap.size ≤ k) (fun k hk => Nat.le_trans HBj.out.size hk)); have HB6 := Lib.hid (HBj.out.trans (hb6.mono HBj.out.size)); clear hrs hb6 hfo))
            exact ⟨⟨j + 1, AN, cN, by omega, by go_num, rfl, hcN, HRS, HB6⟩, by simp [intOf]; omega⟩
          · have p3 : ¬ (j : Int) < (n : Int) := by omega
            obtain rfl : j = n := by omega
            rw [List.take_of_length_le (by omega), List.take_of_length_le (by omega)] at HS
            have hFj := HI.out.below HBj.out
            have z2 := hFj.bq.cell 2
            have hsum : i * m + m ≤ 65025 := by
              have := Nat.mul_le_mul (show i + 1 ≤ r from hlt) (Nat.le_refl m)
              rw [Nat.succ_mul] at this
              omega
            have HFj := Lib.hid hFj
            clear hFj hbl
            go_wp2_with (at_builtin; go_must (refine wpList_appL ByR.stable ByR.one sl_by rfl (by exact rfl) (base := w.heap.size + 1 + 1 + 1) (S := fun _ => True) (by exact rfl) HFj.out.own (by exact rfl) HS.out (fun _ _ h => h) (by unfold maxLen; omega) (by omega) HFj.out.br.lt ?_); intro A7 c7 w7 hc7 hown7 hg7 hat7; have B9 := HFj.out.bq.grw hg7 HFj.out.nq; have c9 := B9.cell 2; have f9 := B9.frozen 2; have hp7 := HFj.out.appended hg7 hown7 hat7; have hb7 : Below w4.heap.size w4 w7 := hbw.trans ⟨hg7.os, hg7.tape, hg7.output, hg7.size, fun k hk => hg7.block k (Nat.lt_of_lt_of_le hk hbw.size) (fun e => by have := HOB.out k e.symm; omega)⟩; have ho7 : ∀ k, (Value.slice A7 (i * m + m) c7).ownBlock = some k → w4.heap.size ≤ k := fun k hk => (by rcases hat7 with e | e; (rw [e] at hk; exact HOB.out k hk); (rw [e] at hk; injection hk with hk; have := hbw.size; omega)); rw [← mulF_take hU hlt] at hp7; have hp8 : FilI w (w7.setCell ⟨q, 2, none⟩ (.slice A7 (i * m + m) c7)) (w.heap.size + 1 + 1) (q) r m ((i + 1) * m) A7 c7 ((mulF U B m).take (i + 1)).flatten := (by rw [Nat.succ_mul]; exact hp7); have HP7 := Lib.hid hp8; have HB7 := Lib.hid (hb7.setCell (p := ⟨q, 2, none⟩) HQG.out (.slice A7 (i * m + m) c7)); have ho8 : ∀ k, (Value.slice A7 ((i + 1) * m) c7).ownBlock = some k → w4.heap.size ≤ k := (by rw [Nat.succ_mul]; exact ho7); have HO7 := Lib.hid ho8; clear hp7 hp8 hb7 ho7 ho8 hown7 hg7 hat7 B9)
            exact ⟨⟨i + 1, A7, c7, by omega, by go_num, HP7, HB7, HO7⟩, by simp [intOf]; omega⟩
      · have p1 : ¬ (i : Int) < (r : Int) := by omega
        obtain rfl : i = r := by omega
        have b0 := HI.out.bq.cell 0
        have b1 := HI.out.bq.cell 1
        have b2 := HI.out.bq.cell 2
        have r0 := HI.out.br.cell 0
        have r1 := HI.out.br.cell 1
        have r2 := HI.out.br.cell 2
        have f0 := HI.out.br.frozen 0
        have f1 := HI.out.br.frozen 1
        have f2 := HI.out.br.frozen 2
        rw [List.take_of_length_le (by unfold mulF; rw [List.length_map, hU.1]; exact Nat.le_refl _)] at HI
        go_wp2_with fail
        refine bodyPost_ret (v := .tuple #[.agg #[.int .i64 (i : Int), .int .i64 (m : Int), .slice A (i * m) c], .int .i64 0]) (by simp [results, Tryz.results57, go_sem, *]) rfl ?_
        obtain ⟨A', c', e1, hc, hr⟩ := HI.out.own.rd (S' := fun k => w.heap.size + 1 + 1 < k) (fun _ hk => hk) (fun cs x hx => hx)
        injection e1 with e1 _ e2
        subst e1; subst e2
        refine ⟨A, c, rfl, hc, RdL.weaken ByR.stable (S := fun k => w.heap.size + 1 + 1 < k) ?_ (fun k hk => by have h9 : w.heap.size + 1 + 1 < k := hk; show _ ≤ k; omega), ?_⟩
        · repeat (first | exact hr | refine RdL.setCell ByR.stable ?_ (show ¬ _ < _ by dsimp only; omega) _)
        · repeat (first | exact HI.out.bel | refine Below.setCell ?_ (by dsimp only; omega) _)
  · try simp (maxSteps := 2000000) only [List.getElem_toArray, List.getElem_cons_succ, List.getElem_cons_zero]
    go_simp
    refine hK.out _ _ (KB.out _ ((Below.refl _ _).alloc (Nat.le_refl _) _)) (fun hHeld => ?_)
    clear hK K
    try simp (maxSteps := 2000000) only [List.getElem_toArray, List.getElem_cons_succ, List.getElem_cons_zero, Act.put, List.setIfInBounds_toArray, List.set_cons_zero, List.set_cons_succ]
    refine wpAnyH_ready (rs := [9]) (by kernel_rfl) (by simp) ?_
    refine AllReadyH.cons rfl (fun K hK => ?_) AllReadyH.nil
    refine step_law (by rfl) (wpList_make0 ByR (fun _ => True) sl_by (by rfl) (by rfl) (base := w.heap.size + 1 + 1 + 1) (by rfl) (by rfl) (r * m) (by omega) (by omega) (by unfold maxLen; omega) (by first | omega | (show _ ≤ (w4.alloc _).heap.size; rw [World.size_alloc]; omega)) ?_)
    intro y hys hown
    refine And.intro rfl ?_
    have hyb : Below w4.drew.heap.size w4.drew y.to := ((Below.refl _ _).alloc (Nat.le_refl _) _).trans (y.ok.mono (by show w4.heap.size ≤ (w4.alloc _).heap.size; rw [World.size_alloc]; omega))
    refine hK.out _ _ (by exact KB.out _ hyb) (fun hHeld => ?_)
    clear hK K
    try simp (maxSteps := 2000000) only [List.getElem_toArray, List.getElem_cons_succ, List.getElem_cons_zero, Act.put, List.setIfInBounds_toArray, List.set_cons_zero, List.set_cons_succ]
    refine wpAnyH_take (i := 10) (v := ?_) rfl (by kernel_rfl) (by kernel_rfl) (by kernel_rfl) (fun _ _ _ h => h) (Or.inl ⟨by first | kernel_rfl | rfl, ?_⟩) (by assumption) ?_
    rotate_left
    · (intro wq hSw; (try dsimp only at hSw); (try simp (maxSteps := 2000000) only [List.getElem_toArray, List.getElem_cons_succ, List.getElem_cons_zero]); go_simp); try with_reducible rfl
    try simp (maxSteps := 2000000) only [List.getElem_toArray, List.getElem_cons_succ, List.getElem_cons_zero, Act.put, List.setIfInBounds_toArray, List.set_cons_zero, List.set_cons_succ]
    refine wpAnyH_ready (rs := [12]) (by kernel_rfl) (by simp) ?_
    refine AllReadyH.cons rfl (fun K hK => ?_) AllReadyH.nil
    try simp (maxSteps := 2000000) only [List.getElem_toArray, List.getElem_cons_succ, List.getElem_cons_zero]
    go_simp
    refine hK.out _ _ (KB.out _ (((hyb.setCell (by exact Nat.le_refl _) _).setCell (by exact Nat.le_refl _) _).setCell (by exact Nat.le_refl _) _)) (fun hHeld => ?_)
    clear hK K
    try simp (maxSteps := 2000000) only [List.getElem_toArray, List.getElem_cons_succ, List.getElem_cons_zero, Act.put, List.setIfInBounds_toArray, List.set_cons_zero, List.set_cons_succ]
    refine wpAnyH_done (by kernel_rfl) ?_ _
    simp only [World.size_drew, World.size_alloc] at hown hys
    have hq : FilI w (((y.to.setCell ⟨w4.heap.size, 0, none⟩ (.int .i64 (r : Int))).setCell ⟨w4.heap.size, 1, none⟩ (.int .i64 (m : Int))).setCell ⟨w4.heap.size, 2, none⟩ (.slice (some ⟨w4.heap.size + 1, 0, none⟩) 0 (r * m))) (w.heap.size + 1 + 1) w4.heap.size r m 0 (some ⟨w4.heap.size + 1, 0, none⟩) (r * m) [] ∧ Below w4.heap.size w4 (((y.to.setCell ⟨w4.heap.size, 0, none⟩ (.int .i64 (r : Int))).setCell ⟨w4.heap.size, 1, none⟩ (.int .i64 (m : Int))).setCell ⟨w4.heap.size, 2, none⟩ (.slice (some ⟨w4.heap.size + 1, 0, none⟩) 0 (r * m))) ∧ (∀ k, (Value.slice (some ⟨w4.heap.size + 1, 0, none⟩) 0 (r * m)).ownBlock = some k → w4.heap.size ≤ k) ∧ w4.heap.size ≤ w4.heap.size := by
      have hb9 : Below w4.heap.size w4 y.to := (Below.refl _ _).drew.trans hyb
      have hbs : Below w4.heap.size w4 (((y.to.setCell ⟨w4.heap.size, 0, none⟩ (.int .i64 (r : Int))).setCell ⟨w4.heap.size, 1, none⟩ (.int .i64 (m : Int))).setCell ⟨w4.heap.size, 2, none⟩ (.slice (some ⟨w4.heap.size + 1, 0, none⟩) 0 (r * m))) := ((hb9.setCell (by exact Nat.le_refl _) _).setCell (by exact Nat.le_refl _) _).setCell (by exact Nat.le_refl _) _
      have hbq := ((((BoxAt.new w4 #[.int .i64 0, .int .i64 0, .slice none 0 0] 55).below (w' := y.to) ((Below.refl _ _).drew.trans y.ok)).set 0 (.int .i64 (r : Int))).set 1 (.int .i64 (m : Int))).set 2 (.slice (some ⟨w4.heap.size + 1, 0, none⟩) 0 (r * m))
      refine ⟨⟨?_, by simpa using hbq, HRx.out.below hbs, fun e => ?_, fun e => ?_, by omega, by omega, by omega, HBE.out.trans (hbs.mono hs4)⟩, hbs, fun k hk => by injection hk with hk; dsimp only at hk; omega, Nat.le_refl _⟩
      · obtain ⟨css, h1, h2, h3, h4, h5⟩ := hown
        refine ⟨css, h1.kept (row := some w4.heap.size) ⟨rfl, rfl, rfl, by simp, fun k _ hk => ?_⟩ (.inr (fun e => by injection e with e; dsimp only at e; omega)), h2, h3, h4, fun i cs x hc hx => h5 i cs x hc hx⟩
        have hk2 : k ≠ w4.heap.size := fun e => hk (by rw [e])
        exact (Below.heap_setCell _ _ _ _ hk2).trans ((Below.heap_setCell _ _ _ _ hk2).trans (Below.heap_setCell _ _ _ _ hk2))
      · injection e with e; dsimp only at e; omega
      · injection e with e; dsimp only at e; omega
    obtain ⟨hFQ, hbQ, hoQ, hgQ⟩ := hq
    have HQG := Lib.hid hgQ
    generalize hwQ : (((y.to.setCell ⟨w4.heap.size, 0, none⟩ (.int .i64 (r : Int))).setCell ⟨w4.heap.size, 1, none⟩ (.int .i64 (m : Int))).setCell ⟨w4.heap.size, 2, none⟩ (.slice (some ⟨w4.heap.size + 1, 0, none⟩) 0 (r * m))) = wQ at *
    clear hwQ
    skip
    have HFQ := Lib.hid hFQ
    have HBQ := Lib.hid hbQ
    have HOQ := Lib.hid hoQ
    have aQ := (HA.out.below hbQ).cell 0
    clear hFQ hbQ hoQ hgQ hown s1 hHeld
    go_wp2_with fail
    go_loopw [47] (fun vi wr => ∃ (i : Nat) (A : Option Addr) (c : Nat), i ≤ r ∧ vi = .int .i64 i ∧ Hid (FilI w wr (w.heap.size + 1 + 1) (w4.heap.size) r m (i * m) A c ((mulF U B m).take i).flatten) ∧ Hid (Below w4.heap.size w4 wr) ∧ Hid (∀ k, (Value.slice A (i * m) c).ownBlock = some k → w4.heap.size ≤ k)) (fun vi _ => r - (intOf vi).toNat)
    case atStart => exact ⟨0, _, _, Nat.zero_le _, rfl, by rw [Nat.zero_mul]; exact HFQ, HBQ, HOQ⟩
    case round =>
      obtain ⟨wo, rfl⟩ : ∃ wo, wo = wr := ⟨_, rfl⟩
      clear HFQ HBQ HOQ aQ
      obtain ⟨i, A, c, hi, rfl, HI, HB, HOB⟩ := hrel
      have p0 : (0 : Int) ≤ (i : Int) := Int.natCast_nonneg _
      by_cases hlt : i < r
      · have p1 : (i : Int) < (r : Int) := by omega
        have x0 := (HA.out.below HB.out).cell 1
        have x1 := (HA.out.below HB.out).cell 2
        have y1 := (HBx.out.below HB.out).cell 1
        have y2 := (HBx.out.below HB.out).cell 2
        have hmk := makeBy m (by omega) wo
        have hz := RowIn.made wo m 5
        have hbz : Below wo.heap.size wo (wo.alloc (.cells (Array.replicate m (.int .u8 0)) 5)) := (Below.refl _ _).alloc (Nat.le_refl _) _
        have hzr := hz.rd (S := fun k => wo.heap.size ≤ k) (Nat.le_refl _)
        rw [List.length_replicate] at hzr
        obtain ⟨w5, hw5⟩ : ∃ w5, wo.alloc (.cells (Array.replicate m (.int .u8 0)) 5) = w5 := ⟨_, rfl⟩
        rw [hw5] at hmk hbz hzr
        have x0' := ((HA.out.below HB.out).below hbz).cell 1
        have x1' := ((HA.out.below HB.out).below hbz).cell 2
        have hrow1 := fun w' => row_any (w := w') (A := A1) (Nat.mul_le_mul hlt (Nat.le_refl n)) hc1 (by omega : i ≤ 255) h4 h3
        have HZ := Lib.hid hzr
        have HBZ := Lib.hid hbz
        clear hz hzr hw5 hbz
        go_wp2_with (go_at_call 76; refine (hrow1 _).mono ?_; rintro e w9 ⟨rfl, hw9⟩; rw [hw9]; clear hw9)
        clear hrow1 hmk x0 x1 x0' x1'
        have hul := (hU.row hlt).1
        have hBl := hB.1
        go_loopw [10, 60] (fun vs vj wr => ∃ (j : Nat) (As : Option Addr) (cs : Nat), j ≤ n ∧ vj = .int .i64 j ∧ vs = .slice As m cs ∧ m ≤ cs ∧ Hid (RdL ByR 1 (fun k => wo.heap.size ≤ k) wr As m (combF ((ra U i).take j) (B.take j) (List.replicate m 0))) ∧ Hid (Below wo.heap.size wo wr)) (fun _ vj _ => n - (intOf vj).toNat)
        case atStart => exact ⟨0, _, m, Nat.zero_le _, rfl, rfl, Nat.le_refl _, by rw [List.take_zero, List.take_zero]; exact HZ, HBZ⟩
        case round =>
          clear HZ HBZ y1 y2
          obtain ⟨j, As, cs, hj, rfl, rfl, hcs, HS, HBj⟩ := hrel
          have p2 : (0 : Int) ≤ (j : Int) := Int.natCast_nonneg _
          have hbw : Below w4.heap.size w4 wr := HB.out.trans (HBj.out.mono HB.out.size)
          have hbl : Below w.heap.size w wr := HBE.out.trans (hbw.mono HBE.out.size)
          by_cases hlj : j < n
          · have p3 : (j : Int) < (n : Int) := by omega
            have y1 := (HBx.out.below hbw).cell 1
            have y2 := (HBx.out.below hbw).cell 2
            have hr1 := row_rd hU (HR1.out.below ByR.stable hbl) hlt h3
            obtain ⟨b4, o4, e4, _, l4⟩ := hr1.addr hlj
            rw [e4] at hr1 ⊢
            obtain ⟨v4, x4⟩ := by_at hr1 hlj
            have hr2 := row_rd hB (HR2.out.below ByR.stable hbl) hlj h5
            have hrow2 := fun w' => row_any (w := w') (A := A2) (Nat.mul_le_mul hlj (Nat.le_refl m)) hc2 (by omega : j ≤ 255) h6 h5
            have hfo := fold_any (w := wr) (cp := m) (cp2 := cs) (HF.out.below hbl) x4 hr2 (by omega) (Nat.le_refl _) HS.out (by omega)
            rw [← combF_take (by omega) (by omega)] at hfo
            clear hr1 hr2 hbw hbl
            go_wp2_with (first | (go_at_call 76; refine (hrow2 _).mono ?_; rintro e w9 ⟨rfl, hw9⟩; rw [hw9]; clear hw9) | (go_at_call 77; refine hfo.mono ?_; rintro e w6 ⟨AN, cN, rfl, hcN, hrs, hb6⟩; have HRS := Lib.hid (hrs.weaken ByR.stable (S' := fun k => wo.heap.size ≤ k) (fun k hk => Nat.le_trans HBj.out.size hk)); have HB6 := Lib.hid (HBj.out.trans (hb6.mono HBj.out.size)); clear hrs hb6 hfo))
            exact ⟨⟨j + 1, AN, cN, by omega, by go_num, rfl, hcN, HRS, HB6⟩, by simp [intOf]; omega⟩
          · have p3 : ¬ (j : Int) < (n : Int) := by omega
            obtain rfl : j = n := by omega
            rw [List.take_of_length_le (by omega), List.take_of_length_le (by omega)] at HS
            have hFj := HI.out.below HBj.out
            have z2 := hFj.bq.cell 2
            have hsum : i * m + m ≤ 65025 := by
              have := Nat.mul_le_mul (show i + 1 ≤ r from hlt) (Nat.le_refl m)
              rw [Nat.succ_mul] at this
              omega
            have HFj := Lib.hid hFj
            clear hFj hbl
            go_wp2_with (at_builtin; go_must (refine wpList_appL ByR.stable ByR.one sl_by rfl (by exact rfl) (base := w.heap.size + 1 + 1 + 1) (S := fun _ => True) (by exact rfl) HFj.out.own (by exact rfl) HS.out (fun _ _ h => h) (by unfold maxLen; omega) (by omega) HFj.out.br.lt ?_); intro A7 c7 w7 hc7 hown7 hg7 hat7; have B9 := HFj.out.bq.grw hg7 HFj.out.nq; have c9 := B9.cell 2; have f9 := B9.frozen 2; have hp7 := HFj.out.appended hg7 hown7 hat7; have hb7 : Below w4.heap.size w4 w7 := hbw.trans ⟨hg7.os, hg7.tape, hg7.output, hg7.size, fun k hk => hg7.block k (Nat.lt_of_lt_of_le hk hbw.size) (fun e => by have := HOB.out k e.symm; omega)⟩; have ho7 : ∀ k, (Value.slice A7 (i * m + m) c7).ownBlock = some k → w4.heap.size ≤ k := fun k hk => (by rcases hat7 with e | e; (rw [e] at hk; exact HOB.out k hk); (rw [e] at hk; injection hk with hk; have := hbw.size; omega)); rw [← mulF_take hU hlt] at hp7; have hp8 : FilI w (w7.setCell ⟨w4.heap.size, 2, none⟩ (.slice A7 (i * m + m) c7)) (w.heap.size + 1 + 1) (w4.heap.size) r m ((i + 1) * m) A7 c7 ((mulF U B m).take (i + 1)).flatten := (by rw [Nat.succ_mul]; exact hp7); have HP7 := Lib.hid hp8; have HB7 := Lib.hid (hb7.setCell (p := ⟨w4.heap.size, 2, none⟩) HQG.out (.slice A7 (i * m + m) c7)); have ho8 : ∀ k, (Value.slice A7 ((i + 1) * m) c7).ownBlock = some k → w4.heap.size ≤ k := (by rw [Nat.succ_mul]; exact ho7); have HO7 := Lib.hid ho8; clear hp7 hp8 hb7 ho7 ho8 hown7 hg7 hat7 B9)
            exact ⟨⟨i + 1, A7, c7, by omega, by go_num, HP7, HB7, HO7⟩, by simp [intOf]; omega⟩
      · have p1 : ¬ (i : Int) < (r : Int) := by omega
        obtain rfl : i = r := by omega
        have b0 := HI.out.bq.cell 0
        have b1 := HI.out.bq.cell 1
        have b2 := HI.out.bq.cell 2
        have r0 := HI.out.br.cell 0
        have r1 := HI.out.br.cell 1
        have r2 := HI.out.br.cell 2
        have f0 := HI.out.br.frozen 0
        have f1 := HI.out.br.frozen 1
        have f2 := HI.out.br.frozen 2
        rw [List.take_of_length_le (by unfold mulF; rw [List.length_map, hU.1]; exact Nat.le_refl _)] at HI
        go_wp2_with fail
        refine bodyPost_ret (v := .tuple #[.agg #[.int .i64 (i : Int), .int .i64 (m : Int), .slice A (i * m) c], .int .i64 0]) (by simp [results, Tryz.results57, go_sem, *]) rfl ?_
        obtain ⟨A', c', e1, hc, hr⟩ := HI.out.own.rd (S' := fun k => w.heap.size + 1 + 1 < k) (fun _ hk => hk) (fun cs x hx => hx)
        injection e1 with e1 _ e2
        subst e1; subst e2
        refine ⟨A, c, rfl, hc, RdL.weaken ByR.stable (S := fun k => w.heap.size + 1 + 1 < k) ?_ (fun k hk => by have h9 : w.heap.size + 1 + 1 < k := hk; show _ ≤ k; omega), ?_⟩
        · repeat (first | exact hr | refine RdL.setCell ByR.stable ?_ (show ¬ _ < _ by dsimp only; omega) _)
        · repeat (first | exact HI.out.bel | refine Below.setCell ?_ (by dsimp only; omega) _)
end Go.Proofs.YthhljmlpjnkfgaaGreat
