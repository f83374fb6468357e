/-
  A coder whose blocks are known; where a shard lies.
  A shard read from its drive.
  A stripe's shard, if there is one.
-/
import Derived.Test.YtcliejdiaohamaaGreatUn8
set_option linter.unusedSimpArgs false
set_option linter.unusedVariables false
namespace Go.Proofs.YtcliejdiaohamaaGreat
open Go.RowKit Go.Cib
attribute [local go_sem] cell_set Later.cell Later.frozen Grw.cell Grw.frozen
structure CodF (C : Nat → Prop) (w : World) (cb b k m : Nat) : Prop where
  box : ∃ A c, BoxAt w cb #[.int .i64 (k : Int), .int .i64 (m : Int), .pointer (some ⟨b, 0, none⟩), .int .i64 (m : Int), .int .i64 (k : Int), .slice A (m * k) c] ∧ m * k ≤ c ∧
    RdL ByR 1 C w A (m * k) (flatF (cauF (risF k (k + m)) (risF 0 k)) m k)
  cc : C cb
  cf : C b
  fld : Fld w b
  k1 : 1 ≤ k
  m1 : 1 ≤ m
  km : k + m ≤ 255
theorem CodF.at {C : Nat → Prop} {w : World} {cb b k m : Nat} (h : CodF C w cb b k m) : CodAt w cb b k m := by
  obtain ⟨A, c, h1, h2, h3⟩ := h.box
  exact ⟨⟨A, c, h1, h2, h3.weaken ByR.stable fun _ _ => trivial⟩, h.fld, h.k1, h.m1, h.km⟩
theorem CodF.keep {C G : Nat → Prop} {w w' : World} {cb b k m : Nat} (h : CodF C w cb b k m) (hk : Keep G w w') (hd : ∀ j, C j → ¬ G j) : CodF C w' cb b k m := by
  obtain ⟨A, c, h1, h2, h3⟩ := h.box
  exact ⟨⟨A, c, h1.keeps hk (hd cb h.cc), h2, h3.stable ByR.stable fun j hj hl => ⟨hj, hk.block j hl (hd j hj)⟩⟩, h.cc, h.cf, h.fld.keep (hk.block b h.fld.lt (hd b h.cf)), h.k1, h.m1, h.km⟩
theorem CodF.below {C : Nat → Prop} {w w' : World} {cb b k m : Nat} (h : CodF C w cb b k m) (hk : Below w.heap.size w w') : CodF C w' cb b k m := h.keep (Keep.of_below (F := fun _ => False) hk) (fun _ _ h => h)
set_option maxRecDepth 100000 in
set_option maxHeartbeats 8000000 in
theorem new_anyS {w : World} {b k m base : Nat} (F : FldNew w b) (hbase : base ≤ b) (h1 : 1 ≤ k) (h2 : 1 ≤ m) (hkm : k + m ≤ 255) :
    Calls Tryz.prog 29 #[.pointer (some ⟨b, 0, none⟩), .int .i64 (k : Int), .int .i64 (m : Int)] w fun e w' => ∃ cb, e = .returned (.pointer (some ⟨cb, 0, none⟩)) ∧ CodF (fun j => base ≤ j) w' cb b k m ∧ Keep (· = b) w w' := by
  have q1 : ¬ (k : Int) < 1 := by omega
  have q2 : ¬ (m : Int) < 1 := by omega
  have q3 : ¬ (k : Int) > 255 := by omega
  have q4 : ¬ (m : Int) > 255 - (k : Int) := by omega
  have q5 : IntKind.i64.wrap (255 - (k : Int)) = 255 - (k : Int) := by rw [IntKind.wrap_i64]; omega
  have q6 : IntKind.i64.wrap ((k : Int) + (m : Int)) = ((k + m : Nat) : Int) := by rw [IntKind.wrap_i64]; omega
  have hbl : b < w.heap.size := by obtain ⟨cs, hb, _⟩ := F.ex; exact hb.lt
  have HF := Lib.hid F
  clear F
  have hri1 := fun w' => rising_any (w := w') (a := k) (b := k + m) (by omega) hkm
  have hri2 := fun w' => rising_any (w := w') (a := 0) (b := k) (by omega) (by omega)
  rw [show k + m - k = m by omega] at hri1
  rw [Nat.sub_zero] at hri2
  go_enter Tryz.func29, Tryz.ntmps29
  go_wp2_with fail
  refine (hri1 _).mono ?_
  rintro e w1 ⟨A1, c1, rfl, hc1, r1, t1⟩
  go_wp2_with fail
  refine (hri2 _).mono ?_
  rintro e w2 ⟨A2, c2, rfl, hc2, r2, t2⟩
  go_wp2_with fail
  have t12 := t1.trans (t2.mono t1.size)
  have hF2 : FldNew w2 b := by
    obtain ⟨cs, h5, h6⟩ := HF.out.ex
    exact ⟨cs, h5.below t12, h6⟩
  have r1' := r1.below ByR.stable t2
  have hsz := t1.size
  refine (cauchy_new (S := fun j => w.heap.size ≤ j) hF2 r1' (r2.weaken ByR.stable (fun j hj => Nat.le_trans hsz hj)) (by omega) h2 (by omega) h1 (by omega) hc1 hc2 (risF_nodup k m)).mono ?_
  rintro e w3 ⟨A, c, rfl, hc, hr, hF3, hk3⟩
  have HR3 := Lib.hid hr
  have HF3 := Lib.hid hF3
  have HK3 := Lib.hid ((Keep.of_below (F := (· = b)) t12).trans hk3 (fun _ h _ => h))
  have hs13 : w.heap.size ≤ w3.heap.size := HK3.out.size
  have hs12 : w.heap.size ≤ w2.heap.size := Nat.le_trans hsz t2.size
  clear hri1 hri2 r1 t1 r2 t2 t12 hF2 r1' hr hF3 hk3
  go_wp2_with fail
  go_ret
  have hal : Below w3.heap.size w3 ((w3.alloc (.cells #[.int .i64 (m : Int), .int .i64 (k : Int), .slice A (m * k) c] 173)).alloc (.cells #[.int .i64 (k : Int), .int .i64 (m : Int), .pointer (some ⟨b, 0, none⟩), .int .i64 (m : Int), .int .i64 (k : Int), .slice A (m * k) c] 180)) := (by repeat (first | (with_reducible exact Below.refl _ _) | (with_reducible assumption) | (with_reducible refine Below.drew ?_) | (with_reducible refine Below.setCell ?_ ?_ _) | (with_reducible refine Below.alloc ?_ ?_ _) | (with_reducible refine Below.later ?_ ?_ _) | (first | (with_reducible exact Nat.le_refl _) | omega | (simp only [World.size_alloc, World.size_setCell, World.size_drew] <;> omega))))
  have hbx := BoxAt.new (w3.alloc (.cells #[.int .i64 (m : Int), .int .i64 (k : Int), .slice A (m * k) c] 173)) #[.int .i64 (k : Int), .int .i64 (m : Int), .pointer (some ⟨b, 0, none⟩), .int .i64 (m : Int), .int .i64 (k : Int), .slice A (m * k) c] 180
  rw [World.size_alloc] at hbx
  exact ⟨w3.heap.size + 1, rfl, ⟨⟨A, c, hbx, hc, (HR3.out.below ByR.stable hal).weaken ByR.stable fun j hj => by have h9 : w2.heap.size ≤ j := hj; show base ≤ j; omega⟩, (by show base ≤ w3.heap.size + 1; omega), hbase, HF3.out.below hal, h1, h2, hkm⟩, (HK3.out.alloc _).alloc _⟩
def homeN (n place i : Nat) : Nat := (place % n + i % n) % n
set_option maxRecDepth 100000 in
set_option maxHeartbeats 4000000 in
theorem home_any {w : World} {n place i : Nat} (hn : 1 ≤ n) (hn2 : n ≤ 1000) : Calls Tryz.prog 238 #[.int .i64 (n : Int), .int .i64 (place : Int), .int .i64 (i : Int)] w fun e w' => e = .returned (.int .i64 (homeN n place i : Int)) ∧ Below w.heap.size w w' := by
  have q0 : ¬ (n : Int) < 1 := by omega
  have q1 : ¬ (place : Int) < 0 := by omega
  have q2 : ¬ (i : Int) < 0 := by omega
  have q3 : ¬ n = 0 := by omega
  have q31 : ((n : Int) == 0) = false := by simp; omega
  have t1 : (place : Int).tmod (n : Int) = ((place % n : Nat) : Int) := by rw [Int.tmod_eq_emod_of_nonneg (Int.natCast_nonneg _)]; push_cast; rfl
  have t2 : (i : Int).tmod (n : Int) = ((i % n : Nat) : Int) := by rw [Int.tmod_eq_emod_of_nonneg (Int.natCast_nonneg _)]; push_cast; rfl
  have l1 : place % n < n := Nat.mod_lt _ (by omega)
  have l2 : i % n < n := Nat.mod_lt _ (by omega)
  obtain ⟨u, hu⟩ : ∃ u, place % n = u := ⟨_, rfl⟩
  obtain ⟨v, hv⟩ : ∃ v, i % n = v := ⟨_, rfl⟩
  rw [hu] at t1 l1
  rw [hv] at t2 l2
  have t3 : ((u : Int) + (v : Int)).tmod (n : Int) = (((u + v) % n : Nat) : Int) := by rw [show (u : Int) + (v : Int) = ((u + v : Nat) : Int) by push_cast; rfl, Int.tmod_eq_emod_of_nonneg (Int.natCast_nonneg _)]; push_cast; rfl
  have q4 : IntKind.i64.wrap ((u : Int) + (v : Int)) = (u : Int) + (v : Int) := by rw [IntKind.wrap_i64]; omega
  have HH := Lib.hid (show homeN n place i = (u + v) % n by unfold homeN; rw [hu, hv])
  obtain ⟨x, hx⟩ : ∃ x, (u + v) % n = x := ⟨_, rfl⟩
  rw [hx] at t3 HH
  clear hu hv hx
  go_enter Tryz.func238, Tryz.ntmps238
  go_wp2_with fail
  refine wp_region_held_drew (S := fun _ => True) (by kernel_rfl) (trivial) (fun hHeld => ?_)
  refine wpAnyH_take (i := 0) (v := ?_) rfl (by kernel_rfl) (by kernel_rfl) (by kernel_rfl) (fun _ _ _ h => h) (Or.inl ⟨by first | kernel_rfl | rfl, ?_⟩) (by assumption) ?_
  rotate_left
  · (intro wq hSw; (try dsimp only at hSw); (try simp (maxSteps := 2000000) only [zz1, zz2, zz3]); go_simp); try with_reducible rfl
  try simp (maxSteps := 2000000) only [zz1, zz2, zz3, Act.put, zz4, zz5, zz6]
  refine wpAnyH_take (i := 1) (v := ?_) rfl (by kernel_rfl) (by kernel_rfl) (by kernel_rfl) (fun _ _ _ h => h) (Or.inl ⟨by first | kernel_rfl | rfl, ?_⟩) (by assumption) ?_
  rotate_left
  · (intro wq hSw; (try dsimp only at hSw); (try simp (maxSteps := 2000000) only [zz1, zz2, zz3]); go_simp); try with_reducible rfl
  try simp (maxSteps := 2000000) only [zz1, zz2, zz3, Act.put, zz4, zz5, zz6]
  refine wpAnyH_take (i := 2) (v := ?_) rfl (by kernel_rfl) (by kernel_rfl) (by kernel_rfl) (fun _ _ _ h => h) (Or.inl ⟨by first | kernel_rfl | rfl, ?_⟩) (by assumption) ?_
  rotate_left
  · (intro wq hSw; (try dsimp only at hSw); (try simp (maxSteps := 2000000) only [zz1, zz2, zz3]); go_simp); try with_reducible rfl
  try simp (maxSteps := 2000000) only [zz1, zz2, zz3, Act.put, zz4, zz5, zz6]
  refine wpAnyH_take (i := 3) (v := ?_) rfl (by kernel_rfl) (by kernel_rfl) (by kernel_rfl) (fun _ _ _ h => h) (Or.inl ⟨by first | kernel_rfl | rfl, ?_⟩) (by assumption) ?_
  rotate_left
  · (intro wq hSw; (try dsimp only at hSw); (try simp (maxSteps := 2000000) only [zz1, zz2, zz3]); go_simp); try with_reducible rfl
  try simp (maxSteps := 2000000) only [zz1, zz2, zz3, Act.put, zz4, zz5, zz6]
  refine wpAnyH_take (i := 4) (v := ?_) rfl (by kernel_rfl) (by kernel_rfl) (by kernel_rfl) (fun _ _ _ h => h) (Or.inl ⟨by first | kernel_rfl | rfl, ?_⟩) (by assumption) ?_
  rotate_left
  · (intro wq hSw; (try dsimp only at hSw); (try simp (maxSteps := 2000000) only [zz1, zz2, zz3]); go_simp); try with_reducible rfl
  try simp (maxSteps := 2000000) only [zz1, zz2, zz3, Act.put, zz4, zz5, zz6]
  refine wpAnyH_take (i := 5) (v := ?_) rfl (by kernel_rfl) (by kernel_rfl) (by kernel_rfl) (fun _ _ _ h => h) (Or.inl ⟨by first | kernel_rfl | rfl, ?_⟩) (by assumption) ?_
  rotate_left
  · (intro wq hSw; (try dsimp only at hSw); (try simp (maxSteps := 2000000) only [zz1, zz2, zz3]); go_simp); try with_reducible rfl
  try simp (maxSteps := 2000000) only [zz1, zz2, zz3, Act.put, zz4, zz5, zz6]
  refine wpAnyH_take (i := 6) (v := ?_) rfl (by kernel_rfl) (by kernel_rfl) (by kernel_rfl) (fun _ _ _ h => h) (Or.inl ⟨by first | kernel_rfl | rfl, ?_⟩) (by assumption) ?_
  rotate_left
  · (intro wq hSw; (try dsimp only at hSw); (try simp (maxSteps := 2000000) only [zz1, zz2, zz3]); go_simp); try with_reducible rfl
  try simp (maxSteps := 2000000) only [zz1, zz2, zz3, Act.put, zz4, zz5, zz6]
  refine wpAnyH_take (i := 7) (v := ?_) rfl (by kernel_rfl) (by kernel_rfl) (by kernel_rfl) (fun _ _ _ h => h) (Or.inl ⟨by first | kernel_rfl | rfl, ?_⟩) (by assumption) ?_
  rotate_left
  · (intro wq hSw; (try dsimp only at hSw); (try simp (maxSteps := 2000000) only [zz1, zz2, zz3]); go_simp); try with_reducible rfl
  try simp (maxSteps := 2000000) only [zz1, zz2, zz3, Act.put, zz4, zz5, zz6]
  refine wpAnyH_take (i := 8) (v := ?_) rfl (by kernel_rfl) (by kernel_rfl) (by kernel_rfl) (fun _ _ _ h => h) (Or.inl ⟨by first | kernel_rfl | rfl, ?_⟩) (by assumption) ?_
  rotate_left
  · (intro wq hSw; (try dsimp only at hSw); (try simp (maxSteps := 2000000) only [zz1, zz2, zz3]); go_simp); try with_reducible rfl
  try simp (maxSteps := 2000000) only [zz1, zz2, zz3, Act.put, zz4, zz5, zz6]
  refine wpAnyH_take (i := 9) (v := ?_) rfl (by kernel_rfl) (by kernel_rfl) (by kernel_rfl) (fun _ _ _ h => h) (Or.inl ⟨by first | kernel_rfl | rfl, ?_⟩) (by assumption) ?_
  rotate_left
  · (intro wq hSw; (try dsimp only at hSw); (try simp (maxSteps := 2000000) only [zz1, zz2, zz3]); go_simp); try with_reducible rfl
  try simp (maxSteps := 2000000) only [zz1, zz2, zz3, Act.put, zz4, zz5, zz6]
  refine wpAnyH_done (by kernel_rfl) ?_ _
  go_wp2_with fail
  go_ret
  exact ⟨by rw [HH.out]; rfl, (Below.refl _ _).drew⟩
def setC (a cb : Nat) (r : Ref) : Array Value := #[.pointer (some ⟨a, 0, none⟩), .pointer (some ⟨cb, 0, none⟩), .int .u8 (r.kind : Int), .int .i64 (r.place : Int), .int .u64 (r.gen : Int)]
section
variable {U : Nat → Prop} {w : World} {a n s cb : Nat} {v : Value} {Fs : Nat → Nat → Prop} {ps : List Nat} {sts : List DSt} {r : Ref}
set_option maxRecDepth 100000 in
set_option maxHeartbeats 4000000 in
theorem shome_any (hS : BoxAt w s (setC a cb r)) (h : Hid (ArrB U w a v Fs ps n sts)) (h1 : 1 ≤ sts.length) (h2 : sts.length ≤ 1000) (i : Nat) :
    Calls Tryz.prog 206 #[.pointer (some ⟨s, 0, none⟩), .int .i64 (i : Int)] w fun e w' => e = .returned (.int .i64 (homeN sts.length r.place i : Int)) ∧ Below w.heap.size w w' := by
  have hSd : BoxAt w.drew s (setC a cb r) := hS.keep rfl
  have s0 : w.drew.cell? ⟨s, 0, none⟩ = some (.pointer (some ⟨a, 0, none⟩)) ∧ w.drew.cell? ⟨s, 3, none⟩ = some (.int .i64 (r.place : Int)) := ⟨hSd.cell 0, hSd.cell 3⟩
  have hd : Below w.heap.size w w.drew := (Below.refl _ _).drew
  have hN := an_any (Lib.hid (h.out.below hd)) (by omega)
  have hH := fun w => home_any (w := w) (n := sts.length) (place := r.place) (i := i) h1 h2
  obtain ⟨l, hl⟩ : ∃ l, sts.length = l := ⟨_, rfl⟩
  rw [hl] at hN hH ⊢
  clear hl h hS
  go_enter Tryz.func206, Tryz.ntmps206
  go_wp2_with fail
  refine wp_region_held_drew (S := fun w' => w'.cell? ⟨s, 0, none⟩ = some (.pointer (some ⟨a, 0, none⟩)) ∧ w'.cell? ⟨s, 3, none⟩ = some (.int .i64 (r.place : Int))) (by kernel_rfl) (by first | exact s0 | exact s5 | exact s6) (fun hHeld => ?_)
  refine wpAnyH_take (i := 0) (v := ?_) rfl (by kernel_rfl) (by kernel_rfl) (by kernel_rfl) (fun _ _ _ h => h) (Or.inl ⟨by first | kernel_rfl | rfl, ?_⟩) (by assumption) ?_
  rotate_left
  · (intro wq hSw; (try dsimp only at hSw); (try simp (maxSteps := 2000000) only [zz1, zz2, zz3]); go_simp); try with_reducible rfl
  try simp (maxSteps := 2000000) only [zz1, zz2, zz3, Act.put, zz4, zz5, zz6]
  refine wpAnyH_take (i := 1) (v := ?_) rfl (by kernel_rfl) (by kernel_rfl) (by kernel_rfl) (fun _ _ _ h => h) (Or.inl ⟨by first | kernel_rfl | rfl, ?_⟩) (by assumption) ?_
  rotate_left
  · (intro wq hSw; (try dsimp only at hSw); (try simp (maxSteps := 2000000) only [zz1, zz2, zz3]); go_simp); try with_reducible rfl
  try simp (maxSteps := 2000000) only [zz1, zz2, zz3, Act.put, zz4, zz5, zz6]
  refine wpAnyH_take (i := 2) (v := ?_) rfl (by kernel_rfl) (by kernel_rfl) (by kernel_rfl) (fun _ _ _ h => h) (Or.inl ⟨by first | kernel_rfl | rfl, ?_⟩) (by assumption) ?_
  rotate_left
  · (intro wq hSw; (try dsimp only at hSw); (try simp (maxSteps := 2000000) only [zz1, zz2, zz3]); go_simp); try with_reducible rfl
  try simp (maxSteps := 2000000) only [zz1, zz2, zz3, Act.put, zz4, zz5, zz6]
  refine wpAnyH_take (i := 3) (v := ?_) rfl (by kernel_rfl) (by kernel_rfl) (by kernel_rfl) (fun _ _ _ h => h) (Or.inl ⟨by first | kernel_rfl | rfl, ?_⟩) (by assumption) ?_
  rotate_left
  · (intro wq hSw; (try dsimp only at hSw); (try simp (maxSteps := 2000000) only [zz1, zz2, zz3]); go_simp); try with_reducible rfl
  try simp (maxSteps := 2000000) only [zz1, zz2, zz3, Act.put, zz4, zz5, zz6]
  refine wpAnyH_take (i := 5) (v := ?_) rfl (by kernel_rfl) (by kernel_rfl) (by kernel_rfl) (fun _ _ _ h => h) (Or.inl ⟨by first | kernel_rfl | rfl, ?_⟩) (by assumption) ?_
  rotate_left
  · (intro wq hSw; (try dsimp only at hSw); (try simp (maxSteps := 2000000) only [zz1, zz2, zz3]); go_simp); try with_reducible rfl
  try simp (maxSteps := 2000000) only [zz1, zz2, zz3, Act.put, zz4, zz5, zz6]
  refine wpAnyH_take (i := 6) (v := ?_) rfl (by kernel_rfl) (by kernel_rfl) (by kernel_rfl) (fun _ _ _ h => h) (Or.inl ⟨by first | kernel_rfl | rfl, ?_⟩) (by assumption) ?_
  rotate_left
  · (intro wq hSw; (try dsimp only at hSw); (try simp (maxSteps := 2000000) only [zz1, zz2, zz3]); go_simp); try with_reducible rfl
  try simp (maxSteps := 2000000) only [zz1, zz2, zz3, Act.put, zz4, zz5, zz6]
  refine wpAnyH_take (i := 7) (v := ?_) rfl (by kernel_rfl) (by kernel_rfl) (by kernel_rfl) (fun _ _ _ h => h) (Or.inl ⟨by first | kernel_rfl | rfl, ?_⟩) (by assumption) ?_
  rotate_left
  · (intro wq hSw; (try dsimp only at hSw); (try simp (maxSteps := 2000000) only [zz1, zz2, zz3]); go_simp); try with_reducible rfl
  try simp (maxSteps := 2000000) only [zz1, zz2, zz3, Act.put, zz4, zz5, zz6]
  refine wpAnyH_take (i := 8) (v := ?_) rfl (by kernel_rfl) (by kernel_rfl) (by kernel_rfl) (fun _ _ _ h => h) (Or.inl ⟨by first | kernel_rfl | rfl, ?_⟩) (by assumption) ?_
  rotate_left
  · (intro wq hSw; (try dsimp only at hSw); (try simp (maxSteps := 2000000) only [zz1, zz2, zz3]); go_simp); try with_reducible rfl
  try simp (maxSteps := 2000000) only [zz1, zz2, zz3, Act.put, zz4, zz5, zz6]
  refine wpAnyH_take (i := 9) (v := ?_) rfl (by kernel_rfl) (by kernel_rfl) (by kernel_rfl) (fun _ _ _ h => h) (Or.inl ⟨by first | kernel_rfl | rfl, ?_⟩) (by assumption) ?_
  rotate_left
  · (intro wq hSw; (try dsimp only at hSw); (try simp (maxSteps := 2000000) only [zz1, zz2, zz3]); go_simp); try with_reducible rfl
  try simp (maxSteps := 2000000) only [zz1, zz2, zz3, Act.put, zz4, zz5, zz6]
  refine wpAnyH_take (i := 10) (v := ?_) rfl (by kernel_rfl) (by kernel_rfl) (by kernel_rfl) (fun _ _ _ h => h) (Or.inl ⟨by first | kernel_rfl | rfl, ?_⟩) (by assumption) ?_
  rotate_left
  · (intro wq hSw; (try dsimp only at hSw); (try simp (maxSteps := 2000000) only [zz1, zz2, zz3]); go_simp); try with_reducible rfl
  try simp (maxSteps := 2000000) only [zz1, zz2, zz3, Act.put, zz4, zz5, zz6]
  refine wpAnyH_ready (rs := [4]) (by kernel_rfl) (by simp) ?_
  refine AllReadyH.cons rfl (fun K hK => ?_) AllReadyH.nil
  try simp (maxSteps := 2000000) only [zz1, zz2, zz3]
  go_simp
  go_at_call 86
  refine hN.mono ?_
  clear hN
  rintro e w5 ⟨rfl, hb5⟩
  have hS5 := hSd.below hb5
  have s5 : w5.cell? ⟨s, 0, none⟩ = some (.pointer (some ⟨a, 0, none⟩)) ∧ w5.cell? ⟨s, 3, none⟩ = some (.int .i64 (r.place : Int)) := ⟨hS5.cell 0, hS5.cell 3⟩
  try (go_wp2_with fail)
  refine hK.out _ _ (by first | exact s0 | exact s5 | exact s6) (fun hHeld => ?_)
  clear hK K
  try simp (maxSteps := 2000000) only [zz1, zz2, zz3, Act.put, zz4, zz5, zz6]
  refine wpAnyH_ready (rs := [11]) (by kernel_rfl) (by simp) ?_
  refine AllReadyH.cons rfl (fun K hK => ?_) AllReadyH.nil
  try simp (maxSteps := 2000000) only [zz1, zz2, zz3]
  go_simp
  go_at_call 238
  refine (hH _).mono ?_
  clear hH
  rintro e w6 ⟨rfl, hb6⟩
  have hS6 := hS5.below hb6
  have s6 : w6.cell? ⟨s, 0, none⟩ = some (.pointer (some ⟨a, 0, none⟩)) ∧ w6.cell? ⟨s, 3, none⟩ = some (.int .i64 (r.place : Int)) := ⟨hS6.cell 0, hS6.cell 3⟩
  have hb56 : Below w.heap.size w w6 := hd.trans (hb5.trans (hb6.mono hb5.size))
  try (go_wp2_with fail)
  refine hK.out _ _ (by first | exact s0 | exact s5 | exact s6) (fun hHeld => ?_)
  clear hK K
  try simp (maxSteps := 2000000) only [zz1, zz2, zz3, Act.put, zz4, zz5, zz6]
  refine wpAnyH_take (i := 12) (v := ?_) rfl (by kernel_rfl) (by kernel_rfl) (by kernel_rfl) (fun _ _ _ h => h) (Or.inl ⟨by first | kernel_rfl | rfl, ?_⟩) (by assumption) ?_
  rotate_left
  · (intro wq hSw; (try dsimp only at hSw); (try simp (maxSteps := 2000000) only [zz1, zz2, zz3]); go_simp); try with_reducible rfl
  try simp (maxSteps := 2000000) only [zz1, zz2, zz3, Act.put, zz4, zz5, zz6]
  refine wpAnyH_done (by kernel_rfl) ?_ _
  go_wp2_with fail
  go_ret
  exact ⟨rfl, hb56⟩
end
end Go.Proofs.YtcliejdiaohamaaGreat

set_option linter.unusedSimpArgs false
set_option linter.unusedVariables false
namespace Go.Proofs.YtcliejdiaohamaaGreat
open Go.RowKit Go.Cib
attribute [local go_sem] cell_set Later.cell Later.frozen Grw.cell Grw.frozen
theorem by_of_u8 {S : Nat → Prop} {w : World} {A : Option Addr} {n : Nat} {xs : List Int} (h : RdL U8R 1 S w A n xs) (hb : ∀ x ∈ xs, 0 ≤ x ∧ x < 256) : RdL ByR 1 S w A n (xs.map Int.toNat) := by
  refine ⟨by rw [List.length_map]; exact h.1, fun hn => ?_⟩
  obtain ⟨b, o, hA, hS, hlt, hc⟩ := h.2 hn
  refine ⟨b, o, hA, hS, hlt, fun i x hx => ?_⟩
  rw [List.getElem?_map] at hx
  cases hl : xs[i]? with
  | none => rw [hl] at hx; cases hx
  | some y =>
    rw [hl] at hx
    injection hx with hx
    obtain ⟨cs, h1, h2, h3⟩ := hc i y hl
    have hy := hb y (List.mem_of_getElem? hl)
    refine ⟨cs, h1, ⟨by omega, ?_⟩, h3⟩
    have h4 : cs = [.int .u8 y] := h2
    rw [h4, ← hx, Int.toNat_of_nonneg hy.1]
/-- A drive's sectors are bytes. -/
def StB (st : DSt) (z : Nat) : Prop := ∀ x ∈ st.seen z, 0 ≤ x ∧ x < 256
def secN (st : DSt) (z : Nat) : List Nat := (st.seen z).map Int.toNat
section
variable {U : Nat → Prop} {w : World} {a n s cb : Nat} {v : Value} {Fs : Nat → Nat → Prop} {ps : List Nat} {sts : List DSt} {r : Ref}
set_option maxRecDepth 100000 in
theorem aread2 (h : Hid (ArrB U w a v Fs ps n sts)) (d : Nat) {st : DSt} (hst : sts[d]? = some st) (z : Nat) (hz : z < n) (hb : StB st z) :
    Calls Tryz.prog 202 #[.pointer (some ⟨a, 0, none⟩), .int .i64 (d : Int), .int .i64 (z : Int)] w fun e w' => Below w.heap.size w w' ∧
      ((st.dead = true ∧ e = .returned (.tuple #[.slice none 0 0, .int .i64 90])) ∨
       (st.dead = false ∧ ∃ A, e = .returned (.tuple #[.slice A 64 64, .int .i64 0]) ∧ RdL ByR 1 (w.heap.size ≤ ·) w' A 64 (secN st z))) := by
  have hd : d < sts.length := (List.getElem?_eq_some_iff.1 hst).1
  have hp : ps[d]? = some (ps[d]'(by rw [← h.out.len]; exact hd)) := List.getElem?_eq_getElem _
  have hre := areach_in h d hd hp
  have HB := Lib.hid hb
  go_enter Tryz.func202, Tryz.ntmps202
  go_wp2_with fail
  refine hre.mono ?_
  rintro e w1 ⟨rfl, t1⟩
  have D1 := Lib.hid ((h.out.drv d _ _ hp hst).below t1)
  have T1 := Lib.hid t1
  have s1 := t1.size
  clear t1 hre hb
  cases hdd : st.dead with
  | false =>
    have hrd := read_good D1 hdd z hz
    have HDD := Lib.hid hdd
    clear hdd
    go_wp2_with fail
    refine hrd.mono ?_
    rintro e w2 ⟨A, rfl, r2, t2⟩
    have R2 := Lib.hid (by_of_u8 r2 HB.out)
    clear r2 hrd
    go_wp2_with fail
    go_ret2
    exact ⟨T1.out.trans (t2.mono s1),   .inr ⟨HDD.out, A, rfl, R2.out.weaken ByR.stable (fun k hk => Nat.le_trans s1 hk)⟩⟩
  | true =>
    have hrE : readyE st.dead n (z : Int) = 90 := by unfold readyE; rw [hdd]; rfl
    have hrd := read_bad D1 (z : Int) (by rw [hrE]; decide)
    rw [hrE] at hrd
    have HDD := Lib.hid hdd
    clear hdd hrE
    go_wp2_with fail
    refine hrd.mono ?_
    rintro e w2 ⟨rfl, t2⟩
    clear hrd
    go_wp2_with fail
    go_ret2
    exact ⟨T1.out.trans (t2.mono s1),   .inl ⟨HDD.out, rfl⟩⟩
end
end Go.Proofs.YtcliejdiaohamaaGreat

set_option linter.unusedSimpArgs false
set_option linter.unusedVariables false
namespace Go.Proofs.YtcliejdiaohamaaGreat
open Go.RowKit Go.Cib
attribute [local go_sem] cell_set Later.cell Later.frozen Grw.cell Grw.frozen
theorem decS_ok {xs : List Nat} (hl : xs.length = 64) (hb : Byt xs) : (decS xs).ok := by
  have h : ∀ a k, a + k ≤ 64 → unN ((xs.drop a).take k) < 2 ^ (8 * k) := fun a k hak => by
    have h := unN_lt (l := (xs.drop a).take k) fun x hx => hb x (List.mem_of_mem_drop (List.mem_of_mem_take hx))
    rwa [show ((xs.drop a).take k).length = k by rw [List.length_take, List.length_drop, hl]; omega] at h
  exact ⟨h 0 1 (by omega), h 1 1 (by omega), h 2 2 (by omega), h 4 8 (by omega), h 12 2 (by omega), by show ((xs.drop 16).take 44).length = 44; rw [List.length_take, List.length_drop, hl]; omega, fun x hx => hb x (List.mem_of_mem_drop (List.mem_of_mem_take hx))⟩
def rdX (xs : List Nat) (k : Nat) (r : Ref) (i : Nat) : Option Shd := if okSum xs ∧ frmB xs = true ∧ isB (decS xs) r i = true ∧ (decS xs).size ≤ k * 44 then some (decS xs) else none
def rdS (st : DSt) (k : Nat) (r : Ref) (i : Nat) : Option Shd := if st.dead = true then none else rdX (secN st r.place) k r i
attribute [local go_sem ↓] shut_loadS shut_zeroS shut_buildS shut_storeS
attribute [local go_sem] run_zeroS run_build0
section
variable {U C : Nat → Prop} {w : World} {a n s cb b k m : Nat} {v : Value} {Fs : Nat → Nat → Prop} {ps : List Nat} {sts : List DSt} {r : Ref}
set_option maxRecDepth 100000 in
set_option maxHeartbeats 4000000 in
theorem room_any (h : CodAt w cb b k m) : Calls Tryz.prog 105 #[.pointer (some ⟨cb, 0, none⟩)] w fun e w' => e = .returned (.int .i64 ((k * 44 : Nat) : Int)) ∧ w' = w := by
  have hk := ck_any h
  have q0 : (k : Int) ≤ 255 := by have := h.km; omega
  clear h
  go_enter Tryz.func105, Tryz.ntmps105
  go_wp2_with fail
  refine hk.mono ?_
  rintro e w5 ⟨rfl, hw5⟩
  rw [hw5]
  clear hw5 hk
  go_wp2_with fail
  go_ret
  exact ⟨by push_cast; rfl, rfl⟩
def ReadE (w : World) (R : Option Shd) (e : Ending) (w' : World) : Prop := Below w.heap.size w w' ∧ ∃ y B, e = .returned (.tuple #[.agg (shC y), .bool B]) ∧ y.ok ∧ ((B = true ∧ R = some y) ∨ (B = false ∧ R = none))
set_option maxRecDepth 100000 in
set_option maxHeartbeats 8000000 in
theorem sread_any (hS : BoxAt w s (setC a cb r)) (h : Hid (ArrB U w a v Fs ps n sts)) (HC : CodAt w cb b k m) (hlen : sts.length = k + m) (hz : r.place < n) (i : Nat) {st : DSt} (hst : sts[homeN sts.length r.place i]? = some st) (hb : StB st r.place) (h64 : (secN st r.place).length = 64) :
    Calls Tryz.prog 158 #[.pointer (some ⟨s, 0, none⟩), .int .i64 (i : Int)] w fun e w' => ReadE w (rdS st k r i) e w' := by
  have hkm := HC.km
  have hk1 := HC.k1
  go_enter Tryz.func158, Tryz.ntmps158
  go_wp2_with fail
  have b0 := BoxAt.new w (shC sh0) 130
  have hb0 : Below w.heap.size w (w.alloc (.cells (shC sh0) 130)) := (Below.refl _ _).alloc (Nat.le_refl _) _
  obtain ⟨wA, hwA⟩ : ∃ wA, w.alloc (.cells (shC sh0) 130) = wA := ⟨_, rfl⟩
  rw [hwA] at b0 hb0 ⊢
  clear hwA
  obtain ⟨p, hp⟩ : ∃ p, w.heap.size = p := ⟨_, rfl⟩
  rw [hp] at b0 ⊢
  have hd : Below w.heap.size w wA.drew := hb0.drew
  have hSd : BoxAt wA.drew s (setC a cb r) := hS.below hd
  have s0 : wA.drew.cell? ⟨s, 0, none⟩ = some (.pointer (some ⟨a, 0, none⟩)) ∧ wA.drew.cell? ⟨s, 3, none⟩ = some (.int .i64 (r.place : Int)) := ⟨hSd.cell 0, hSd.cell 3⟩
  have hH := shome_any hSd (Lib.hid (h.out.below hd)) (by omega) (by omega) i
  have hrd := fun w' (hb' : Below w.heap.size w w') => aread2 (w := w') (Lib.hid (h.out.below hb')) _ hst r.place hz hb
  have bPd : BoxAt wA.drew p (shC sh0) := b0.keep rfl
  have HCH := Lib.hid HC
  obtain ⟨d, hde⟩ : ∃ d, homeN sts.length r.place i = d := ⟨_, rfl⟩
  rw [hde] at hH hrd
  have HLEN := Lib.hid hlen
  clear h HC hst b0 hde hlen
  refine wp_region_held_drew (S := fun w' => w'.cell? ⟨s, 0, none⟩ = some (.pointer (some ⟨a, 0, none⟩)) ∧ w'.cell? ⟨s, 3, none⟩ = some (.int .i64 (r.place : Int))) (by kernel_rfl) (by first | exact s0 | exact s5 | exact s6) (fun hHeld => ?_)
  refine wpAnyH_take (i := 0) (v := ?_) rfl (by kernel_rfl) (by kernel_rfl) (by kernel_rfl) (fun _ _ _ h => h) (Or.inl ⟨by first | kernel_rfl | rfl, ?_⟩) (by assumption) ?_
  rotate_left
  · (intro wq hSw; (try dsimp only at hSw); (try simp (maxSteps := 2000000) only [zz1, zz2, zz3]); go_simp); try with_reducible rfl
  try simp (maxSteps := 2000000) only [zz1, zz2, zz3, Act.put, zz4, zz5, zz6]
  refine wpAnyH_take (i := 1) (v := ?_) rfl (by kernel_rfl) (by kernel_rfl) (by kernel_rfl) (fun _ _ _ h => h) (Or.inl ⟨by first | kernel_rfl | rfl, ?_⟩) (by assumption) ?_
  rotate_left
  · (intro wq hSw; (try dsimp only at hSw); (try simp (maxSteps := 2000000) only [zz1, zz2, zz3]); go_simp); try with_reducible rfl
  try simp (maxSteps := 2000000) only [zz1, zz2, zz3, Act.put, zz4, zz5, zz6]
  refine wpAnyH_take (i := 2) (v := ?_) rfl (by kernel_rfl) (by kernel_rfl) (by kernel_rfl) (fun _ _ _ h => h) (Or.inl ⟨by first | kernel_rfl | rfl, ?_⟩) (by assumption) ?_
  rotate_left
  · (intro wq hSw; (try dsimp only at hSw); (try simp (maxSteps := 2000000) only [zz1, zz2, zz3]); go_simp); try with_reducible rfl
  try simp (maxSteps := 2000000) only [zz1, zz2, zz3, Act.put, zz4, zz5, zz6]
  refine wpAnyH_take (i := 3) (v := ?_) rfl (by kernel_rfl) (by kernel_rfl) (by kernel_rfl) (fun _ _ _ h => h) (Or.inl ⟨by first | kernel_rfl | rfl, ?_⟩) (by assumption) ?_
  rotate_left
  · (intro wq hSw; (try dsimp only at hSw); (try simp (maxSteps := 2000000) only [zz1, zz2, zz3]); go_simp); try with_reducible rfl
  try simp (maxSteps := 2000000) only [zz1, zz2, zz3, Act.put, zz4, zz5, zz6]
  refine wpAnyH_take (i := 4) (v := ?_) rfl (by kernel_rfl) (by kernel_rfl) (by kernel_rfl) (fun _ _ _ h => h) (Or.inl ⟨by first | kernel_rfl | rfl, ?_⟩) (by assumption) ?_
  rotate_left
  · (intro wq hSw; (try dsimp only at hSw); (try simp (maxSteps := 2000000) only [zz1, zz2, zz3]); go_simp); try with_reducible rfl
  try simp (maxSteps := 2000000) only [zz1, zz2, zz3, Act.put, zz4, zz5, zz6]
  refine wpAnyH_take (i := 5) (v := ?_) rfl (by kernel_rfl) (by kernel_rfl) (by kernel_rfl) (fun _ _ _ h => h) (Or.inl ⟨by first | kernel_rfl | rfl, ?_⟩) (by assumption) ?_
  rotate_left
  · (intro wq hSw; (try dsimp only at hSw); (try simp (maxSteps := 2000000) only [zz1, zz2, zz3]); go_simp); try with_reducible rfl
  try simp (maxSteps := 2000000) only [zz1, zz2, zz3, Act.put, zz4, zz5, zz6]
  refine wpAnyH_take (i := 7) (v := ?_) rfl (by kernel_rfl) (by kernel_rfl) (by kernel_rfl) (fun _ _ _ h => h) (Or.inl ⟨by first | kernel_rfl | rfl, ?_⟩) (by assumption) ?_
  rotate_left
  · (intro wq hSw; (try dsimp only at hSw); (try simp (maxSteps := 2000000) only [zz1, zz2, zz3]); go_simp); try with_reducible rfl
  try simp (maxSteps := 2000000) only [zz1, zz2, zz3, Act.put, zz4, zz5, zz6]
  refine wpAnyH_take (i := 8) (v := ?_) rfl (by kernel_rfl) (by kernel_rfl) (by kernel_rfl) (fun _ _ _ h => h) (Or.inl ⟨by first | kernel_rfl | rfl, ?_⟩) (by assumption) ?_
  rotate_left
  · (intro wq hSw; (try dsimp only at hSw); (try simp (maxSteps := 2000000) only [zz1, zz2, zz3]); go_simp); try with_reducible rfl
  try simp (maxSteps := 2000000) only [zz1, zz2, zz3, Act.put, zz4, zz5, zz6]
  refine wpAnyH_take (i := 9) (v := ?_) rfl (by kernel_rfl) (by kernel_rfl) (by kernel_rfl) (fun _ _ _ h => h) (Or.inl ⟨by first | kernel_rfl | rfl, ?_⟩) (by assumption) ?_
  rotate_left
  · (intro wq hSw; (try dsimp only at hSw); (try simp (maxSteps := 2000000) only [zz1, zz2, zz3]); go_simp); try with_reducible rfl
  try simp (maxSteps := 2000000) only [zz1, zz2, zz3, Act.put, zz4, zz5, zz6]
  refine wpAnyH_take (i := 10) (v := ?_) rfl (by kernel_rfl) (by kernel_rfl) (by kernel_rfl) (fun _ _ _ h => h) (Or.inl ⟨by first | kernel_rfl | rfl, ?_⟩) (by assumption) ?_
  rotate_left
  · (intro wq hSw; (try dsimp only at hSw); (try simp (maxSteps := 2000000) only [zz1, zz2, zz3]); go_simp); try with_reducible rfl
  try simp (maxSteps := 2000000) only [zz1, zz2, zz3, Act.put, zz4, zz5, zz6]
  refine wpAnyH_take (i := 11) (v := ?_) rfl (by kernel_rfl) (by kernel_rfl) (by kernel_rfl) (fun _ _ _ h => h) (Or.inl ⟨by first | kernel_rfl | rfl, ?_⟩) (by assumption) ?_
  rotate_left
  · (intro wq hSw; (try dsimp only at hSw); (try simp (maxSteps := 2000000) only [zz1, zz2, zz3]); go_simp); try with_reducible rfl
  try simp (maxSteps := 2000000) only [zz1, zz2, zz3, Act.put, zz4, zz5, zz6]
  refine wpAnyH_ready (rs := [6]) (by kernel_rfl) (by simp) ?_
  refine AllReadyH.cons rfl (fun K hK => ?_) AllReadyH.nil
  try simp (maxSteps := 2000000) only [zz1, zz2, zz3]
  go_simp
  go_at_call 206
  refine hH.mono ?_
  clear hH
  rintro e w5 ⟨rfl, hb5⟩
  have hS5 := hSd.below hb5
  have bP5 := bPd.below hb5
  have s5 : w5.cell? ⟨s, 0, none⟩ = some (.pointer (some ⟨a, 0, none⟩)) ∧ w5.cell? ⟨s, 3, none⟩ = some (.int .i64 (r.place : Int)) := ⟨hS5.cell 0, hS5.cell 3⟩
  have hw5 : Below w.heap.size w w5 := hd.trans (hb5.mono hd.size)
  try (go_wp2_with fail)
  refine hK.out _ _ (by first | exact s0 | exact s5 | exact s6) (fun hHeld => ?_)
  clear hK K
  try simp (maxSteps := 2000000) only [zz1, zz2, zz3, Act.put, zz4, zz5, zz6]
  refine wpAnyH_ready (rs := [12]) (by kernel_rfl) (by simp) ?_
  refine AllReadyH.cons rfl (fun K hK => ?_) AllReadyH.nil
  try simp (maxSteps := 2000000) only [zz1, zz2, zz3]
  go_simp
  go_at_call 202
  refine (hrd _ hw5).mono ?_
  clear hrd
  rintro e w6 ⟨hb6, hres⟩
  have hS6 := hS5.below hb6
  have bP6 := bP5.below hb6
  have s6 : w6.cell? ⟨s, 0, none⟩ = some (.pointer (some ⟨a, 0, none⟩)) ∧ w6.cell? ⟨s, 3, none⟩ = some (.int .i64 (r.place : Int)) := ⟨hS6.cell 0, hS6.cell 3⟩
  have hw6 : Below w.heap.size w w6 := hw5.trans (hb6.mono hw5.size)
  obtain ⟨AR, mR, eR, hres2⟩ : ∃ A m E, e = .returned (.tuple #[.slice A m m, .int .i64 E]) ∧ ((st.dead = true ∧ E = 90 ∧ m = 0) ∨ (st.dead = false ∧ E = 0 ∧ m = 64 ∧ RdL ByR 1 (w5.heap.size ≤ ·) w6 A 64 (secN st r.place))) := by
    rcases hres with ⟨h1, rfl⟩ | ⟨h1, A, rfl, h2⟩
    · exact ⟨none, 0, 90, rfl, .inl ⟨h1, rfl, rfl⟩⟩
    · exact ⟨A, 64, 0, rfl, .inr ⟨h1, rfl, rfl, h2⟩⟩
  obtain ⟨rfl, hres3⟩ := hres2
  have HRES := Lib.hid hres3
  clear hres hres3
  try (go_wp2_with fail)
  refine hK.out _ _ (by first | exact s0 | exact s5 | exact s6) (fun hHeld => ?_)
  clear hK K
  try simp (maxSteps := 2000000) only [zz1, zz2, zz3, Act.put, zz4, zz5, zz6]
  refine wpAnyH_take (i := 13) (v := ?_) rfl (by kernel_rfl) (by kernel_rfl) (by kernel_rfl) (fun _ _ _ h => h) (Or.inl ⟨by first | kernel_rfl | rfl, ?_⟩) (by assumption) ?_
  rotate_left
  · (intro wq hSw; (try dsimp only at hSw); (try simp (maxSteps := 2000000) only [zz1, zz2, zz3]); go_simp); try with_reducible rfl
  try simp (maxSteps := 2000000) only [zz1, zz2, zz3, Act.put, zz4, zz5, zz6]
  refine wpAnyH_take (i := 14) (v := ?_) rfl (by kernel_rfl) (by kernel_rfl) (by kernel_rfl) (fun _ _ _ h => h) (Or.inl ⟨by first | kernel_rfl | rfl, ?_⟩) (by assumption) ?_
  rotate_left
  · (intro wq hSw; (try dsimp only at hSw); (try simp (maxSteps := 2000000) only [zz1, zz2, zz3]); go_simp); try with_reducible rfl
  try simp (maxSteps := 2000000) only [zz1, zz2, zz3, Act.put, zz4, zz5, zz6]
  refine wpAnyH_take (i := 15) (v := ?_) rfl (by kernel_rfl) (by kernel_rfl) (by kernel_rfl) (fun _ _ _ h => h) (Or.inl ⟨by first | kernel_rfl | rfl, ?_⟩) (by assumption) ?_
  rotate_left
  · (intro wq hSw; (try dsimp only at hSw); (try simp (maxSteps := 2000000) only [zz1, zz2, zz3]); go_simp); try with_reducible rfl
  try simp (maxSteps := 2000000) only [zz1, zz2, zz3, Act.put, zz4, zz5, zz6]
  refine wpAnyH_take (i := 16) (v := ?_) rfl (by kernel_rfl) (by kernel_rfl) (by kernel_rfl) (fun _ _ _ h => h) (Or.inl ⟨by first | kernel_rfl | rfl, ?_⟩) (by assumption) ?_
  rotate_left
  · (intro wq hSw; (try dsimp only at hSw); (try simp (maxSteps := 2000000) only [zz1, zz2, zz3]); go_simp); try with_reducible rfl
  try simp (maxSteps := 2000000) only [zz1, zz2, zz3, Act.put, zz4, zz5, zz6]
  refine wpAnyH_take (i := 17) (v := ?_) rfl (by kernel_rfl) (by kernel_rfl) (by kernel_rfl) (fun _ _ _ h => h) (Or.inl ⟨by first | kernel_rfl | rfl, ?_⟩) (by assumption) ?_
  rotate_left
  · (intro wq hSw; (try dsimp only at hSw); (try simp (maxSteps := 2000000) only [zz1, zz2, zz3]); go_simp); try with_reducible rfl
  try simp (maxSteps := 2000000) only [zz1, zz2, zz3, Act.put, zz4, zz5, zz6]
  refine wpAnyH_done (by kernel_rfl) ?_ _
  have HS6 := Lib.hid hS6
  have HW6 := Lib.hid hw6
  have lP6 := bP6.lt
  have hpw : w.heap.size ≤ p := by omega
  clear s0 s5 s6 hSd hS5 bPd bP5 hb5 hw5 hHeld hS6 hw6 hd hb0
  rcases HRES.out with ⟨hdd, rfl, rfl⟩ | ⟨hdd, rfl, rfl, hr6⟩
  · have HRD := Lib.hid (show rdS st k r i = none by unfold rdS; rw [if_pos hdd])
    have hst := run_storeS (y := sh0) bP6 sh0_ok.l sh0_ok.l
    have hb2 := shC_set (y := sh0) bP6 sh0_ok.l sh0_ok.l
    clear HRES hdd
    go_wp2_with fail
    have hld := run_loadS hb2 sh0_ok.l
    refine bodyPost_ret (v := .tuple #[.agg (shC sh0), .bool false]) (results_cellS Tryz.results158 _ _ _ _ _ rfl rfl hld) rfl ?_
    exact ⟨setS_below HW6.out hpw _, sh0, false, rfl, sh0_ok, .inr ⟨rfl, HRD.out⟩⟩
  · have hbx := by_byt hr6
    have hgt := shget_any hr6 (Nat.le_refl _)
    have HBX := Lib.hid hbx
    have HDD := Lib.hid hdd
    clear HRES hdd hr6 hbx
    go_wp2_with fail
    refine hgt.mono ?_
    clear hgt
    rintro e w7 ⟨hb7, hres⟩
    obtain ⟨y, E, he, hy, hcase⟩ : ∃ y E, e = .returned (.tuple #[.agg (shC y), .int .i64 E]) ∧ y.ok ∧ ((E ≠ 0 ∧ rdX (secN st r.place) k r i = none) ∨ (E = 0 ∧ rdX (secN st r.place) k r i = if isB y r i = true ∧ y.size ≤ k * 44 then some y else none)) := by
      rcases hres with ⟨h1, rfl⟩ | ⟨h1, h2, rfl⟩ | ⟨h1, h2, rfl⟩
      · exact ⟨sh0, 4, rfl, sh0_ok, .inl ⟨by decide, by unfold rdX; rw [if_neg (fun h => h1 h.1)]⟩⟩
      · exact ⟨sh0, 3, rfl, sh0_ok, .inl ⟨by decide, by unfold rdX; rw [if_neg (fun h => by rw [h2] at h; exact absurd h.2.1 (by decide))]⟩⟩
      · refine ⟨decS (secN st r.place), 0, rfl, decS_ok h64 HBX.out, .inr ⟨rfl, ?_⟩⟩
        unfold rdX
        by_cases h3 : isB (decS (secN st r.place)) r i = true ∧ (decS (secN st r.place)).size ≤ k * 44
        · rw [if_pos ⟨h1, h2, h3⟩, if_pos h3]
        · rw [if_neg (fun h => h3 h.2.2), if_neg h3]
    subst he
    have HRX := Lib.hid (show rdS st k r i = rdX (secN st r.place) k r i by unfold rdS; rw [if_neg (by rw [HDD.out]; simp)])
    have HY := Lib.hid hy
    have hyl := hy.l
    have HCASE := Lib.hid hcase
    have bP7 := bP6.below hb7
    have bS7 := HS6.out.below hb7
    have hw7 : Below w.heap.size w w7 := HW6.out.trans (hb7.mono HW6.out.size)
    have hst := run_storeS (y := y) (BoxAt.new w7 (shC sh0) 130) sh0_ok.l hyl
    have bQ := shC_set (y := y) (BoxAt.new w7 (shC sh0) 130) sh0_ok.l hyl
    have lP := bP7.lt
    have lS := bS7.lt
    have bP8 := (bP7.alloc (.cells (shC sh0) 130)).keep (setCells_other _ w7.heap.size 0 p (shV y) (by omega))
    have bS8 := (bS7.alloc (.cells (shC sh0) 130)).keep (setCells_other _ w7.heap.size 0 s (shV y) (by omega))
    have hw8 := setS_below (hw7.alloc hw7.size (.cells (shC sh0) 130)) (p := w7.heap.size) hw7.size (shV y)
    obtain ⟨W8, hW8⟩ : ∃ W, (w7.alloc (.cells (shC sh0) 130)).setCells w7.heap.size 0 (shV y) = W := ⟨_, rfl⟩
    rw [hW8] at hst bQ bP8 bS8 hw8
    obtain ⟨q, hq⟩ : ∃ q, w7.heap.size = q := ⟨_, rfl⟩
    rw [hq] at hst bQ
    have hpq : p ≠ q := by omega
    have hsq : s ≠ q := by omega
    clear hres hcase hy hb7 bP6 bP7 bS7 hw7
    go_wp2_with fail
    have f1 : ∀ w', BoxAt w' q (shC y) → (shutLoad 130 ⟨q, 0, none⟩).run Tryz.prog w' = .ok (.agg (shC y)) w' := fun w' h => run_loadS h hyl
    have f2 : ∀ w', BoxAt w' q (shC y) → w'.cell? ⟨q, 4, none⟩ = some (.int .u16 (y.size : Int)) := fun w' h => (h.cell 4).trans (shC_4 y)
    have g1 : ∀ w', BoxAt w' s (setC a cb r) → w'.cell? ⟨s, 1, none⟩ = some (.pointer (some ⟨cb, 0, none⟩)) := fun w' h => h.cell 1
    have g2 : ∀ w', BoxAt w' s (setC a cb r) → w'.cell? ⟨s, 2, none⟩ = some (.int .u8 (r.kind : Int)) := fun w' h => h.cell 2
    have g3 : ∀ w', BoxAt w' s (setC a cb r) → w'.cell? ⟨s, 3, none⟩ = some (.int .i64 (r.place : Int)) := fun w' h => h.cell 3
    have g4 : ∀ w', BoxAt w' s (setC a cb r) → w'.cell? ⟨s, 4, none⟩ = some (.int .u64 (r.gen : Int)) := fun w' h => h.cell 4
    have bPd : BoxAt W8.drew p (shC sh0) := bP8.keep rfl
    have bQd : BoxAt W8.drew q (shC y) := bQ.keep rfl
    have bSd : BoxAt W8.drew s (setC a cb r) := bS8.keep rfl
    have hw8d : Below w.heap.size w W8.drew := hw8.drew
    have s8 : BoxAt W8.drew q (shC y) ∧ BoxAt W8.drew s (setC a cb r) := ⟨bQd, bSd⟩
    have hps : p ≠ s := by
      intro e
      rw [e] at bPd
      have h1 := bPd.cell 0
      have h2 := bSd.cell 0
      rw [h1, shC_0] at h2
      cases h2
    clear hst bP8 bQ bS8 hW8 hw8 lP lS hq
    rcases HCASE.out with ⟨hE, hnone⟩ | ⟨rfl, hsome⟩
    · have e0 : (E == 0) = false := by simpa using hE
      have HRD := Lib.hid (show rdS st k r i = none by rw [HRX.out, hnone])
      have hst := run_storeS (y := y) bPd sh0_ok.l hyl
      have hb2 := shC_set (y := y) bPd sh0_ok.l hyl
      have bQ2 := bQd.keep (setCells_other _ p 0 q (shV y) hpq.symm)
      have bS2 := bSd.keep (setCells_other _ p 0 s (shV y) hps.symm)
      obtain ⟨W9, hW9⟩ : ∃ W, W8.drew.setCells p 0 (shV y) = W := ⟨_, rfl⟩
      have hw9 := setS_below hw8d hpw (shV y)
      rw [hW9] at hst hb2 bQ2 bS2 hw9
      have s9 : BoxAt W9 q (shC y) ∧ BoxAt W9 s (setC a cb r) := ⟨bQ2, bS2⟩
      clear HCASE hE hnone hW9 bQ2 bS2 bPd bQd bSd hw8d
      refine wp_region_held_drew (S := fun w' => BoxAt w' q (shC y) ∧ BoxAt w' s (setC a cb r)) (by kernel_rfl) (by first | exact s8 | exact s9) (fun hHeld => ?_)
      refine wpAnyH_take (i := 0) (v := ?_) rfl (by kernel_rfl) (by kernel_rfl) (by kernel_rfl) (fun _ _ _ h => h) (Or.inl ⟨by first | kernel_rfl | rfl, ?_⟩) (by assumption) ?_
      rotate_left
      · (intro wq hSw; (try dsimp only at hSw); (try simp (maxSteps := 2000000) only [zz1, zz2, zz3]); go_simp); try with_reducible rfl
      try simp (maxSteps := 2000000) only [zz1, zz2, zz3, Act.put, zz4, zz5, zz6]
      refine wpAnyH_take (i := 1) (v := ?_) rfl (by kernel_rfl) (by kernel_rfl) (by kernel_rfl) (fun _ _ _ h => h) (Or.inl ⟨by first | kernel_rfl | rfl, ?_⟩) (by assumption) ?_
      rotate_left
      · (intro wq hSw; (try dsimp only at hSw); (try simp (maxSteps := 2000000) only [zz1, zz2, zz3]); go_simp); try with_reducible rfl
      try simp (maxSteps := 2000000) only [zz1, zz2, zz3, Act.put, zz4, zz5, zz6]
      refine wpAnyH_take (i := 2) (v := ?_) rfl (by kernel_rfl) (by kernel_rfl) (by kernel_rfl) (fun _ _ _ h => h) (Or.inl ⟨by first | kernel_rfl | rfl, ?_⟩) (by assumption) ?_
      rotate_left
      · (intro wq hSw; (try dsimp only at hSw); (try simp (maxSteps := 2000000) only [zz1, zz2, zz3]); go_simp); try with_reducible rfl
      try simp (maxSteps := 2000000) only [zz1, zz2, zz3, Act.put, zz4, zz5, zz6]
      refine wpAnyH_take (i := 3) (v := ?_) rfl (by kernel_rfl) (by kernel_rfl) (by kernel_rfl) (fun _ _ _ h => h) (Or.inl ⟨by first | kernel_rfl | rfl, ?_⟩) (by assumption) ?_
      rotate_left
      · (intro wq hSw; (try dsimp only at hSw); (try simp (maxSteps := 2000000) only [zz1, zz2, zz3]); go_simp); try with_reducible rfl
      try simp (maxSteps := 2000000) only [zz1, zz2, zz3, Act.put, zz4, zz5, zz6]
      refine wpAnyH_take (i := 4) (v := undef) rfl (by kernel_rfl) (by kernel_rfl) (by kernel_rfl) (fun _ _ _ h => h) (Or.inr ⟨by first | kernel_rfl | rfl, rfl⟩) (by assumption) ?_
      try simp (maxSteps := 2000000) only [zz1, zz2, zz3, Act.put, zz4, zz5, zz6]
      refine wpAnyH_take (i := 5) (v := undef) rfl (by kernel_rfl) (by kernel_rfl) (by kernel_rfl) (fun _ _ _ h => h) (Or.inr ⟨by first | kernel_rfl | rfl, rfl⟩) (by assumption) ?_
      try simp (maxSteps := 2000000) only [zz1, zz2, zz3, Act.put, zz4, zz5, zz6]
      refine wpAnyH_take (i := 6) (v := undef) rfl (by kernel_rfl) (by kernel_rfl) (by kernel_rfl) (fun _ _ _ h => h) (Or.inr ⟨by first | kernel_rfl | rfl, rfl⟩) (by assumption) ?_
      try simp (maxSteps := 2000000) only [zz1, zz2, zz3, Act.put, zz4, zz5, zz6]
      refine wpAnyH_take (i := 7) (v := undef) rfl (by kernel_rfl) (by kernel_rfl) (by kernel_rfl) (fun _ _ _ h => h) (Or.inr ⟨by first | kernel_rfl | rfl, rfl⟩) (by assumption) ?_
      try simp (maxSteps := 2000000) only [zz1, zz2, zz3, Act.put, zz4, zz5, zz6]
      refine wpAnyH_take (i := 8) (v := undef) rfl (by kernel_rfl) (by kernel_rfl) (by kernel_rfl) (fun _ _ _ h => h) (Or.inr ⟨by first | kernel_rfl | rfl, rfl⟩) (by assumption) ?_
      try simp (maxSteps := 2000000) only [zz1, zz2, zz3, Act.put, zz4, zz5, zz6]
      refine wpAnyH_take (i := 9) (v := undef) rfl (by kernel_rfl) (by kernel_rfl) (by kernel_rfl) (fun _ _ _ h => h) (Or.inr ⟨by first | kernel_rfl | rfl, rfl⟩) (by assumption) ?_
      try simp (maxSteps := 2000000) only [zz1, zz2, zz3, Act.put, zz4, zz5, zz6]
      refine wpAnyH_take (i := 10) (v := undef) rfl (by kernel_rfl) (by kernel_rfl) (by kernel_rfl) (fun _ _ _ h => h) (Or.inr ⟨by first | kernel_rfl | rfl, rfl⟩) (by assumption) ?_
      try simp (maxSteps := 2000000) only [zz1, zz2, zz3, Act.put, zz4, zz5, zz6]
      refine wpAnyH_take (i := 11) (v := ?_) rfl (by kernel_rfl) (by kernel_rfl) (by kernel_rfl) (fun _ _ _ h => h) (Or.inl ⟨by first | kernel_rfl | rfl, ?_⟩) (by assumption) ?_
      rotate_left
      · (intro wq hSw; (try dsimp only at hSw); (try simp (maxSteps := 2000000) only [zz1, zz2, zz3]); go_simp); try with_reducible rfl
      try simp (maxSteps := 2000000) only [zz1, zz2, zz3, Act.put, zz4, zz5, zz6]
      refine wpAnyH_take (i := 12) (v := ?_) rfl (by kernel_rfl) (by kernel_rfl) (by kernel_rfl) (fun _ _ _ h => h) (Or.inl ⟨by first | kernel_rfl | rfl, ?_⟩) (by assumption) ?_
      rotate_left
      · (intro wq hSw; (try dsimp only at hSw); (try simp (maxSteps := 2000000) only [zz1, zz2, zz3]); go_simp); try with_reducible rfl
      try simp (maxSteps := 2000000) only [zz1, zz2, zz3, Act.put, zz4, zz5, zz6]
      refine wpAnyH_take (i := 13) (v := undef) rfl (by kernel_rfl) (by kernel_rfl) (by kernel_rfl) (fun _ _ _ h => h) (Or.inr ⟨by first | kernel_rfl | rfl, rfl⟩) (by assumption) ?_
      try simp (maxSteps := 2000000) only [zz1, zz2, zz3, Act.put, zz4, zz5, zz6]
      refine wpAnyH_take (i := 14) (v := undef) rfl (by kernel_rfl) (by kernel_rfl) (by kernel_rfl) (fun _ _ _ h => h) (Or.inr ⟨by first | kernel_rfl | rfl, rfl⟩) (by assumption) ?_
      try simp (maxSteps := 2000000) only [zz1, zz2, zz3, Act.put, zz4, zz5, zz6]
      refine wpAnyH_take (i := 15) (v := undef) rfl (by kernel_rfl) (by kernel_rfl) (by kernel_rfl) (fun _ _ _ h => h) (Or.inr ⟨by first | kernel_rfl | rfl, rfl⟩) (by assumption) ?_
      try simp (maxSteps := 2000000) only [zz1, zz2, zz3, Act.put, zz4, zz5, zz6]
      refine wpAnyH_take (i := 16) (v := undef) rfl (by kernel_rfl) (by kernel_rfl) (by kernel_rfl) (fun _ _ _ h => h) (Or.inr ⟨by first | kernel_rfl | rfl, rfl⟩) (by assumption) ?_
      try simp (maxSteps := 2000000) only [zz1, zz2, zz3, Act.put, zz4, zz5, zz6]
      refine wpAnyH_take (i := 17) (v := undef) rfl (by kernel_rfl) (by kernel_rfl) (by kernel_rfl) (fun _ _ _ h => h) (Or.inr ⟨by first | kernel_rfl | rfl, rfl⟩) (by assumption) ?_
      try simp (maxSteps := 2000000) only [zz1, zz2, zz3, Act.put, zz4, zz5, zz6]
      refine wpAnyH_take (i := 18) (v := undef) rfl (by kernel_rfl) (by kernel_rfl) (by kernel_rfl) (fun _ _ _ h => h) (Or.inr ⟨by first | kernel_rfl | rfl, rfl⟩) (by assumption) ?_
      try simp (maxSteps := 2000000) only [zz1, zz2, zz3, Act.put, zz4, zz5, zz6]
      refine wpAnyH_take (i := 19) (v := undef) rfl (by kernel_rfl) (by kernel_rfl) (by kernel_rfl) (fun _ _ _ h => h) (Or.inr ⟨by first | kernel_rfl | rfl, rfl⟩) (by assumption) ?_
      try simp (maxSteps := 2000000) only [zz1, zz2, zz3, Act.put, zz4, zz5, zz6]
      refine wpAnyH_take (i := 20) (v := undef) rfl (by kernel_rfl) (by kernel_rfl) (by kernel_rfl) (fun _ _ _ h => h) (Or.inr ⟨by first | kernel_rfl | rfl, rfl⟩) (by assumption) ?_
      try simp (maxSteps := 2000000) only [zz1, zz2, zz3, Act.put, zz4, zz5, zz6]
      refine wpAnyH_take (i := 21) (v := undef) rfl (by kernel_rfl) (by kernel_rfl) (by kernel_rfl) (fun _ _ _ h => h) (Or.inr ⟨by first | kernel_rfl | rfl, rfl⟩) (by assumption) ?_
      try simp (maxSteps := 2000000) only [zz1, zz2, zz3, Act.put, zz4, zz5, zz6]
      refine wpAnyH_take (i := 22) (v := ?_) rfl (by kernel_rfl) (by kernel_rfl) (by kernel_rfl) (fun _ _ _ h => h) (Or.inl ⟨by first | kernel_rfl | rfl, ?_⟩) (by assumption) ?_
      rotate_left
      · (intro wq hSw; (try dsimp only at hSw); (try simp (maxSteps := 2000000) only [zz1, zz2, zz3]); go_simp); try with_reducible rfl
      try simp (maxSteps := 2000000) only [zz1, zz2, zz3, Act.put, zz4, zz5, zz6]
      refine wpAnyH_ready (rs := [23]) (by kernel_rfl) (by simp) ?_
      refine AllReadyH.cons rfl (fun K hK => ?_) AllReadyH.nil
      try simp (maxSteps := 2000000) only [zz1, zz2, zz3]
      go_simp
      refine hK.out _ _ (by first | exact s8 | exact s9) (fun hHeld => ?_)
      clear hK K
      try simp (maxSteps := 2000000) only [zz1, zz2, zz3, Act.put, zz4, zz5, zz6]
      refine wpAnyH_take (i := 24) (v := ?_) rfl (by kernel_rfl) (by kernel_rfl) (by kernel_rfl) (fun _ _ _ h => h) (Or.inl ⟨by first | kernel_rfl | rfl, ?_⟩) (by assumption) ?_
      rotate_left
      · (intro wq hSw; (try dsimp only at hSw); (try simp (maxSteps := 2000000) only [zz1, zz2, zz3]); go_simp); try with_reducible rfl
      try simp (maxSteps := 2000000) only [zz1, zz2, zz3, Act.put, zz4, zz5, zz6]
      refine wpAnyH_done (by kernel_rfl) ?_ _
      go_wp2_with fail
      have hld := run_loadS hb2 hyl
      refine bodyPost_ret (v := .tuple #[.agg (shC y), .bool false]) (results_cellS Tryz.results158 _ _ _ _ _ rfl rfl hld) rfl ?_
      exact ⟨hw9, y, false, rfl, HY.out, .inr ⟨rfl, HRD.out⟩⟩
    · have his := shis_any (w := W8.drew) (r := r) (i := i) HY.out
      unfold refC at his
      obtain ⟨B, hB⟩ : ∃ B, isB y r i = B := ⟨_, rfl⟩
      rw [hB] at his hsome
      clear HCASE
      cases B with
      | false =>
        have HRD := Lib.hid (show rdS st k r i = none by rw [HRX.out, hsome, if_neg (by simp)])
        have hsz : True := trivial
        clear hsome hB
        refine wp_region_held_drew (S := fun w' => BoxAt w' q (shC y) ∧ BoxAt w' s (setC a cb r)) (by kernel_rfl) (by first | exact s8 | exact s10 | exact s9) (fun hHeld => ?_)
        refine wpAnyH_take (i := 0) (v := ?_) rfl (by kernel_rfl) (by kernel_rfl) (by kernel_rfl) (fun _ _ _ h => h) (Or.inl ⟨by first | kernel_rfl | rfl, ?_⟩) (by assumption) ?_
        rotate_left
        · (intro wq hSw; (try dsimp only at hSw); (try simp (maxSteps := 2000000) only [zz1, zz2, zz3]); go_simp); try with_reducible rfl
        try simp (maxSteps := 2000000) only [zz1, zz2, zz3, Act.put, zz4, zz5, zz6]
        refine wpAnyH_take (i := 1) (v := ?_) rfl (by kernel_rfl) (by kernel_rfl) (by kernel_rfl) (fun _ _ _ h => h) (Or.inl ⟨by first | kernel_rfl | rfl, ?_⟩) (by assumption) ?_
        rotate_left
        · (intro wq hSw; (try dsimp only at hSw); (try simp (maxSteps := 2000000) only [zz1, zz2, zz3]); go_simp); try with_reducible rfl
        try simp (maxSteps := 2000000) only [zz1, zz2, zz3, Act.put, zz4, zz5, zz6]
        refine wpAnyH_take (i := 2) (v := ?_) rfl (by kernel_rfl) (by kernel_rfl) (by kernel_rfl) (fun _ _ _ h => h) (Or.inl ⟨by first | kernel_rfl | rfl, ?_⟩) (by assumption) ?_
        rotate_left
        · (intro wq hSw; (try dsimp only at hSw); (try simp (maxSteps := 2000000) only [zz1, zz2, zz3]); go_simp); try with_reducible rfl
        try simp (maxSteps := 2000000) only [zz1, zz2, zz3, Act.put, zz4, zz5, zz6]
        refine wpAnyH_take (i := 3) (v := ?_) rfl (by kernel_rfl) (by kernel_rfl) (by kernel_rfl) (fun _ _ _ h => h) (Or.inl ⟨by first | kernel_rfl | rfl, ?_⟩) (by assumption) ?_
        rotate_left
        · (intro wq hSw; (try dsimp only at hSw); (try simp (maxSteps := 2000000) only [zz1, zz2, zz3]); go_simp); try with_reducible rfl
        try simp (maxSteps := 2000000) only [zz1, zz2, zz3, Act.put, zz4, zz5, zz6]
        refine wpAnyH_take (i := 4) (v := ?_) rfl (by kernel_rfl) (by kernel_rfl) (by kernel_rfl) (fun _ _ _ h => h) (Or.inl ⟨by first | kernel_rfl | rfl, ?_⟩) (by assumption) ?_
        rotate_left
        · (intro wq hSw; (try dsimp only at hSw); (try simp (maxSteps := 2000000) only [zz1, zz2, zz3]); go_simp); try with_reducible rfl
        try simp (maxSteps := 2000000) only [zz1, zz2, zz3, Act.put, zz4, zz5, zz6]
        refine wpAnyH_take (i := 5) (v := ?_) rfl (by kernel_rfl) (by kernel_rfl) (by kernel_rfl) (fun _ _ _ h => h) (Or.inl ⟨by first | kernel_rfl | rfl, ?_⟩) (by assumption) ?_
        rotate_left
        · (intro wq hSw; (try dsimp only at hSw); (try simp (maxSteps := 2000000) only [zz1, zz2, zz3]); go_simp); try with_reducible rfl
        try simp (maxSteps := 2000000) only [zz1, zz2, zz3, Act.put, zz4, zz5, zz6]
        refine wpAnyH_take (i := 6) (v := ?_) rfl (by kernel_rfl) (by kernel_rfl) (by kernel_rfl) (fun _ _ _ h => h) (Or.inl ⟨by first | kernel_rfl | rfl, ?_⟩) (by assumption) ?_
        rotate_left
        · (intro wq hSw; (try dsimp only at hSw); (try simp (maxSteps := 2000000) only [zz1, zz2, zz3]); go_simp); try with_reducible rfl
        try simp (maxSteps := 2000000) only [zz1, zz2, zz3, Act.put, zz4, zz5, zz6]
        refine wpAnyH_take (i := 7) (v := ?_) rfl (by kernel_rfl) (by kernel_rfl) (by kernel_rfl) (fun _ _ _ h => h) (Or.inl ⟨by first | kernel_rfl | rfl, ?_⟩) (by assumption) ?_
        rotate_left
        · (intro wq hSw; (try dsimp only at hSw); (try simp (maxSteps := 2000000) only [zz1, zz2, zz3]); go_simp); try with_reducible rfl
        try simp (maxSteps := 2000000) only [zz1, zz2, zz3, Act.put, zz4, zz5, zz6]
        refine wpAnyH_take (i := 8) (v := ?_) rfl (by kernel_rfl) (by kernel_rfl) (by kernel_rfl) (fun _ _ _ h => h) (Or.inl ⟨by first | kernel_rfl | rfl, ?_⟩) (by assumption) ?_
        rotate_left
        · (intro wq hSw; (try dsimp only at hSw); (try simp (maxSteps := 2000000) only [zz1, zz2, zz3]); go_simp); try with_reducible rfl
        try simp (maxSteps := 2000000) only [zz1, zz2, zz3, Act.put, zz4, zz5, zz6]
        refine wpAnyH_take (i := 9) (v := ?_) rfl (by kernel_rfl) (by kernel_rfl) (by kernel_rfl) (fun _ _ _ h => h) (Or.inl ⟨by first | kernel_rfl | rfl, ?_⟩) (by assumption) ?_
        rotate_left
        · (intro wq hSw; (try dsimp only at hSw); (try simp (maxSteps := 2000000) only [zz1, zz2, zz3]); go_simp); try with_reducible rfl
        try simp (maxSteps := 2000000) only [zz1, zz2, zz3, Act.put, zz4, zz5, zz6]
        refine wpAnyH_ready (rs := [10]) (by kernel_rfl) (by simp) ?_
        refine AllReadyH.cons rfl (fun K hK => ?_) AllReadyH.nil
        try simp (maxSteps := 2000000) only [zz1, zz2, zz3]
        go_simp
        go_at_call 207
        refine his.mono ?_
        clear his
        rintro e w9 ⟨rfl, hb9⟩
        have bP9 := bPd.below hb9
        have bQ9 := bQd.below hb9
        have bS9 := bSd.below hb9
        have hw9 := hw8d.trans (hb9.mono hw8d.size)
        have s9 : BoxAt w9 q (shC y) ∧ BoxAt w9 s (setC a cb r) := ⟨bQ9, bS9⟩
        have hst := run_storeS (y := y) bP9 sh0_ok.l hyl
        have hb2 := shC_set (y := y) bP9 sh0_ok.l hyl
        have bQ2 := bQ9.keep (setCells_other _ p 0 q (shV y) hpq.symm)
        have bS2 := bS9.keep (setCells_other _ p 0 s (shV y) hps.symm)
        have hw10 := setS_below hw9 hpw (shV y)
        obtain ⟨W10, hW10⟩ : ∃ W, w9.setCells p 0 (shV y) = W := ⟨_, rfl⟩
        rw [hW10] at hst hb2 bQ2 bS2 hw10
        have s10 : BoxAt W10 q (shC y) ∧ BoxAt W10 s (setC a cb r) := ⟨bQ2, bS2⟩
        try (go_wp2_with fail)
        refine hK.out _ _ (by first | exact s8 | exact s10 | exact s9) (fun hHeld => ?_)
        clear hK K
        try simp (maxSteps := 2000000) only [zz1, zz2, zz3, Act.put, zz4, zz5, zz6]
        refine wpAnyH_take (i := 11) (v := ?_) rfl (by kernel_rfl) (by kernel_rfl) (by kernel_rfl) (fun _ _ _ h => h) (Or.inl ⟨by first | kernel_rfl | rfl, ?_⟩) (by assumption) ?_
        rotate_left
        · (intro wq hSw; (try dsimp only at hSw); (try simp (maxSteps := 2000000) only [zz1, zz2, zz3]); go_simp); try with_reducible rfl
        try simp (maxSteps := 2000000) only [zz1, zz2, zz3, Act.put, zz4, zz5, zz6]
        refine wpAnyH_take (i := 12) (v := ?_) rfl (by kernel_rfl) (by kernel_rfl) (by kernel_rfl) (fun _ _ _ h => h) (Or.inl ⟨by first | kernel_rfl | rfl, ?_⟩) (by assumption) ?_
        rotate_left
        · (intro wq hSw; (try dsimp only at hSw); (try simp (maxSteps := 2000000) only [zz1, zz2, zz3]); go_simp); try with_reducible rfl
        try simp (maxSteps := 2000000) only [zz1, zz2, zz3, Act.put, zz4, zz5, zz6]
        refine wpAnyH_take (i := 13) (v := undef) rfl (by kernel_rfl) (by kernel_rfl) (by kernel_rfl) (fun _ _ _ h => h) (Or.inr ⟨by first | kernel_rfl | rfl, rfl⟩) (by assumption) ?_
        try simp (maxSteps := 2000000) only [zz1, zz2, zz3, Act.put, zz4, zz5, zz6]
        refine wpAnyH_take (i := 14) (v := undef) rfl (by kernel_rfl) (by kernel_rfl) (by kernel_rfl) (fun _ _ _ h => h) (Or.inr ⟨by first | kernel_rfl | rfl, rfl⟩) (by assumption) ?_
        try simp (maxSteps := 2000000) only [zz1, zz2, zz3, Act.put, zz4, zz5, zz6]
        refine wpAnyH_take (i := 15) (v := undef) rfl (by kernel_rfl) (by kernel_rfl) (by kernel_rfl) (fun _ _ _ h => h) (Or.inr ⟨by first | kernel_rfl | rfl, rfl⟩) (by assumption) ?_
        try simp (maxSteps := 2000000) only [zz1, zz2, zz3, Act.put, zz4, zz5, zz6]
        refine wpAnyH_take (i := 16) (v := undef) rfl (by kernel_rfl) (by kernel_rfl) (by kernel_rfl) (fun _ _ _ h => h) (Or.inr ⟨by first | kernel_rfl | rfl, rfl⟩) (by assumption) ?_
        try simp (maxSteps := 2000000) only [zz1, zz2, zz3, Act.put, zz4, zz5, zz6]
        refine wpAnyH_take (i := 17) (v := undef) rfl (by kernel_rfl) (by kernel_rfl) (by kernel_rfl) (fun _ _ _ h => h) (Or.inr ⟨by first | kernel_rfl | rfl, rfl⟩) (by assumption) ?_
        try simp (maxSteps := 2000000) only [zz1, zz2, zz3, Act.put, zz4, zz5, zz6]
        refine wpAnyH_take (i := 18) (v := undef) rfl (by kernel_rfl) (by kernel_rfl) (by kernel_rfl) (fun _ _ _ h => h) (Or.inr ⟨by first | kernel_rfl | rfl, rfl⟩) (by assumption) ?_
        try simp (maxSteps := 2000000) only [zz1, zz2, zz3, Act.put, zz4, zz5, zz6]
        refine wpAnyH_take (i := 19) (v := undef) rfl (by kernel_rfl) (by kernel_rfl) (by kernel_rfl) (fun _ _ _ h => h) (Or.inr ⟨by first | kernel_rfl | rfl, rfl⟩) (by assumption) ?_
        try simp (maxSteps := 2000000) only [zz1, zz2, zz3, Act.put, zz4, zz5, zz6]
        refine wpAnyH_take (i := 20) (v := undef) rfl (by kernel_rfl) (by kernel_rfl) (by kernel_rfl) (fun _ _ _ h => h) (Or.inr ⟨by first | kernel_rfl | rfl, rfl⟩) (by assumption) ?_
        try simp (maxSteps := 2000000) only [zz1, zz2, zz3, Act.put, zz4, zz5, zz6]
        refine wpAnyH_take (i := 21) (v := undef) rfl (by kernel_rfl) (by kernel_rfl) (by kernel_rfl) (fun _ _ _ h => h) (Or.inr ⟨by first | kernel_rfl | rfl, rfl⟩) (by assumption) ?_
        try simp (maxSteps := 2000000) only [zz1, zz2, zz3, Act.put, zz4, zz5, zz6]
        refine wpAnyH_take (i := 22) (v := ?_) rfl (by kernel_rfl) (by kernel_rfl) (by kernel_rfl) (fun _ _ _ h => h) (Or.inl ⟨by first | kernel_rfl | rfl, ?_⟩) (by assumption) ?_
        rotate_left
        · (intro wq hSw; (try dsimp only at hSw); (try simp (maxSteps := 2000000) only [zz1, zz2, zz3]); go_simp); try with_reducible rfl
        try simp (maxSteps := 2000000) only [zz1, zz2, zz3, Act.put, zz4, zz5, zz6]
        refine wpAnyH_ready (rs := [23]) (by kernel_rfl) (by simp) ?_
        refine AllReadyH.cons rfl (fun K hK => ?_) AllReadyH.nil
        try simp (maxSteps := 2000000) only [zz1, zz2, zz3]
        go_simp
        refine hK.out _ _ (by first | exact s8 | exact s10 | exact s9) (fun hHeld => ?_)
        clear hK K
        try simp (maxSteps := 2000000) only [zz1, zz2, zz3, Act.put, zz4, zz5, zz6]
        refine wpAnyH_take (i := 24) (v := ?_) rfl (by kernel_rfl) (by kernel_rfl) (by kernel_rfl) (fun _ _ _ h => h) (Or.inl ⟨by first | kernel_rfl | rfl, ?_⟩) (by assumption) ?_
        rotate_left
        · (intro wq hSw; (try dsimp only at hSw); (try simp (maxSteps := 2000000) only [zz1, zz2, zz3]); go_simp); try with_reducible rfl
        try simp (maxSteps := 2000000) only [zz1, zz2, zz3, Act.put, zz4, zz5, zz6]
        refine wpAnyH_done (by kernel_rfl) ?_ _
        go_wp2_with fail
        have hld := run_loadS hb2 hyl
        refine bodyPost_ret (v := .tuple #[.agg (shC y), .bool false]) (results_cellS Tryz.results158 _ _ _ _ _ rfl (by first | rfl | (simp [hsz]; done) | (simp; omega)) hld) rfl ?_
        exact ⟨hw10, y, false, rfl, HY.out, .inr ⟨rfl, HRD.out⟩⟩
      | true =>
        have hyp := HY.out.s
        have z0 : (0 : Int) ≤ (y.size : Int) := Int.natCast_nonneg _
        have z1 : (y.size : Int) < 65536 := by omega
        have pw : IntKind.i64.wrap (y.size : Int) = (y.size : Int) := by rw [IntKind.wrap_i64]; omega
        have hro := fun w' (h : Below w.heap.size w w') => room_any (HCH.out.below h)
        by_cases hsz0 : y.size ≤ k * 44
        · have HRD := Lib.hid (show rdS st k r i = some y by rw [HRX.out, hsome, if_pos ⟨rfl, hsz0⟩])
          have hsz : (y.size : Int) ≤ ((k * 44 : Nat) : Int) := by omega
          clear hsome hB hsz0
          obtain ⟨rm, hrm⟩ : ∃ rm, k * 44 = rm := ⟨_, rfl⟩
          rw [hrm] at hsz
          simp only [hrm] at hro
          clear hrm
          refine wp_region_held_drew (S := fun w' => BoxAt w' q (shC y) ∧ BoxAt w' s (setC a cb r)) (by kernel_rfl) (by first | exact s8 | exact s10 | exact s9) (fun hHeld => ?_)
          refine wpAnyH_take (i := 0) (v := ?_) rfl (by kernel_rfl) (by kernel_rfl) (by kernel_rfl) (fun _ _ _ h => h) (Or.inl ⟨by first | kernel_rfl | rfl, ?_⟩) (by assumption) ?_
          rotate_left
          · (intro wq hSw; (try dsimp only at hSw); (try simp (maxSteps := 2000000) only [zz1, zz2, zz3]); go_simp); try with_reducible rfl
          try simp (maxSteps := 2000000) only [zz1, zz2, zz3, Act.put, zz4, zz5, zz6]
          refine wpAnyH_take (i := 1) (v := ?_) rfl (by kernel_rfl) (by kernel_rfl) (by kernel_rfl) (fun _ _ _ h => h) (Or.inl ⟨by first | kernel_rfl | rfl, ?_⟩) (by assumption) ?_
          rotate_left
          · (intro wq hSw; (try dsimp only at hSw); (try simp (maxSteps := 2000000) only [zz1, zz2, zz3]); go_simp); try with_reducible rfl
          try simp (maxSteps := 2000000) only [zz1, zz2, zz3, Act.put, zz4, zz5, zz6]
          refine wpAnyH_take (i := 2) (v := ?_) rfl (by kernel_rfl) (by kernel_rfl) (by kernel_rfl) (fun _ _ _ h => h) (Or.inl ⟨by first | kernel_rfl | rfl, ?_⟩) (by assumption) ?_
          rotate_left
          · (intro wq hSw; (try dsimp only at hSw); (try simp (maxSteps := 2000000) only [zz1, zz2, zz3]); go_simp); try with_reducible rfl
          try simp (maxSteps := 2000000) only [zz1, zz2, zz3, Act.put, zz4, zz5, zz6]
          refine wpAnyH_take (i := 3) (v := ?_) rfl (by kernel_rfl) (by kernel_rfl) (by kernel_rfl) (fun _ _ _ h => h) (Or.inl ⟨by first | kernel_rfl | rfl, ?_⟩) (by assumption) ?_
          rotate_left
          · (intro wq hSw; (try dsimp only at hSw); (try simp (maxSteps := 2000000) only [zz1, zz2, zz3]); go_simp); try with_reducible rfl
          try simp (maxSteps := 2000000) only [zz1, zz2, zz3, Act.put, zz4, zz5, zz6]
          refine wpAnyH_take (i := 4) (v := ?_) rfl (by kernel_rfl) (by kernel_rfl) (by kernel_rfl) (fun _ _ _ h => h) (Or.inl ⟨by first | kernel_rfl | rfl, ?_⟩) (by assumption) ?_
          rotate_left
          · (intro wq hSw; (try dsimp only at hSw); (try simp (maxSteps := 2000000) only [zz1, zz2, zz3]); go_simp); try with_reducible rfl
          try simp (maxSteps := 2000000) only [zz1, zz2, zz3, Act.put, zz4, zz5, zz6]
          refine wpAnyH_take (i := 5) (v := ?_) rfl (by kernel_rfl) (by kernel_rfl) (by kernel_rfl) (fun _ _ _ h => h) (Or.inl ⟨by first | kernel_rfl | rfl, ?_⟩) (by assumption) ?_
          rotate_left
          · (intro wq hSw; (try dsimp only at hSw); (try simp (maxSteps := 2000000) only [zz1, zz2, zz3]); go_simp); try with_reducible rfl
          try simp (maxSteps := 2000000) only [zz1, zz2, zz3, Act.put, zz4, zz5, zz6]
          refine wpAnyH_take (i := 6) (v := ?_) rfl (by kernel_rfl) (by kernel_rfl) (by kernel_rfl) (fun _ _ _ h => h) (Or.inl ⟨by first | kernel_rfl | rfl, ?_⟩) (by assumption) ?_
          rotate_left
          · (intro wq hSw; (try dsimp only at hSw); (try simp (maxSteps := 2000000) only [zz1, zz2, zz3]); go_simp); try with_reducible rfl
          try simp (maxSteps := 2000000) only [zz1, zz2, zz3, Act.put, zz4, zz5, zz6]
          refine wpAnyH_take (i := 7) (v := ?_) rfl (by kernel_rfl) (by kernel_rfl) (by kernel_rfl) (fun _ _ _ h => h) (Or.inl ⟨by first | kernel_rfl | rfl, ?_⟩) (by assumption) ?_
          rotate_left
          · (intro wq hSw; (try dsimp only at hSw); (try simp (maxSteps := 2000000) only [zz1, zz2, zz3]); go_simp); try with_reducible rfl
          try simp (maxSteps := 2000000) only [zz1, zz2, zz3, Act.put, zz4, zz5, zz6]
          refine wpAnyH_take (i := 8) (v := ?_) rfl (by kernel_rfl) (by kernel_rfl) (by kernel_rfl) (fun _ _ _ h => h) (Or.inl ⟨by first | kernel_rfl | rfl, ?_⟩) (by assumption) ?_
          rotate_left
          · (intro wq hSw; (try dsimp only at hSw); (try simp (maxSteps := 2000000) only [zz1, zz2, zz3]); go_simp); try with_reducible rfl
          try simp (maxSteps := 2000000) only [zz1, zz2, zz3, Act.put, zz4, zz5, zz6]
          refine wpAnyH_take (i := 9) (v := ?_) rfl (by kernel_rfl) (by kernel_rfl) (by kernel_rfl) (fun _ _ _ h => h) (Or.inl ⟨by first | kernel_rfl | rfl, ?_⟩) (by assumption) ?_
          rotate_left
          · (intro wq hSw; (try dsimp only at hSw); (try simp (maxSteps := 2000000) only [zz1, zz2, zz3]); go_simp); try with_reducible rfl
          try simp (maxSteps := 2000000) only [zz1, zz2, zz3, Act.put, zz4, zz5, zz6]
          refine wpAnyH_ready (rs := [10]) (by kernel_rfl) (by simp) ?_
          refine AllReadyH.cons rfl (fun K hK => ?_) AllReadyH.nil
          try simp (maxSteps := 2000000) only [zz1, zz2, zz3]
          go_simp
          go_at_call 207
          refine his.mono ?_
          clear his
          rintro e w9 ⟨rfl, hb9⟩
          have bP9 := bPd.below hb9
          have bQ9 := bQd.below hb9
          have bS9 := bSd.below hb9
          have hw9 := hw8d.trans (hb9.mono hw8d.size)
          have s9 : BoxAt w9 q (shC y) ∧ BoxAt w9 s (setC a cb r) := ⟨bQ9, bS9⟩
          try (go_wp2_with fail)
          refine hK.out _ _ (by first | exact s8 | exact s10 | exact s9) (fun hHeld => ?_)
          clear hK K
          try simp (maxSteps := 2000000) only [zz1, zz2, zz3, Act.put, zz4, zz5, zz6]
          refine wpAnyH_take (i := 11) (v := ?_) rfl (by kernel_rfl) (by kernel_rfl) (by kernel_rfl) (fun _ _ _ h => h) (Or.inl ⟨by first | kernel_rfl | rfl, ?_⟩) (by assumption) ?_
          rotate_left
          · (intro wq hSw; (try dsimp only at hSw); (try simp (maxSteps := 2000000) only [zz1, zz2, zz3]); go_simp); try with_reducible rfl
          try simp (maxSteps := 2000000) only [zz1, zz2, zz3, Act.put, zz4, zz5, zz6]
          refine wpAnyH_take (i := 12) (v := ?_) rfl (by kernel_rfl) (by kernel_rfl) (by kernel_rfl) (fun _ _ _ h => h) (Or.inl ⟨by first | kernel_rfl | rfl, ?_⟩) (by assumption) ?_
          rotate_left
          · (intro wq hSw; (try dsimp only at hSw); (try simp (maxSteps := 2000000) only [zz1, zz2, zz3]); go_simp); try with_reducible rfl
          try simp (maxSteps := 2000000) only [zz1, zz2, zz3, Act.put, zz4, zz5, zz6]
          refine wpAnyH_take (i := 13) (v := ?_) rfl (by kernel_rfl) (by kernel_rfl) (by kernel_rfl) (fun _ _ _ h => h) (Or.inl ⟨by first | kernel_rfl | rfl, ?_⟩) (by assumption) ?_
          rotate_left
          · (intro wq hSw; (try dsimp only at hSw); (try simp (maxSteps := 2000000) only [zz1, zz2, zz3]); go_simp); try with_reducible rfl
          try simp (maxSteps := 2000000) only [zz1, zz2, zz3, Act.put, zz4, zz5, zz6]
          refine wpAnyH_take (i := 14) (v := ?_) rfl (by kernel_rfl) (by kernel_rfl) (by kernel_rfl) (fun _ _ _ h => h) (Or.inl ⟨by first | kernel_rfl | rfl, ?_⟩) (by assumption) ?_
          rotate_left
          · (intro wq hSw; (try dsimp only at hSw); (try simp (maxSteps := 2000000) only [zz1, zz2, zz3]); go_simp); try with_reducible rfl
          try simp (maxSteps := 2000000) only [zz1, zz2, zz3, Act.put, zz4, zz5, zz6]
          refine wpAnyH_take (i := 15) (v := ?_) rfl (by kernel_rfl) (by kernel_rfl) (by kernel_rfl) (fun _ _ _ h => h) (Or.inl ⟨by first | kernel_rfl | rfl, ?_⟩) (by assumption) ?_
          rotate_left
          · (intro wq hSw; (try dsimp only at hSw); (try simp (maxSteps := 2000000) only [zz1, zz2, zz3]); go_simp); try with_reducible rfl
          try simp (maxSteps := 2000000) only [zz1, zz2, zz3, Act.put, zz4, zz5, zz6]
          refine wpAnyH_take (i := 16) (v := ?_) rfl (by kernel_rfl) (by kernel_rfl) (by kernel_rfl) (fun _ _ _ h => h) (Or.inl ⟨by first | kernel_rfl | rfl, ?_⟩) (by assumption) ?_
          rotate_left
          · (intro wq hSw; (try dsimp only at hSw); (try simp (maxSteps := 2000000) only [zz1, zz2, zz3]); go_simp); try with_reducible rfl
          try simp (maxSteps := 2000000) only [zz1, zz2, zz3, Act.put, zz4, zz5, zz6]
          refine wpAnyH_take (i := 17) (v := ?_) rfl (by kernel_rfl) (by kernel_rfl) (by kernel_rfl) (fun _ _ _ h => h) (Or.inl ⟨by first | kernel_rfl | rfl, ?_⟩) (by assumption) ?_
          rotate_left
          · (intro wq hSw; (try dsimp only at hSw); (try simp (maxSteps := 2000000) only [zz1, zz2, zz3]); go_simp); try with_reducible rfl
          try simp (maxSteps := 2000000) only [zz1, zz2, zz3, Act.put, zz4, zz5, zz6]
          refine wpAnyH_take (i := 18) (v := ?_) rfl (by kernel_rfl) (by kernel_rfl) (by kernel_rfl) (fun _ _ _ h => h) (Or.inl ⟨by first | kernel_rfl | rfl, ?_⟩) (by assumption) ?_
          rotate_left
          · (intro wq hSw; (try dsimp only at hSw); (try simp (maxSteps := 2000000) only [zz1, zz2, zz3]); go_simp); try with_reducible rfl
          try simp (maxSteps := 2000000) only [zz1, zz2, zz3, Act.put, zz4, zz5, zz6]
          refine wpAnyH_take (i := 19) (v := ?_) rfl (by kernel_rfl) (by kernel_rfl) (by kernel_rfl) (fun _ _ _ h => h) (Or.inl ⟨by first | kernel_rfl | rfl, ?_⟩) (by assumption) ?_
          rotate_left
          · (intro wq hSw; (try dsimp only at hSw); (try simp (maxSteps := 2000000) only [zz1, zz2, zz3]); go_simp); try with_reducible rfl
          try simp (maxSteps := 2000000) only [zz1, zz2, zz3, Act.put, zz4, zz5, zz6]
          refine wpAnyH_ready (rs := [20]) (by kernel_rfl) (by simp) ?_
          refine AllReadyH.cons rfl (fun K hK => ?_) AllReadyH.nil
          try simp (maxSteps := 2000000) only [zz1, zz2, zz3]
          go_simp
          go_at_call 105
          refine (hro _ hw9).mono ?_
          clear hro
          rintro e w11 ⟨rfl, hw11⟩
          rw [hw11]
          clear hw11
          have hst := run_storeS (y := y) bP9 sh0_ok.l hyl
          have hb2 := shC_set (y := y) bP9 sh0_ok.l hyl
          have bQ2 := bQ9.keep (setCells_other _ p 0 q (shV y) hpq.symm)
          have bS2 := bS9.keep (setCells_other _ p 0 s (shV y) hps.symm)
          have hw10 := setS_below hw9 hpw (shV y)
          obtain ⟨W10, hW10⟩ : ∃ W, w9.setCells p 0 (shV y) = W := ⟨_, rfl⟩
          rw [hW10] at hst hb2 bQ2 bS2 hw10
          have s10 : BoxAt W10 q (shC y) ∧ BoxAt W10 s (setC a cb r) := ⟨bQ2, bS2⟩
          try (go_wp2_with fail)
          refine hK.out _ _ (by first | exact s8 | exact s10 | exact s9) (fun hHeld => ?_)
          clear hK K
          try simp (maxSteps := 2000000) only [zz1, zz2, zz3, Act.put, zz4, zz5, zz6]
          refine wpAnyH_take (i := 21) (v := ?_) rfl (by kernel_rfl) (by kernel_rfl) (by kernel_rfl) (fun _ _ _ h => h) (Or.inl ⟨by first | kernel_rfl | rfl, ?_⟩) (by assumption) ?_
          rotate_left
          · (intro wq hSw; (try dsimp only at hSw); (try simp (maxSteps := 2000000) only [zz1, zz2, zz3]); go_simp); try with_reducible rfl
          try simp (maxSteps := 2000000) only [zz1, zz2, zz3, Act.put, zz4, zz5, zz6]
          refine wpAnyH_take (i := 22) (v := ?_) rfl (by kernel_rfl) (by kernel_rfl) (by kernel_rfl) (fun _ _ _ h => h) (Or.inl ⟨by first | kernel_rfl | rfl, ?_⟩) (by assumption) ?_
          rotate_left
          · (intro wq hSw; (try dsimp only at hSw); (try simp (maxSteps := 2000000) only [zz1, zz2, zz3]); go_simp); try with_reducible rfl
          try simp (maxSteps := 2000000) only [zz1, zz2, zz3, Act.put, zz4, zz5, zz6]
          refine wpAnyH_ready (rs := [23]) (by kernel_rfl) (by simp) ?_
          refine AllReadyH.cons rfl (fun K hK => ?_) AllReadyH.nil
          try simp (maxSteps := 2000000) only [zz1, zz2, zz3]
          go_simp
          refine hK.out _ _ (by first | exact s8 | exact s10 | exact s9) (fun hHeld => ?_)
          clear hK K
          try simp (maxSteps := 2000000) only [zz1, zz2, zz3, Act.put, zz4, zz5, zz6]
          refine wpAnyH_take (i := 24) (v := ?_) rfl (by kernel_rfl) (by kernel_rfl) (by kernel_rfl) (fun _ _ _ h => h) (Or.inl ⟨by first | kernel_rfl | rfl, ?_⟩) (by assumption) ?_
          rotate_left
          · (intro wq hSw; (try dsimp only at hSw); (try simp (maxSteps := 2000000) only [zz1, zz2, zz3]); go_simp); try with_reducible rfl
          try simp (maxSteps := 2000000) only [zz1, zz2, zz3, Act.put, zz4, zz5, zz6]
          refine wpAnyH_done (by kernel_rfl) ?_ _
          go_wp2_with fail
          have hld := run_loadS hb2 hyl
          refine bodyPost_ret (v := .tuple #[.agg (shC y), .bool true]) (results_cellS Tryz.results158 _ _ _ _ _ rfl (by first | rfl | (simp [hsz]; done) | (simp; omega)) hld) rfl ?_
          exact ⟨hw10, y, true, rfl, HY.out, .inl ⟨rfl, HRD.out⟩⟩
        · have HRD := Lib.hid (show rdS st k r i = none by rw [HRX.out, hsome, if_neg (fun h => hsz0 h.2)])
          have hsz : ¬ (y.size : Int) ≤ ((k * 44 : Nat) : Int) := by omega
          clear hsome hB hsz0
          obtain ⟨rm, hrm⟩ : ∃ rm, k * 44 = rm := ⟨_, rfl⟩
          rw [hrm] at hsz
          simp only [hrm] at hro
          clear hrm
          refine wp_region_held_drew (S := fun w' => BoxAt w' q (shC y) ∧ BoxAt w' s (setC a cb r)) (by kernel_rfl) (by first | exact s8 | exact s10 | exact s9) (fun hHeld => ?_)
          refine wpAnyH_take (i := 0) (v := ?_) rfl (by kernel_rfl) (by kernel_rfl) (by kernel_rfl) (fun _ _ _ h => h) (Or.inl ⟨by first | kernel_rfl | rfl, ?_⟩) (by assumption) ?_
          rotate_left
          · (intro wq hSw; (try dsimp only at hSw); (try simp (maxSteps := 2000000) only [zz1, zz2, zz3]); go_simp); try with_reducible rfl
          try simp (maxSteps := 2000000) only [zz1, zz2, zz3, Act.put, zz4, zz5, zz6]
          refine wpAnyH_take (i := 1) (v := ?_) rfl (by kernel_rfl) (by kernel_rfl) (by kernel_rfl) (fun _ _ _ h => h) (Or.inl ⟨by first | kernel_rfl | rfl, ?_⟩) (by assumption) ?_
          rotate_left
          · (intro wq hSw; (try dsimp only at hSw); (try simp (maxSteps := 2000000) only [zz1, zz2, zz3]); go_simp); try with_reducible rfl
          try simp (maxSteps := 2000000) only [zz1, zz2, zz3, Act.put, zz4, zz5, zz6]
          refine wpAnyH_take (i := 2) (v := ?_) rfl (by kernel_rfl) (by kernel_rfl) (by kernel_rfl) (fun _ _ _ h => h) (Or.inl ⟨by first | kernel_rfl | rfl, ?_⟩) (by assumption) ?_
          rotate_left
          · (intro wq hSw; (try dsimp only at hSw); (try simp (maxSteps := 2000000) only [zz1, zz2, zz3]); go_simp); try with_reducible rfl
          try simp (maxSteps := 2000000) only [zz1, zz2, zz3, Act.put, zz4, zz5, zz6]
          refine wpAnyH_take (i := 3) (v := ?_) rfl (by kernel_rfl) (by kernel_rfl) (by kernel_rfl) (fun _ _ _ h => h) (Or.inl ⟨by first | kernel_rfl | rfl, ?_⟩) (by assumption) ?_
          rotate_left
          · (intro wq hSw; (try dsimp only at hSw); (try simp (maxSteps := 2000000) only [zz1, zz2, zz3]); go_simp); try with_reducible rfl
          try simp (maxSteps := 2000000) only [zz1, zz2, zz3, Act.put, zz4, zz5, zz6]
          refine wpAnyH_take (i := 4) (v := ?_) rfl (by kernel_rfl) (by kernel_rfl) (by kernel_rfl) (fun _ _ _ h => h) (Or.inl ⟨by first | kernel_rfl | rfl, ?_⟩) (by assumption) ?_
          rotate_left
          · (intro wq hSw; (try dsimp only at hSw); (try simp (maxSteps := 2000000) only [zz1, zz2, zz3]); go_simp); try with_reducible rfl
          try simp (maxSteps := 2000000) only [zz1, zz2, zz3, Act.put, zz4, zz5, zz6]
          refine wpAnyH_take (i := 5) (v := ?_) rfl (by kernel_rfl) (by kernel_rfl) (by kernel_rfl) (fun _ _ _ h => h) (Or.inl ⟨by first | kernel_rfl | rfl, ?_⟩) (by assumption) ?_
          rotate_left
          · (intro wq hSw; (try dsimp only at hSw); (try simp (maxSteps := 2000000) only [zz1, zz2, zz3]); go_simp); try with_reducible rfl
          try simp (maxSteps := 2000000) only [zz1, zz2, zz3, Act.put, zz4, zz5, zz6]
          refine wpAnyH_take (i := 6) (v := ?_) rfl (by kernel_rfl) (by kernel_rfl) (by kernel_rfl) (fun _ _ _ h => h) (Or.inl ⟨by first | kernel_rfl | rfl, ?_⟩) (by assumption) ?_
          rotate_left
          · (intro wq hSw; (try dsimp only at hSw); (try simp (maxSteps := 2000000) only [zz1, zz2, zz3]); go_simp); try with_reducible rfl
          try simp (maxSteps := 2000000) only [zz1, zz2, zz3, Act.put, zz4, zz5, zz6]
          refine wpAnyH_take (i := 7) (v := ?_) rfl (by kernel_rfl) (by kernel_rfl) (by kernel_rfl) (fun _ _ _ h => h) (Or.inl ⟨by first | kernel_rfl | rfl, ?_⟩) (by assumption) ?_
          rotate_left
          · (intro wq hSw; (try dsimp only at hSw); (try simp (maxSteps := 2000000) only [zz1, zz2, zz3]); go_simp); try with_reducible rfl
          try simp (maxSteps := 2000000) only [zz1, zz2, zz3, Act.put, zz4, zz5, zz6]
          refine wpAnyH_take (i := 8) (v := ?_) rfl (by kernel_rfl) (by kernel_rfl) (by kernel_rfl) (fun _ _ _ h => h) (Or.inl ⟨by first | kernel_rfl | rfl, ?_⟩) (by assumption) ?_
          rotate_left
          · (intro wq hSw; (try dsimp only at hSw); (try simp (maxSteps := 2000000) only [zz1, zz2, zz3]); go_simp); try with_reducible rfl
          try simp (maxSteps := 2000000) only [zz1, zz2, zz3, Act.put, zz4, zz5, zz6]
          refine wpAnyH_take (i := 9) (v := ?_) rfl (by kernel_rfl) (by kernel_rfl) (by kernel_rfl) (fun _ _ _ h => h) (Or.inl ⟨by first | kernel_rfl | rfl, ?_⟩) (by assumption) ?_
          rotate_left
          · (intro wq hSw; (try dsimp only at hSw); (try simp (maxSteps := 2000000) only [zz1, zz2, zz3]); go_simp); try with_reducible rfl
          try simp (maxSteps := 2000000) only [zz1, zz2, zz3, Act.put, zz4, zz5, zz6]
          refine wpAnyH_ready (rs := [10]) (by kernel_rfl) (by simp) ?_
          refine AllReadyH.cons rfl (fun K hK => ?_) AllReadyH.nil
          try simp (maxSteps := 2000000) only [zz1, zz2, zz3]
          go_simp
          go_at_call 207
          refine his.mono ?_
          clear his
          rintro e w9 ⟨rfl, hb9⟩
          have bP9 := bPd.below hb9
          have bQ9 := bQd.below hb9
          have bS9 := bSd.below hb9
          have hw9 := hw8d.trans (hb9.mono hw8d.size)
          have s9 : BoxAt w9 q (shC y) ∧ BoxAt w9 s (setC a cb r) := ⟨bQ9, bS9⟩
          try (go_wp2_with fail)
          refine hK.out _ _ (by first | exact s8 | exact s10 | exact s9) (fun hHeld => ?_)
          clear hK K
          try simp (maxSteps := 2000000) only [zz1, zz2, zz3, Act.put, zz4, zz5, zz6]
          refine wpAnyH_take (i := 11) (v := ?_) rfl (by kernel_rfl) (by kernel_rfl) (by kernel_rfl) (fun _ _ _ h => h) (Or.inl ⟨by first | kernel_rfl | rfl, ?_⟩) (by assumption) ?_
          rotate_left
          · (intro wq hSw; (try dsimp only at hSw); (try simp (maxSteps := 2000000) only [zz1, zz2, zz3]); go_simp); try with_reducible rfl
          try simp (maxSteps := 2000000) only [zz1, zz2, zz3, Act.put, zz4, zz5, zz6]
          refine wpAnyH_take (i := 12) (v := ?_) rfl (by kernel_rfl) (by kernel_rfl) (by kernel_rfl) (fun _ _ _ h => h) (Or.inl ⟨by first | kernel_rfl | rfl, ?_⟩) (by assumption) ?_
          rotate_left
          · (intro wq hSw; (try dsimp only at hSw); (try simp (maxSteps := 2000000) only [zz1, zz2, zz3]); go_simp); try with_reducible rfl
          try simp (maxSteps := 2000000) only [zz1, zz2, zz3, Act.put, zz4, zz5, zz6]
          refine wpAnyH_take (i := 13) (v := ?_) rfl (by kernel_rfl) (by kernel_rfl) (by kernel_rfl) (fun _ _ _ h => h) (Or.inl ⟨by first | kernel_rfl | rfl, ?_⟩) (by assumption) ?_
          rotate_left
          · (intro wq hSw; (try dsimp only at hSw); (try simp (maxSteps := 2000000) only [zz1, zz2, zz3]); go_simp); try with_reducible rfl
          try simp (maxSteps := 2000000) only [zz1, zz2, zz3, Act.put, zz4, zz5, zz6]
          refine wpAnyH_take (i := 14) (v := ?_) rfl (by kernel_rfl) (by kernel_rfl) (by kernel_rfl) (fun _ _ _ h => h) (Or.inl ⟨by first | kernel_rfl | rfl, ?_⟩) (by assumption) ?_
          rotate_left
          · (intro wq hSw; (try dsimp only at hSw); (try simp (maxSteps := 2000000) only [zz1, zz2, zz3]); go_simp); try with_reducible rfl
          try simp (maxSteps := 2000000) only [zz1, zz2, zz3, Act.put, zz4, zz5, zz6]
          refine wpAnyH_take (i := 15) (v := ?_) rfl (by kernel_rfl) (by kernel_rfl) (by kernel_rfl) (fun _ _ _ h => h) (Or.inl ⟨by first | kernel_rfl | rfl, ?_⟩) (by assumption) ?_
          rotate_left
          · (intro wq hSw; (try dsimp only at hSw); (try simp (maxSteps := 2000000) only [zz1, zz2, zz3]); go_simp); try with_reducible rfl
          try simp (maxSteps := 2000000) only [zz1, zz2, zz3, Act.put, zz4, zz5, zz6]
          refine wpAnyH_take (i := 16) (v := ?_) rfl (by kernel_rfl) (by kernel_rfl) (by kernel_rfl) (fun _ _ _ h => h) (Or.inl ⟨by first | kernel_rfl | rfl, ?_⟩) (by assumption) ?_
          rotate_left
          · (intro wq hSw; (try dsimp only at hSw); (try simp (maxSteps := 2000000) only [zz1, zz2, zz3]); go_simp); try with_reducible rfl
          try simp (maxSteps := 2000000) only [zz1, zz2, zz3, Act.put, zz4, zz5, zz6]
          refine wpAnyH_take (i := 17) (v := ?_) rfl (by kernel_rfl) (by kernel_rfl) (by kernel_rfl) (fun _ _ _ h => h) (Or.inl ⟨by first | kernel_rfl | rfl, ?_⟩) (by assumption) ?_
          rotate_left
          · (intro wq hSw; (try dsimp only at hSw); (try simp (maxSteps := 2000000) only [zz1, zz2, zz3]); go_simp); try with_reducible rfl
          try simp (maxSteps := 2000000) only [zz1, zz2, zz3, Act.put, zz4, zz5, zz6]
          refine wpAnyH_take (i := 18) (v := ?_) rfl (by kernel_rfl) (by kernel_rfl) (by kernel_rfl) (fun _ _ _ h => h) (Or.inl ⟨by first | kernel_rfl | rfl, ?_⟩) (by assumption) ?_
          rotate_left
          · (intro wq hSw; (try dsimp only at hSw); (try simp (maxSteps := 2000000) only [zz1, zz2, zz3]); go_simp); try with_reducible rfl
          try simp (maxSteps := 2000000) only [zz1, zz2, zz3, Act.put, zz4, zz5, zz6]
          refine wpAnyH_take (i := 19) (v := ?_) rfl (by kernel_rfl) (by kernel_rfl) (by kernel_rfl) (fun _ _ _ h => h) (Or.inl ⟨by first | kernel_rfl | rfl, ?_⟩) (by assumption) ?_
          rotate_left
          · (intro wq hSw; (try dsimp only at hSw); (try simp (maxSteps := 2000000) only [zz1, zz2, zz3]); go_simp); try with_reducible rfl
          try simp (maxSteps := 2000000) only [zz1, zz2, zz3, Act.put, zz4, zz5, zz6]
          refine wpAnyH_ready (rs := [20]) (by kernel_rfl) (by simp) ?_
          refine AllReadyH.cons rfl (fun K hK => ?_) AllReadyH.nil
          try simp (maxSteps := 2000000) only [zz1, zz2, zz3]
          go_simp
          go_at_call 105
          refine (hro _ hw9).mono ?_
          clear hro
          rintro e w11 ⟨rfl, hw11⟩
          rw [hw11]
          clear hw11
          have hst := run_storeS (y := y) bP9 sh0_ok.l hyl
          have hb2 := shC_set (y := y) bP9 sh0_ok.l hyl
          have bQ2 := bQ9.keep (setCells_other _ p 0 q (shV y) hpq.symm)
          have bS2 := bS9.keep (setCells_other _ p 0 s (shV y) hps.symm)
          have hw10 := setS_below hw9 hpw (shV y)
          obtain ⟨W10, hW10⟩ : ∃ W, w9.setCells p 0 (shV y) = W := ⟨_, rfl⟩
          rw [hW10] at hst hb2 bQ2 bS2 hw10
          have s10 : BoxAt W10 q (shC y) ∧ BoxAt W10 s (setC a cb r) := ⟨bQ2, bS2⟩
          try (go_wp2_with fail)
          refine hK.out _ _ (by first | exact s8 | exact s10 | exact s9) (fun hHeld => ?_)
          clear hK K
          try simp (maxSteps := 2000000) only [zz1, zz2, zz3, Act.put, zz4, zz5, zz6]
          refine wpAnyH_take (i := 21) (v := ?_) rfl (by kernel_rfl) (by kernel_rfl) (by kernel_rfl) (fun _ _ _ h => h) (Or.inl ⟨by first | kernel_rfl | rfl, ?_⟩) (by assumption) ?_
          rotate_left
          · (intro wq hSw; (try dsimp only at hSw); (try simp (maxSteps := 2000000) only [zz1, zz2, zz3]); go_simp); try with_reducible rfl
          try simp (maxSteps := 2000000) only [zz1, zz2, zz3, Act.put, zz4, zz5, zz6]
          refine wpAnyH_take (i := 22) (v := ?_) rfl (by kernel_rfl) (by kernel_rfl) (by kernel_rfl) (fun _ _ _ h => h) (Or.inl ⟨by first | kernel_rfl | rfl, ?_⟩) (by assumption) ?_
          rotate_left
          · (intro wq hSw; (try dsimp only at hSw); (try simp (maxSteps := 2000000) only [zz1, zz2, zz3]); go_simp); try with_reducible rfl
          try simp (maxSteps := 2000000) only [zz1, zz2, zz3, Act.put, zz4, zz5, zz6]
          refine wpAnyH_ready (rs := [23]) (by kernel_rfl) (by simp) ?_
          refine AllReadyH.cons rfl (fun K hK => ?_) AllReadyH.nil
          try simp (maxSteps := 2000000) only [zz1, zz2, zz3]
          go_simp
          refine hK.out _ _ (by first | exact s8 | exact s10 | exact s9) (fun hHeld => ?_)
          clear hK K
          try simp (maxSteps := 2000000) only [zz1, zz2, zz3, Act.put, zz4, zz5, zz6]
          refine wpAnyH_take (i := 24) (v := ?_) rfl (by kernel_rfl) (by kernel_rfl) (by kernel_rfl) (fun _ _ _ h => h) (Or.inl ⟨by first | kernel_rfl | rfl, ?_⟩) (by assumption) ?_
          rotate_left
          · (intro wq hSw; (try dsimp only at hSw); (try simp (maxSteps := 2000000) only [zz1, zz2, zz3]); go_simp); try with_reducible rfl
          try simp (maxSteps := 2000000) only [zz1, zz2, zz3, Act.put, zz4, zz5, zz6]
          refine wpAnyH_done (by kernel_rfl) ?_ _
          go_wp2_with fail
          have hld := run_loadS hb2 hyl
          refine bodyPost_ret (v := .tuple #[.agg (shC y), .bool false]) (results_cellS Tryz.results158 _ _ _ _ _ rfl (by first | rfl | (simp [hsz]; done) | (simp; omega)) hld) rfl ?_
          exact ⟨hw10, y, false, rfl, HY.out, .inr ⟨rfl, HRD.out⟩⟩
end
end Go.Proofs.YtcliejdiaohamaaGreat
