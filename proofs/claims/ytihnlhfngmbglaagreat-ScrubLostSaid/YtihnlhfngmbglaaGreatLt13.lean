/-
  Geometry.Made, the coder's blocks known; a law's own boxes beside the drives.
  Drives and a coder in the midst of a law, beside the law's own blocks, which it writes.
  A map's int keys, sorted; the drives, in a map.
  A scrubber: which stripe is next.
  The drives in a map; on which drives a stripe's shards are missing.
  On which drives a stripe's shards are missing; how many.
  As Ord: an operation is taken first for which those of lst wait by way of another one.
  What is missing of each stripe, handed to a function; all told, the most, what is lost.
  What is missing of all stripes, the most of one, whether all is within, how many drives more may die.
  Which stripes are lost.
  A scrubber: the first least one; which stripe is next.
-/
import Derived.Test.YtihnlhfngmbglaaGreatLt12
import Derived.Test.YtihnlhfngmbglaaGreatLt1
import Derived.Test.YtihnlhfngmbglaaGreatRows
import Derived.Test.YtihnlhfngmbglaaGreatLt4
set_option linter.unusedSimpArgs false
set_option linter.unusedVariables false
namespace Go.Proofs.YtihnlhfngmbglaaGreat
open Go.RowKit Go.Cib
attribute [local go_sem] cell_set Later.cell Later.frozen Grw.cell Grw.frozen
section
set_option maxRecDepth 100000 in
set_option maxHeartbeats 8000000 in
theorem made_lawC {w : World} {k m n : Nat} (k1 : 1 ≤ k) (m1 : 1 ≤ m) (km : k + m ≤ 255) (n1 : 1 ≤ n) (n2 : n ≤ 600) :
    Calls Tryz.prog 35 #[.agg (geoC k m n)] w fun e w' => ∃ a cb bf C, e = .returned (.tuple #[.pointer (some ⟨a, 0, none⟩), .pointer (some ⟨cb, 0, none⟩)]) ∧ SMidX (fun j => j < w.heap.size ∨ C j) w w' a cb bf k m n (newS n (k + m)) ∧ CodF C w' cb bf k m ∧ (∀ j, C j → w.heap.size ≤ j) ∧ Below w.heap.size w w' := by
  have hb0 : Below w.heap.size w (w.alloc (.cells (geoC k m n) 23)) := (Below.refl _ _).alloc (Nat.le_refl _) _
  have bG := BoxAt.new w (geoC k m n) 23
  obtain ⟨N, hN⟩ : ∃ N, k + m = N := ⟨_, rfl⟩
  have hnw := fun w => anew_any N n (by omega) (by omega) n1 n2 w
  have hfn := fun w => fldnew_any (w := w)
  have hcn := fun w b base F hb => new_anyS (w := w) (b := b) (base := base) (k := k) (m := m) F hb k1 m1 km
  have q0 : (k : Int) + (m : Int) = (N : Int) := by omega
  have q1 : IntKind.i64.wrap (N : Int) = (N : Int) := by rw [IntKind.wrap_i64]; omega
  have HN := Lib.hid hN
  unfold geoC at hb0 bG ⊢
  go_enter Tryz.func35, Tryz.ntmps35
  go_wp2_with fail
  obtain ⟨wA, hwA⟩ : ∃ wA, w.alloc (.cells #[.int .i64 (k : Int), .int .i64 (m : Int), .int .i64 (n : Int)] 23) = wA := ⟨_, rfl⟩
  rw [hwA] at hb0 bG ⊢
  obtain ⟨q, hq⟩ : ∃ q, w.heap.size = q := ⟨_, rfl⟩
  have HQ := Lib.hid hq
  rw [hq] at bG ⊢
  clear hwA hN hq
  have bGd : BoxAt wA.drew q #[.int .i64 (k : Int), .int .i64 (m : Int), .int .i64 (n : Int)] := bG.keep rfl
  have hd : Below w.heap.size w wA.drew := hb0.drew
  have s0 : wA.drew.cell? ⟨q, 0, none⟩ = some (.int .i64 (k : Int)) ∧ wA.drew.cell? ⟨q, 1, none⟩ = some (.int .i64 (m : Int)) ∧ wA.drew.cell? ⟨q, 2, none⟩ = some (.int .i64 (n : Int)) := ⟨bGd.cell 0, bGd.cell 1, bGd.cell 2⟩
  refine wp_region_held_drew (S := fun w' => w'.cell? ⟨q, 0, none⟩ = some (.int .i64 (k : Int)) ∧ w'.cell? ⟨q, 1, none⟩ = some (.int .i64 (m : Int)) ∧ w'.cell? ⟨q, 2, none⟩ = some (.int .i64 (n : Int))) (by kernel_rfl) (by first | exact s0 | exact s5 | exact s6 | exact s7) (fun hHeld => ?_)
  refine wpAnyH_take (i := 0) (v := ?_) rfl (by kernel_rfl) (by kernel_rfl) (by kernel_rfl) (fun _ _ _ h => h) (Or.inl ⟨by first | kernel_rfl | rfl, ?_⟩) (by assumption) ?_
  rotate_left
  · (intro wq hSw; (try dsimp only at hSw); (try simp (maxSteps := 2000000) only [zz1, zz2, zz3]); go_simp); try with_reducible rfl
  try simp (maxSteps := 2000000) only [zz1, zz2, zz3, Act.put, zz4, zz5, zz6]
  refine wpAnyH_take (i := 1) (v := ?_) rfl (by kernel_rfl) (by kernel_rfl) (by kernel_rfl) (fun _ _ _ h => h) (Or.inl ⟨by first | kernel_rfl | rfl, ?_⟩) (by assumption) ?_
  rotate_left
  · (intro wq hSw; (try dsimp only at hSw); (try simp (maxSteps := 2000000) only [zz1, zz2, zz3]); go_simp); try with_reducible rfl
  try simp (maxSteps := 2000000) only [zz1, zz2, zz3, Act.put, zz4, zz5, zz6]
  refine wpAnyH_take (i := 2) (v := ?_) rfl (by kernel_rfl) (by kernel_rfl) (by kernel_rfl) (fun _ _ _ h => h) (Or.inl ⟨by first | kernel_rfl | rfl, ?_⟩) (by assumption) ?_
  rotate_left
  · (intro wq hSw; (try dsimp only at hSw); (try simp (maxSteps := 2000000) only [zz1, zz2, zz3]); go_simp); try with_reducible rfl
  try simp (maxSteps := 2000000) only [zz1, zz2, zz3, Act.put, zz4, zz5, zz6]
  refine wpAnyH_take (i := 3) (v := ?_) rfl (by kernel_rfl) (by kernel_rfl) (by kernel_rfl) (fun _ _ _ h => h) (Or.inl ⟨by first | kernel_rfl | rfl, ?_⟩) (by assumption) ?_
  rotate_left
  · (intro wq hSw; (try dsimp only at hSw); (try simp (maxSteps := 2000000) only [zz1, zz2, zz3]); go_simp); try with_reducible rfl
  try simp (maxSteps := 2000000) only [zz1, zz2, zz3, Act.put, zz4, zz5, zz6]
  refine wpAnyH_take (i := 4) (v := ?_) rfl (by kernel_rfl) (by kernel_rfl) (by kernel_rfl) (fun _ _ _ h => h) (Or.inl ⟨by first | kernel_rfl | rfl, ?_⟩) (by assumption) ?_
  rotate_left
  · (intro wq hSw; (try dsimp only at hSw); (try simp (maxSteps := 2000000) only [zz1, zz2, zz3]); go_simp); try with_reducible rfl
  try simp (maxSteps := 2000000) only [zz1, zz2, zz3, Act.put, zz4, zz5, zz6]
  refine wpAnyH_take (i := 5) (v := ?_) rfl (by kernel_rfl) (by kernel_rfl) (by kernel_rfl) (fun _ _ _ h => h) (Or.inl ⟨by first | kernel_rfl | rfl, ?_⟩) (by assumption) ?_
  rotate_left
  · (intro wq hSw; (try dsimp only at hSw); (try simp (maxSteps := 2000000) only [zz1, zz2, zz3]); go_simp); try with_reducible rfl
  try simp (maxSteps := 2000000) only [zz1, zz2, zz3, Act.put, zz4, zz5, zz6]
  refine wpAnyH_take (i := 6) (v := ?_) rfl (by kernel_rfl) (by kernel_rfl) (by kernel_rfl) (fun _ _ _ h => h) (Or.inl ⟨by first | kernel_rfl | rfl, ?_⟩) (by assumption) ?_
  rotate_left
  · (intro wq hSw; (try dsimp only at hSw); (try simp (maxSteps := 2000000) only [zz1, zz2, zz3]); go_simp); try with_reducible rfl
  try simp (maxSteps := 2000000) only [zz1, zz2, zz3, Act.put, zz4, zz5, zz6]
  refine wpAnyH_take (i := 9) (v := ?_) rfl (by kernel_rfl) (by kernel_rfl) (by kernel_rfl) (fun _ _ _ h => h) (Or.inl ⟨by first | kernel_rfl | rfl, ?_⟩) (by assumption) ?_
  rotate_left
  · (intro wq hSw; (try dsimp only at hSw); (try simp (maxSteps := 2000000) only [zz1, zz2, zz3]); go_simp); try with_reducible rfl
  try simp (maxSteps := 2000000) only [zz1, zz2, zz3, Act.put, zz4, zz5, zz6]
  refine wpAnyH_take (i := 10) (v := ?_) rfl (by kernel_rfl) (by kernel_rfl) (by kernel_rfl) (fun _ _ _ h => h) (Or.inl ⟨by first | kernel_rfl | rfl, ?_⟩) (by assumption) ?_
  rotate_left
  · (intro wq hSw; (try dsimp only at hSw); (try simp (maxSteps := 2000000) only [zz1, zz2, zz3]); go_simp); try with_reducible rfl
  try simp (maxSteps := 2000000) only [zz1, zz2, zz3, Act.put, zz4, zz5, zz6]
  refine wpAnyH_take (i := 11) (v := ?_) rfl (by kernel_rfl) (by kernel_rfl) (by kernel_rfl) (fun _ _ _ h => h) (Or.inl ⟨by first | kernel_rfl | rfl, ?_⟩) (by assumption) ?_
  rotate_left
  · (intro wq hSw; (try dsimp only at hSw); (try simp (maxSteps := 2000000) only [zz1, zz2, zz3]); go_simp); try with_reducible rfl
  try simp (maxSteps := 2000000) only [zz1, zz2, zz3, Act.put, zz4, zz5, zz6]
  refine wpAnyH_take (i := 12) (v := ?_) rfl (by kernel_rfl) (by kernel_rfl) (by kernel_rfl) (fun _ _ _ h => h) (Or.inl ⟨by first | kernel_rfl | rfl, ?_⟩) (by assumption) ?_
  rotate_left
  · (intro wq hSw; (try dsimp only at hSw); (try simp (maxSteps := 2000000) only [zz1, zz2, zz3]); go_simp); try with_reducible rfl
  try simp (maxSteps := 2000000) only [zz1, zz2, zz3, Act.put, zz4, zz5, zz6]
  refine wpAnyH_ready (rs := [7]) (by kernel_rfl) (by simp) ?_
  refine AllReadyH.cons rfl (fun K hK => ?_) AllReadyH.nil
  try simp (maxSteps := 2000000) only [zz1, zz2, zz3]
  go_simp
  go_at_call 79
  refine (hnw _).mono ?_
  clear hnw
  rintro e w5 ⟨a, U, rfl, hA, hU, hb5⟩
  have bG5 := bGd.below hb5
  have s5 : w5.cell? ⟨q, 0, none⟩ = some (.int .i64 (k : Int)) ∧ w5.cell? ⟨q, 1, none⟩ = some (.int .i64 (m : Int)) ∧ w5.cell? ⟨q, 2, none⟩ = some (.int .i64 (n : Int)) := ⟨bG5.cell 0, bG5.cell 1, bG5.cell 2⟩
  have hw5 : Below w.heap.size w w5 := hd.trans (hb5.mono hd.size)
  have HA5 := Lib.hid hA
  have HU5 := Lib.hid hU
  clear hA hU
  try (go_wp2_with fail)
  refine hK.out _ _ (by first | exact s0 | exact s5 | exact s6 | exact s7) (fun hHeld => ?_)
  clear hK K
  try simp (maxSteps := 2000000) only [zz1, zz2, zz3, Act.put, zz4, zz5, zz6]
  refine wpAnyH_ready (rs := [8]) (by kernel_rfl) (by simp) ?_
  refine AllReadyH.cons rfl (fun K hK => ?_) AllReadyH.nil
  try simp (maxSteps := 2000000) only [zz1, zz2, zz3]
  go_simp
  go_at_call 81
  refine (hfn _).mono ?_
  clear hfn
  rintro e w6 ⟨rfl, hF, hb6⟩
  have bG6 := bG5.below hb6
  have s6 : w6.cell? ⟨q, 0, none⟩ = some (.int .i64 (k : Int)) ∧ w6.cell? ⟨q, 1, none⟩ = some (.int .i64 (m : Int)) ∧ w6.cell? ⟨q, 2, none⟩ = some (.int .i64 (n : Int)) := ⟨bG6.cell 0, bG6.cell 1, bG6.cell 2⟩
  have hw6 : Below w.heap.size w w6 := hw5.trans (hb6.mono hw5.size)
  have HF6 := Lib.hid hF
  clear hF
  try (go_wp2_with fail)
  refine hK.out _ _ (by first | exact s0 | exact s5 | exact s6 | exact s7) (fun hHeld => ?_)
  clear hK K
  try simp (maxSteps := 2000000) only [zz1, zz2, zz3, Act.put, zz4, zz5, zz6]
  refine wpAnyH_ready (rs := [13]) (by kernel_rfl) (by simp) ?_
  refine AllReadyH.cons rfl (fun K hK => ?_) AllReadyH.nil
  try simp (maxSteps := 2000000) only [zz1, zz2, zz3]
  go_simp
  go_at_call 80
  refine (hcn _ _ w5.heap.size HF6.out (Nat.le_refl _)).mono ?_
  clear hcn
  rintro e w7 ⟨cb, rfl, hC, hkp⟩
  have hk57 : Keep (fun j => w5.heap.size ≤ j) w5 w7 := (Keep.of_below (F := fun j => w5.heap.size ≤ j) hb6).trans hkp (fun j e _ => by rw [e]; exact Nat.le_refl _)
  have hb57 : Below w5.heap.size w5 w7 := hk57.below (Nat.le_refl _) (fun j h => h)
  have bG7 := bG5.below hb57
  have s7 : w7.cell? ⟨q, 0, none⟩ = some (.int .i64 (k : Int)) ∧ w7.cell? ⟨q, 1, none⟩ = some (.int .i64 (m : Int)) ∧ w7.cell? ⟨q, 2, none⟩ = some (.int .i64 (n : Int)) := ⟨bG7.cell 0, bG7.cell 1, bG7.cell 2⟩
  have hw7 : Below w.heap.size w w7 := hw5.trans (hb57.mono hw5.size)
  have HC7 := Lib.hid hC
  clear hC
  try (go_wp2_with fail)
  refine hK.out _ _ (by first | exact s0 | exact s5 | exact s6 | exact s7) (fun hHeld => ?_)
  clear hK K
  try simp (maxSteps := 2000000) only [zz1, zz2, zz3, Act.put, zz4, zz5, zz6]
  refine wpAnyH_take (i := 14) (v := ?_) rfl (by kernel_rfl) (by kernel_rfl) (by kernel_rfl) (fun _ _ _ h => h) (Or.inl ⟨by first | kernel_rfl | rfl, ?_⟩) (by assumption) ?_
  rotate_left
  · (intro wq hSw; (try dsimp only at hSw); (try simp (maxSteps := 2000000) only [zz1, zz2, zz3]); go_simp); try with_reducible rfl
  try simp (maxSteps := 2000000) only [zz1, zz2, zz3, Act.put, zz4, zz5, zz6]
  refine wpAnyH_take (i := 15) (v := ?_) rfl (by kernel_rfl) (by kernel_rfl) (by kernel_rfl) (fun _ _ _ h => h) (Or.inl ⟨by first | kernel_rfl | rfl, ?_⟩) (by assumption) ?_
  rotate_left
  · (intro wq hSw; (try dsimp only at hSw); (try simp (maxSteps := 2000000) only [zz1, zz2, zz3]); go_simp); try with_reducible rfl
  try simp (maxSteps := 2000000) only [zz1, zz2, zz3, Act.put, zz4, zz5, zz6]
  refine wpAnyH_done (by kernel_rfl) ?_ _
  have hsz0 : w.heap.size ≤ wA.drew.heap.size := hd.size
  have hUw : ∀ j, U j → w.heap.size ≤ j := fun j hj => by have h1 := HU5.out j hj; omega
  have HFIN := Lib.hid (show SMidX (fun j => j < w.heap.size ∨ (w5.heap.size ≤ j ∧ j < w7.heap.size)) w w7 a cb w5.heap.size k m n (List.replicate N (DSt.new n)) from
    ⟨hw7, ⟨U, fun j => w5.heap.size ≤ j ∧ j < w7.heap.size, HA5.out.below hb57, HC7.out.bound, hUw, fun j hj => ⟨fun hu => by have := HA5.out.lt hu; omega, hj.2⟩, fun j hj => hj.elim (fun h => ⟨fun hu => by have := hUw j hu; omega, Nat.lt_of_lt_of_le h hw7.size⟩) (fun h => ⟨fun hu => by have := HA5.out.lt hu; omega, h.2⟩)⟩, by rw [List.length_replicate, HN.out], n1, n2⟩)
  have HCF := Lib.hid HC7.out.bound
  have HSZ := Lib.hid hw5.size
  have HB7 := Lib.hid hw7
  clear s0 s5 s6 s7 bG bGd bG5 bG6 bG7 hHeld hb5 hb6 hkp hk57 hb57 hw5 hw6 hw7 hd hb0
  go_wp2_with fail
  go_ret2
  exact ⟨a, cb, _, fun j => w5.heap.size ≤ j ∧ j < w7.heap.size, rfl, by rw [HN.out]; exact HFIN.out, HCF.out, fun j hj => Nat.le_trans HSZ.out hj.1, HB7.out⟩
section
variable {X C : Nat → Prop} {w0 w1 w w' : World} {a cb bf k m n : Nat} {sts : List DSt}
theorem SMidX.rebase (h : SMidX X w1 w a cb bf k m n sts) (hb : Below w0.heap.size w0 w1) : SMidX X w0 w a cb bf k m n sts := by
  obtain ⟨h0, ⟨U, C, hA, hC, hU, hd, hx⟩, hl, h1, h2⟩ := h
  exact ⟨hb.trans (h0.mono hb.size), ⟨U, C, hA, hC, fun j hj => Nat.le_trans hb.size (hU j hj), hd, hx⟩, hl, h1, h2⟩
theorem CodF.kp (h : CodF C w cb bf k m) (hM : SMidX X w0 w a cb bf k m n sts) {sts' : List DSt} (hM' : SMidX X w0 w' a cb bf k m n sts') (hk : KpX X w w') (hc : ∀ j, C j → X j) : CodF C w' cb bf k m :=
  h.keep (G := fun j => ¬ C j) ⟨hM'.bel.os.trans hM.bel.os.symm, hM'.bel.tape.trans hM.bel.tape.symm, hM'.bel.output.trans hM.bel.output.symm, hk.2, fun j _ hj => hk.1 j (hc j (Classical.not_not.1 hj))⟩ (fun j hj hn => hn hj)
end
end
section
def NoB (_ : Nat) : Prop := False
/-- Drives and a coder, beside blocks X. -/
def MX (X : Nat → Prop) (w0 w : World) (a cb bf k m n : Nat) (sts : List DSt) : Prop := MidP NoB X w0 w a cb bf k m n sts
section
variable {P X Y C : Nat → Prop} {w0 w1 w w' : World} {a cb bf k m n : Nat} {sts : List DSt} {r : Ref}
theorem mx_of (h : SMidX (fun j => X j ∨ C j) w0 w a cb bf k m n sts) (hC : CodF C w cb bf k m) (hd : ∀ j, X j → ¬ C j) : MX X w0 w a cb bf k m n sts := by
  obtain ⟨h0, ⟨U, _, hA, _, hU, _, hx⟩, hl, h1, h2⟩ := h
  exact ⟨h0, ⟨U, C, hA, hC, hU, fun j hj => hx j (.inr hj), fun j hj => ⟨(hx j (.inl hj)).1, hd j hj, (hx j (.inl hj)).2⟩, fun j hj => hj.elim⟩, fun j hj => hj.elim, hl, h1, h2⟩
theorem MX.x (h : MX X w0 w a cb bf k m n sts) : SMidX X w0 w a cb bf k m n sts := MidP.x h
theorem MX.mid (h : MX X w0 w a cb bf k m n sts) : SMid w0 w a cb bf k m n sts := MidP.mid h
theorem MX.bel (h : MX X w0 w a cb bf k m n sts) : Below w0.heap.size w0 w := h.1
theorem MX.len (h : MX X w0 w a cb bf k m n sts) : sts.length = k + m := MidP.len h
theorem MX.pos (h : MX X w0 w a cb bf k m n sts) : 1 ≤ k ∧ 1 ≤ m ∧ k + m ≤ 255 ∧ 1 ≤ n ∧ n ≤ 600 := MidP.pos h
theorem MX.cod (h : MX X w0 w a cb bf k m n sts) : CodAt w cb bf k m := MidP.cod h
theorem MX.lt (h : MX X w0 w a cb bf k m n sts) {j : Nat} (hj : X j) : j < w.heap.size := MidP.lt h hj
theorem MX.sub (h : MX X w0 w a cb bf k m n sts) (hy : ∀ j, Y j → X j) : MX Y w0 w a cb bf k m n sts := MidP.sub h hy
theorem MX.below (h : MX X w0 w a cb bf k m n sts) (hb : Below w.heap.size w w') : MX (fun j => X j ∨ (w.heap.size ≤ j ∧ j < w'.heap.size)) w0 w' a cb bf k m n sts := MidP.below h hb
theorem MX.below' (h : MX X w0 w a cb bf k m n sts) (hb : Below w.heap.size w w') : MX X w0 w' a cb bf k m n sts := MidP.below' h hb
/-- A block of X's is written. -/
theorem MX.own {F : Nat → Prop} (h : MX X w0 w a cb bf k m n sts) (hK : Keep F w w') (hF : ∀ j, F j → X j ∧ w0.heap.size ≤ j) : MX X w0 w' a cb bf k m n sts := MidP.own h hK hF
theorem MX.ownN {F : Nat → Prop} (h : MX X w0 w a cb bf k m n sts) (hK : Keep F w w') (hF : ∀ j, F j → X j ∧ w0.heap.size ≤ j) : MX (fun j => X j ∨ (w.heap.size ≤ j ∧ j < w'.heap.size)) w0 w' a cb bf k m n sts := MidP.ownN h hK hF
theorem MX.rebase (h : MX X w1 w a cb bf k m n sts) (hb : Below w0.heap.size w0 w1) : MX X w0 w a cb bf k m n sts := by
  obtain ⟨h0, ⟨U, C, hA, hC, hU, hd, hx, hp⟩, hpx, hl, h1, h2⟩ := h
  exact ⟨hb.trans (h0.mono hb.size), ⟨U, C, hA, hC, fun j hj => Nat.le_trans hb.size (hU j hj), hd, hx, fun j hj => hj.elim⟩, hpx, hl, h1, h2⟩
theorem MX.step {sts' : List DSt} {f : FuncId} {args : Array Value} {Q : Ending → World → Prop} (h : MX X w0 w a cb bf k m n sts) (hl : sts'.length = sts.length)
    (hc : ∀ U, ArrAt U w a n sts → (∀ j, U j → w0.heap.size ≤ j) → (∀ j, X j → ¬ U j ∧ j < w.heap.size) → Calls Tryz.prog f args w fun e w' => Q e w' ∧ AUpd U w w' a n sts') :
    Calls Tryz.prog f args w fun e w' => Q e w' ∧ MX X w0 w' a cb bf k m n sts' ∧ KpX X w w' :=
  (MidP.step h hl hc).mono fun _ _ ⟨h1, h2, h3⟩ => ⟨h1, h2, h3.mono fun _ hj => .inl hj⟩
theorem kx_or {w w' : World} (h : KpX (fun j => X j ∨ NoB j) w w') : KpX X w w' := h.mono fun _ hj => .inl hj
theorem put_m (h : MX X w0 w a cb bf k m n sts) (hr : r.ok n) (hg : Hid (r.gen < 2 ^ 64)) (hcl : ∀ st ∈ sts, st.cache.length < 900000)
    {A : Option Addr} {c len : Nat} {S : Nat → Prop} {xs : List Nat} (R : RdL ByR 1 S w A len xs) (hc : len ≤ c) (hlx : len ≤ k * 44) :
    Calls Tryz.prog 43 #[.pointer (some ⟨a, 0, none⟩), .pointer (some ⟨cb, 0, none⟩), .agg (refC r), .slice A len c] w fun e w' =>
      e = .returned (.tuple #[.int .i64 (liveC sts : Int), .int .i64 0]) ∧ MX X w0 w' a cb bf k m n (sts.mapIdx (putQ n k (k + m) r xs)) ∧ KpX X w w' :=
  (put_p h hr hg hcl R hc hlx).mono fun _ _ ⟨h1, h2, h3⟩ => ⟨h1, h2, kx_or h3⟩
theorem fail_m (h : MX X w0 w a cb bf k m n sts) (d : Int) :
    Calls Tryz.prog 18 #[.pointer (some ⟨a, 0, none⟩), .int .i64 d] w fun e w' => e = .returned (.int .i64 (if 0 ≤ d ∧ d < sts.length then 0 else 2)) ∧ MX X w0 w' a cb bf k m n (failA n sts d) ∧ KpX X w w' :=
  (fail_p h d).mono fun _ _ ⟨h1, h2, h3⟩ => ⟨h1, h2, kx_or h3⟩
theorem rot_m (h : MX X w0 w a cb bf k m n sts) (d z off mask : Int) :
    Calls Tryz.prog 32 #[.pointer (some ⟨a, 0, none⟩), .int .i64 d, .int .i64 z, .int .i64 off, .int .u32 mask] w fun e w' => e = .returned (.int .i64 (rotE n sts d z off mask)) ∧ MX X w0 w' a cb bf k m n (rotA n sts d z off mask) ∧ KpX X w w' :=
  (rot_p h d z off mask).mono fun _ _ ⟨h1, h2, h3⟩ => ⟨h1, h2, kx_or h3⟩
theorem flush_m (h : MX X w0 w a cb bf k m n sts) (hcl : ∀ st ∈ sts, st.cache.length < 1000000) :
    Calls Tryz.prog 30 #[.pointer (some ⟨a, 0, none⟩)] w fun e w' => e = .returned (.int .i64 (cnt (aliveL sts))) ∧ MX X w0 w' a cb bf k m n (sts.map flushG) ∧ KpX X w w' :=
  (flush_p h hcl).mono fun _ _ ⟨h1, h2, h3⟩ => ⟨h1, h2, kx_or h3⟩
theorem repl_m (h : MX X w0 w a cb bf k m n sts) (d : Int) :
    Calls Tryz.prog 49 #[.pointer (some ⟨a, 0, none⟩), .int .i64 d] w fun e w' => e = .returned (.int .i64 (if 0 ≤ d ∧ d < sts.length then 0 else 2)) ∧ MX X w0 w' a cb bf k m n (replA n sts d) ∧ KpX X w w' :=
  h.step (Q := fun e _ => e = .returned (.int .i64 (if 0 ≤ d ∧ d < sts.length then 0 else 2))) (by unfold replA; split <;> simp) fun U hA _ _ => arepl_any (Lib.hid hA) (by have := h.len; have := h.pos; omega) d
theorem mend_m {g : Nat → Bool} {xs : List Nat} (h : MX X w0 w a cb bf k m n sts) (hr : r.ok n) (hg : Hid (r.gen < 2 ^ 64)) (hx : Byt xs) (hl : xs.length ≤ k * 44)
    (hcl : ∀ st ∈ sts, st.cache.length < 900000) (hen : k ≤ cntP g (k + m)) (hc : Hds g k (k + m) r xs sts) :
    Calls Tryz.prog 85 #[.pointer (some ⟨a, 0, none⟩), .pointer (some ⟨cb, 0, none⟩), .agg (refC r)] w fun e w' => e = .returned (.tuple #[.int .i64 (cntP (fun d => !g d && !deadL sts d) (k + m) : Nat), .int .i64 0]) ∧ MX X w0 w' a cb bf k m n (sts.mapIdx (mendQ g n k (k + m) r xs)) ∧ KpX X w w' :=
  h.step (Q := fun e _ => e = .returned (.tuple #[.int .i64 (cntP (fun d => !g d && !deadL sts d) (k + m) : Nat), .int .i64 0])) (by simp) fun U hA _ _ => amend_std hA h.cod h.len h.pos.2.2.2.2 hr hg hx hl hcl hen hc
/-- Where fewer than k shards are left, nothing is made anew. -/
theorem mlost_m {g : Nat → Bool} {xs : List Nat} (h : MX X w0 w a cb bf k m n sts) (hr : r.ok n) (hg : Hid (r.gen < 2 ^ 64)) (hx : Byt xs) (hl : xs.length ≤ k * 44)
    (hcl : ∀ st ∈ sts, st.cache.length < 900000) (hen : cntP g (k + m) < k) (hc : Hds g k (k + m) r xs sts) :
    Calls Tryz.prog 85 #[.pointer (some ⟨a, 0, none⟩), .pointer (some ⟨cb, 0, none⟩), .agg (refC r)] w fun e w' => e = .returned (.tuple #[.int .i64 0, .int .i64 130]) ∧ MX X w0 w' a cb bf k m n sts ∧ KpX X w w' :=
  h.step (Q := fun e _ => e = .returned (.tuple #[.int .i64 0, .int .i64 130])) rfl fun U hA _ _ => by
    have hp := h.pos
    have hlen := h.len
    obtain ⟨v1, v2⟩ := view_of (N := k + m) hr (by omega) hg hx (by omega) hl (by omega) (by omega) hlen hc
    obtain ⟨e1, e2⟩ := std_whole (P := fun i => g (homeN (k + m) r.place i)) v2
    have hcn : cntP (fun i => g (homeN (k + m) r.place i)) (k + m) = cntP g (k + m) := home_count (by omega) g
    have hcl2 : (wholeF (stR sts k r) (k + m)).1.length = cntP g (k + m) := by rw [e1, stdL_len]; exact hcn
    refine (smend_any hA h.cod hlen hr (by omega) hg hcl (rdOk_of v1)).mono ?_
    rintro e w' (⟨_, he, hu⟩ | ⟨hlt, _⟩)
    · exact ⟨he, hu⟩
    · omega
theorem an_m (h : MX X w0 w a cb bf k m n sts) : Calls Tryz.prog 83 #[.pointer (some ⟨a, 0, none⟩)] w fun e w' => e = .returned (.int .i64 ((k + m : Nat) : Int)) ∧ Below w.heap.size w w' := an_p h
/-- What a law's Made gives. -/
theorem made_m {w0 w : World} {k m n : Nat} (hbel : Below w0.heap.size w0 w) (k1 : 1 ≤ k) (m1 : 1 ≤ m) (km : k + m ≤ 255) (n1 : 1 ≤ n) (n2 : n ≤ 600) :
    Calls Tryz.prog 35 #[.agg (geoC k m n)] w fun e w' => ∃ a cb bf, e = .returned (.tuple #[.pointer (some ⟨a, 0, none⟩), .pointer (some ⟨cb, 0, none⟩)]) ∧ MX (fun j => j < w.heap.size) w0 w' a cb bf k m n (newS n (k + m)) ∧ Below w.heap.size w w' :=
  (made_lawC k1 m1 km n1 n2).mono fun _ _ ⟨a, cb, bf, C, he, hM, hC, hc, hb⟩ => ⟨a, cb, bf, he, (mx_of hM hC (fun j h1 h2 => by have := hc j h2; omega)).rebase hbel, hb⟩
end
end
section
open Go.Maps Go.Sort Go.Shelf Go.Proofs Go.WideElems Go.MapKept Go.WideShapes Go.ChangeMaps

/-- A reader that asks nothing. -/
def anyRI (_ : Value) : Option (DataW Unit × List MemPlace) := some (.nil, [])
def kOk (x : Int) : Prop := (Lit.int IntKind.i64 x).wf = true
theorem MapAt.ownsI {P : Program} {K : TypeId} (hK : P.underlying K = some (.int .i64)) {w : World} {b : Nat} {es : List (Int × Value)} (h : MapAt (Value.int .i64) w b es) (hk : ∀ p ∈ es, kOk p.1) (hl : es.length ≤ maxLen) :
    ∃ D0 : DataW Unit, w.ownsMap P K anyRI b es.length D0 ∧ Maps.size D0 = es.length ∧ (intKeys D0).Perm (es.map fun p => p.1) := by
  obtain ⟨h0, arr, clock, h1, h2, h3, h4⟩ := h
  have hsz : arr.size = es.length := by have := congrArg List.length h2; simpa using this
  have hkey : ∀ s : Int, kOk s → keyOf P K (.int .i64 s) = some (.int .i64 s) := fun s hs => by
    unfold kOk at hs
    simp [keyOf, hK, mapKey, hs]
  have hkeys : arr.toList.map (·.key) = es.map (fun p => Value.int .i64 p.1) := by
    have := congrArg (List.map Prod.fst) h2
    simpa [List.map_map, Function.comp_def] using this
  have hent : ∀ x ∈ arr.toList, ∃ s, x.key = .int .i64 s ∧ kOk s := fun x hx => by
    have : x.key ∈ es.map (fun p => Value.int .i64 p.1) := by rw [← hkeys]; exact List.mem_map_of_mem hx
    obtain ⟨p, hp, e⟩ := List.mem_map.1 this
    exact ⟨p.1, e.symm, hk p hp⟩
  have hrg : arr.toList.map (rg P K anyRI) = es.map (fun p => (Lit.int .i64 p.1, (DataW.nil : DataW Unit))) := by
    have e1 : arr.toList.map (rg P K anyRI) = (arr.toList.map (·.key)).map (fun v => match v with | .int .i64 s => (Lit.int .i64 s, (DataW.nil : DataW Unit)) | _ => (.bool false, .nil)) := by
      rw [List.map_map]
      refine List.map_congr_left fun x hx => ?_
      obtain ⟨s, hs, hs2⟩ := hent x hx
      simp [WideElems.rg, WideElems.rd, hs, hkey s hs2, anyRI]
    rw [e1, hkeys, List.map_map]
    rfl
  refine ⟨.map ((arr.toList.map (rg P K anyRI)).foldr DataW.insert []), ⟨arr, clock, h1, ⟨by omega, ⟨h4, h3, ?_⟩, fun x hx => ?_⟩, by omega, rfl⟩, ?_, ?_⟩
  · rw [hkeys]
    rw [show (fun p : Int × Value => Value.int .i64 p.1) = Value.int .i64 ∘ (·.1) from rfl, ← List.map_map]
    exact List.Pairwise.map _ (fun a b hab e => hab (by injection e)) h0
  · obtain ⟨s, hs, hs2⟩ := hent x hx
    exact ⟨(.int .i64 s, .nil), by simp [WideElems.rd, hs, hkey s hs2, anyRI]⟩
  · show List.length _ = _
    rw [length_sorted]
    simpa using hsz
  · show List.Perm (List.map _ _) _
    refine ((sorted_perm _).map _).trans ?_
    rw [hrg, List.map_map]
    exact List.Perm.refl _
theorem sort_risesI {ss : List Int} {xs : List Int} (hp : ss.Perm xs) (hr : xs.Pairwise fun x y => x < y) : ss.mergeSort (fun x y => decide (x ≤ y)) = xs := by
  have tr : ∀ a b c : Int, decide (a ≤ b) = true → decide (b ≤ c) = true → decide (a ≤ c) = true := fun a b c h1 h2 => by simp only [decide_eq_true_eq] at *; omega
  have to : ∀ a b : Int, (decide (a ≤ b) || decide (b ≤ a)) = true := fun a b => by simp only [Bool.or_eq_true, decide_eq_true_eq]; omega
  refine List.Perm.eq_of_pairwise (le := fun a b => decide (a ≤ b) = true) (fun a b _ _ h1 h2 => ?_) (List.pairwise_mergeSort tr to ss) ?_ ((List.mergeSort_perm ss _).trans hp)
  · simp only [decide_eq_true_eq] at h1 h2
    omega
  · exact hr.imp fun h => by simp only [decide_eq_true_eq]; omega
theorem ints_ownK {w : World} {base n : Nat} {v : Value} {l : List Int} (h : w.ownsRow base 3 1 v n (l.map (Value.int .i64))) : ∃ A c, v = .slice A n c ∧ n ≤ c ∧ RdL IntR 1 (fun j => base ≤ j) w A n l := by
  have hl : l.length = n := by have := h.1; simpa using this
  rcases h.2 with ⟨rfl, h0⟩ | ⟨g, cap, cur, rfl, hg, hblk, hnc, hcm, hsz, ht⟩
  · subst h0
    exact ⟨none, 0, rfl, Nat.le_refl _, by rw [List.length_eq_zero_iff.1 hl]; exact RdL.nil⟩
  · refine ⟨_, cap, rfl, hnc, hl, fun _ => ⟨g, 0, rfl, hg, (Array.getElem?_eq_some_iff.1 hblk).1, fun i x hx => ⟨[.int .i64 x], rfl, rfl, fun j u hj => ?_⟩⟩⟩
    rcases j with _ | j
    · simp at hj; subst hj
      have hc := h.cells (g := g) rfl i (.int .i64 x) (by rw [List.getElem?_map, hx]; rfl)
      rw [Addr.add_lit, Nat.zero_add] at hc
      rw [show 0 + i * 1 + 0 = i by omega]
      exact hc
    · simp at hj
theorem sortsI (m : Nat) : AnyZI.SortsIn Tryz.prog Tryz.sortedI_ren Fence.wide m :=
  ⟨fun blk off cap ss W hH hblk hsz => callsIn_wide.2 (AnyM.slices_Sort_int Tryz.sortI blk off cap ss W hH hblk hsz),
   fun p cap W => callsIn_wide.2 (AnyM.slices_Sort_int_none Tryz.sortI p cap W)⟩
theorem keysI_it (mb : Option Nat) (W : World) : Calls Tryz.prog 67 #[.map mb] W fun e w' => e = .returned (.func (.func 127) #[] #[.pointer (some ⟨W.heap.size, 0, none⟩)]) ∧ w' = W.alloc (.cells #[.map mb] 116) :=
  (callsIn_wide (n := 5)).1 (AnyZI.keys_in Tryz.keysI Fence.wide 5 trivial rfl mb W)
theorem sortedK_any {w : World} {b p : Nat} {es : List (Int × Value)} {xs : List Int} (hm : MapAt (Value.int .i64) w b es) (hp : w.cell? ⟨p, 0, none⟩ = some (.map (some b))) (hpl : p < w.heap.size) (hk : ∀ q ∈ es, kOk q.1) (hl : es.length ≤ 1000000)
    (hx : (es.map (·.1)).Perm xs) (hr : xs.Pairwise fun x y => x < y) :
    Calls Tryz.prog 66 #[.func (.func 127) #[] #[.pointer (some ⟨p, 0, none⟩)]] w fun e w' => ∃ A c, e = .returned (.slice A xs.length c) ∧ xs.length ≤ c ∧ RdL IntR 1 (fun j => w.heap.size ≤ j) w' A xs.length xs ∧ Below w.heap.size w w' := by
  refine (callsIn_wide (n := 5)).1 ?_
  obtain ⟨D0, hown, hsz, hperm⟩ := MapAt.ownsI (P := Tryz.prog) (K := 3) (by kernel_rfl) hm hk (by unfold maxLen; omega)
  have hseq : SeqGives Fence.wide 2 Tryz.prog 127 #[.pointer (some ⟨p, 0, none⟩)] encZ (fun ss => ss.Perm (intKeys D0)) (Maps.size D0) w :=
    AnyZI.keys_gives (ρ := Tryz.keysI_ren) { Tryz.keysI with } Fence.wide _ trivial rfl (by omega) p b es.length D0 _ hpl hp hown
  have cS := AnyZI.sorted_in Tryz.sortedI Fence.wide 5 trivial trivial trivial trivial rfl (by omega) (sortsI _) (enters_of Tryz.func126 (by kernel_rfl) rfl) 127 #[.pointer (some ⟨p, 0, none⟩)] trivial (enters_of Tryz.func127 (by kernel_rfl) rfl) _ _ (by rw [hsz]; unfold maxLen; omega) (by rw [hsz]; omega) _ hseq
  change CallsIn _ _ Tryz.prog 66 _ _ _ at cS
  refine cS.mono ?_
  rintro e w' ⟨v, ss, rfl, hS, hrow, hnil, hb⟩
  have hperm2 : ss.Perm xs := (hS.trans hperm).trans hx
  have hlen : ss.length = xs.length := hperm2.length_eq
  rw [sort_risesI hperm2 hr, hlen] at hrow
  obtain ⟨A, c, rfl, hc, hrd⟩ := ints_ownK hrow
  exact ⟨A, c, rfl, hc, hrd, hb⟩
end
section
/-- A stripe's name, at any place. -/
structure RfI where
  kind : Int
  place : Int
  gen : Int
def RfI.C (r : RfI) : Array Value := #[.int .u8 r.kind, .int .i64 r.place, .int .u64 r.gen]
def RfI.none_ : RfI := ⟨0, 0, 0⟩
def RfIR (_ : Nat → Prop) (_ : World) (cs : List Value) (x : RfI) : Prop := cs = [.int .u8 x.kind, .int .i64 x.place, .int .u64 x.gen]
theorem RfIR.stable : Stable RfIR := fun _ _ _ _ _ _ h _ => h
theorem RfIR.one : ∀ S w cs x, RfIR S w cs x → ∀ u ∈ cs, u.oneCell' = true := by
  rintro S w cs x rfl u hu
  simp only [List.mem_cons, List.not_mem_nil, or_false] at hu
  rcases hu with rfl | rfl | rfl <;> rfl
theorem sl_rfi : SlTy Tryz.prog 34 38 (.agg #[.int .u8 0, .int .i64 0, .int .u64 0]) 3 24 := ⟨by kernel_rfl, by kernel_rfl, by kernel_rfl, by omega⟩
theorem rfi_at {S : Nat → Prop} {w : World} {A : Option Addr} {n : Nat} {xs : List RfI} (h : RdL RfIR 3 S w A n xs) {i : Nat} (hi : i < n) : ∃ b o x, A = some ⟨b, o, none⟩ ∧ xs[i]? = some x ∧ b < w.heap.size ∧ S b ∧ w.cell? ⟨b, o + i * 3, none⟩ = some (.int .u8 x.kind) ∧ w.cell? ⟨b, o + i * 3 + 1, none⟩ = some (.int .i64 x.place) ∧ w.cell? ⟨b, o + i * 3 + 2, none⟩ = some (.int .u64 x.gen) := by
  obtain ⟨b, o, rfl, hS, hlt⟩ := h.addr hi
  obtain ⟨hl, cs, h1, h2, h3⟩ := h.at hi
  have h4 : cs = [.int .u8 (xs[i]).kind, .int .i64 (xs[i]).place, .int .u64 (xs[i]).gen] := h2
  subst h4
  refine ⟨b, o, xs[i], rfl, by simp [hl], hlt, hS, ?_, ?_, ?_⟩
  · simpa using h3 0 _ rfl
  · simpa using h3 1 _ rfl
  · simpa using h3 2 _ rfl
def plF (xs : List RfI) (i : Nat) : Int := (xs.getD i RfI.none_).place
theorem plF_at {xs : List RfI} {i : Nat} {x : RfI} (h : xs[i]? = some x) : plF xs i = x.place := by unfold plF; rw [List.getD_eq_getElem?_getD, h]; rfl
/-- The first least one of those of which it is said so. -/
def lstF (is : Nat → Bool) (pl : Nat → Int) : Nat → Nat × Bool
  | 0 => (0, false)
  | i + 1 => if is i = true ∧ ((lstF is pl i).2 = false ∨ pl i < pl (lstF is pl i).1) then (i, true) else lstF is pl i
theorem lstF_lt (is : Nat → Bool) (pl : Nat → Int) : ∀ i, (lstF is pl i).2 = true → (lstF is pl i).1 < i
  | 0, h => by simp [lstF] at h
  | i + 1, h => by
    rw [lstF] at h ⊢
    split
    · omega
    · rename_i h2
      rw [if_neg h2] at h
      have := lstF_lt is pl i h
      omega
theorem lstF_le (is : Nat → Bool) (pl : Nat → Int) : ∀ i, (lstF is pl i).1 ≤ i
  | 0 => Nat.le_refl _
  | i + 1 => by
    have := lstF_le is pl i
    rw [lstF]
    split
    · exact Nat.le_succ i
    · omega
set_option maxHeartbeats 800000 in
theorem sless_any {w : World} {S : Nat → Prop} {A : Option Addr} {n c i k : Nat} {xs : List RfI} (R : RdL RfIR 3 S w A n xs) (hn : n ≤ 1000000) (hi : i < n) (hk : k < n) :
    Calls Tryz.prog 113 #[.slice A n c, .int .i64 (i : Int), .int .i64 (k : Int)] w fun e w' => e = .returned (.bool (decide (plF xs i < plF xs k))) ∧ Below w.heap.size w w' := by
  obtain ⟨b, o, x, rfl, hx, hb, _, x0, x1, x2⟩ := rfi_at R hi
  obtain ⟨b2, o2, y, e, hy, _, _, y0, y1, y2⟩ := rfi_at R hk
  injection e with e
  injection e with e1 e2 _
  subst e1; subst e2
  rw [plF_at hx, plF_at hy]
  clear hx hy R
  go_enter Tryz.func113, Tryz.ntmps113
  go_wp2_with fail
  refine wp_region_later (by kernel_rfl) (by kernel_rfl) ?_
  repeat (go_big_quiet_step (fail))
  refine wpQuiet_nil ?_
  rintro _ ⟨z, rfl⟩
  go_wp2_with fail
  go_ret
  exact ⟨rfl, (by repeat (first | (with_reducible exact Below.refl _ _) | (with_reducible assumption) | (with_reducible refine Below.drew ?_) | (with_reducible refine Below.setCell ?_ ?_ _) | (with_reducible refine Below.alloc ?_ ?_ _) | (with_reducible refine Below.later ?_ ?_ _) | (first | (with_reducible exact Nat.le_refl _) | omega | (simp only [World.size_alloc, World.size_setCell, World.size_drew] <;> omega))))⟩
/-! ### the scrubber -/
def scrC (began : Bool) (place turns : Int) : Array Value := #[.bool true, .bool began, .int .i64 place, .int .i64 turns]
set_option maxHeartbeats 800000 in
theorem sn1_any {w : World} {p s : Nat} {began : Bool} {place turns : Int} {r : RfI} (hp : BoxAt w p #[.pointer (some ⟨s, 0, none⟩)]) (hs : BoxAt w s (scrC began place turns)) :
    Calls Tryz.prog 115 #[.agg r.C, .pointer (some ⟨p, 0, none⟩)] w fun e w' => e = .returned (.bool (!began || decide (r.place > place))) ∧ Below w.heap.size w w' := by
  have k0 := hp.cell 0
  have s1 : w.cell? ⟨s, 1, none⟩ = some (.bool began) := hs.cell 1
  have s2 : w.cell? ⟨s, 2, none⟩ = some (.int .i64 place) := hs.cell 2
  have hpl := hp.lt
  have hsl := hs.lt
  obtain ⟨rk, rp, rg⟩ := r
  unfold RfI.C
  clear hp hs
  cases began with
  | false =>
    go_enter Tryz.func115, Tryz.ntmps115
    go_wp2_with fail
    refine wp_region_later (by kernel_rfl) (by kernel_rfl) ?_
    repeat (go_big_quiet_step (fail))
    refine wpQuiet_nil ?_
    rintro _ ⟨z, rfl⟩
    go_wp2_with fail
    go_ret
    exact ⟨rfl, (by repeat (first | (with_reducible exact Below.refl _ _) | (with_reducible assumption) | (with_reducible refine Below.drew ?_) | (with_reducible refine Below.setCell ?_ ?_ _) | (with_reducible refine Below.alloc ?_ ?_ _) | (with_reducible refine Below.later ?_ ?_ _) | (first | (with_reducible exact Nat.le_refl _) | omega | (simp only [World.size_alloc, World.size_setCell, World.size_drew] <;> omega))))⟩
  | true =>
    go_enter Tryz.func115, Tryz.ntmps115
    go_wp2_with fail
    refine wp_region_later (by kernel_rfl) (by kernel_rfl) ?_
    repeat (go_big_quiet_step (fail))
    refine wpQuiet_nil ?_
    rintro _ ⟨z, rfl⟩
    go_wp2_with fail
    go_ret
    exact ⟨by simp, (by repeat (first | (with_reducible exact Below.refl _ _) | (with_reducible assumption) | (with_reducible refine Below.drew ?_) | (with_reducible refine Below.setCell ?_ ?_ _) | (with_reducible refine Below.alloc ?_ ?_ _) | (with_reducible refine Below.later ?_ ?_ _) | (first | (with_reducible exact Nat.le_refl _) | omega | (simp only [World.size_alloc, World.size_setCell, World.size_drew] <;> omega))))⟩
theorem sn2_any {w : World} {r : RfI} : Calls Tryz.prog 116 #[.agg r.C] w fun e w' => e = .returned (.bool true) ∧ Below w.heap.size w w' := by
  unfold RfI.C
  go_enter Tryz.func116, Tryz.ntmps116
  go_wp2_with fail
  go_ret
  exact ⟨rfl, (by repeat (first | (with_reducible exact Below.refl _ _) | (with_reducible assumption) | (with_reducible refine Below.drew ?_) | (with_reducible refine Below.setCell ?_ ?_ _) | (with_reducible refine Below.alloc ?_ ?_ _) | (with_reducible refine Below.later ?_ ?_ _) | (first | (with_reducible exact Nat.le_refl _) | omega | (simp only [World.size_alloc, World.size_setCell, World.size_drew] <;> omega))))⟩
theorem call_sl (args : Array Value) (w : World) : (callFunc 113 args).run Tryz.prog w = .ok (.enter 113 args) w := by go_simp
theorem call_sn1 (args : Array Value) (w : World) : (callFunc 115 args).run Tryz.prog w = .ok (.enter 115 args) w := by go_simp
theorem call_sn2 (args : Array Value) (w : World) : (callFunc 116 args).run Tryz.prog w = .ok (.enter 116 args) w := by go_simp
end
section
theorem un_ibmap : Tryz.prog.underlying 116 = some (.map 3 4) := by kernel_rfl
theorem kt_intL : KeyTy Tryz.prog 3 (Value.int .i64) := keyTy_int (by kernel_rfl)
/-- A contract of a call that tells how many rows there are. -/
def CNt (w : World) (vc : Value) (N : Nat) : Prop := ∀ W, Below w.heap.size w W → Calls Tryz.prog 57 #[vc] W fun e w' => e = .returned (.int .i64 (N : Int)) ∧ Below W.heap.size W w'
theorem CNt.below {w w' : World} {vc : Value} {N : Nat} (h : CNt w vc N) (hb : Below w.heap.size w w') : CNt w' vc N := fun W hW => h W (hb.trans (hW.mono hb.size))
def drvE (l : List Nat) : List (Int × Value) := l.map fun d : Nat => ((d : Int), Value.bool true)
theorem drvE_new (i : Nat) : mput (drvE (List.range i)) (i : Int) (.bool true) = drvE (List.range (i + 1)) := by
  rw [mput_new _ _ _ (fun p hp => by
    obtain ⟨d, hd, rfl⟩ := List.mem_map.1 hp
    have := List.mem_range.1 hd
    show (d : Int) ≠ i
    omega)]
  unfold drvE
  rw [List.range_succ, List.map_append]
  rfl
theorem mdel_drv {d0 : Nat} : ∀ (l : List Nat), l.Nodup → mdel (drvE l) (d0 : Int) = drvE (l.filter fun d => decide (d ≠ d0))
  | [], _ => rfl
  | x :: l, h => by
    have h2 := List.nodup_cons.1 h
    have ih := mdel_drv (d0 := d0) l h2.2
    show (if ((x : Int) = (d0 : Int)) then drvE l else ((x : Int), Value.bool true) :: mdel (drvE l) d0) = _
    by_cases e : x = d0
    · subst e
      rw [if_pos rfl, List.filter_cons_of_neg (by simp), List.filter_eq_self.2 (fun a ha => by
        have : a ≠ x := fun e => h2.1 (e ▸ ha)
        simpa using this)]
    · rw [if_neg (by omega), List.filter_cons_of_pos (by simpa using e), ih]
      rfl
set_option maxHeartbeats 4000000 in
theorem ldrives_any {w : World} {vc : Value} {N : Nat} (hN : CNt w vc N) (hN2 : N ≤ 255) :
    Calls Tryz.prog 63 #[vc] w fun e w' => ∃ mb, e = .returned (.map (some mb)) ∧ MapAt (Value.int .i64) w' mb (drvE (List.range N)) ∧ Below w.heap.size w w' ∧ w.heap.size ≤ mb := by
  have hmm := @run_makeMap Tryz.prog
  have hb0 : Below w.heap.size w (w.alloc (.map #[] 0)) := (Below.refl _ _).alloc (Nat.le_refl _) _
  have hm0 : MapAt (Value.int .i64) (w.alloc (.map #[] 0)) w.heap.size (drvE (List.range 0)) := MapAt.new _ w
  have hn := hN _ hb0
  obtain ⟨wA, hwA⟩ : ∃ wA, w.alloc (.map #[] 0) = wA := ⟨_, rfl⟩
  rw [hwA] at hb0 hm0 hn
  obtain ⟨mb, hmb⟩ : ∃ mb, w.heap.size = mb := ⟨_, rfl⟩
  have HMB := Lib.hid hmb
  rw [hmb] at hm0
  have hN3 : (N : Int) ≤ 255 := by omega
  clear hN
  go_enter Tryz.func63, Tryz.ntmps63
  go_wp2_with fail
  refine hn.mono ?_
  clear hn
  rintro e w1 ⟨rfl, hb1⟩
  have HM := Lib.hid (hm0.below hb1)
  have HB := Lib.hid (hb0.trans (hb1.mono hb0.size))
  clear hm0 hb1 hb0 hmm hwA
  go_wp2_with fail
  go_loopw [8] (fun vi wr => ∃ i : Nat, i ≤ N ∧ vi = .int .i64 i ∧ Hid (MapAt (Value.int .i64) wr mb (drvE (List.range i))) ∧ Hid (Below w.heap.size w wr)) (fun vi _ => N - (intOf vi).toNat)
  case atStart => exact ⟨0, Nat.zero_le _, rfl, HM, HB⟩
  case round =>
    clear HM HB
    obtain ⟨i, hi, rfl, HM, HB⟩ := hrel
    have p0 : (0 : Int) ≤ (i : Int) := Int.natCast_nonneg _
    by_cases hlt : i < N
    · have p1 : (i : Int) < (N : Int) := by omega
      obtain ⟨w5, hu, hm5, hg5, hs5⟩ := run_mapUpdate kt_intL un_ibmap HM.out (i : Int) (.bool true)
      rw [drvE_new] at hm5
      have HM5 := Lib.hid hm5
      have HB5 := Lib.hid (HB.out.grown hg5 HB.out.size (fun j hj => by injection hj with hj; have := HMB.out; omega))
      clear hm5 hg5 hs5
      go_wp2_with fail
      exact ⟨⟨i + 1, by omega, by go_num, HM5, HB5⟩, by simp [intOf]; omega⟩
    · have p1 : ¬ (i : Int) < (N : Int) := by omega
      obtain rfl : i = N := by omega
      go_wp2_with fail
      go_ret
      exact ⟨mb, rfl, HM.out, (by rw [← HMB.out]; exact HB.out), (by rw [← HMB.out]; exact Nat.le_refl _)⟩
/-! ### Spots -/
def missL (g : Nat → Bool) (N : Nat) : List Nat := (List.range N).filter fun d => !g d
def missZ (g : Nat → Bool) (N : Nat) : List Int := (missL g N).map fun d : Nat => (d : Int)
theorem missZ_len (g : Nat → Bool) (N : Nat) : (missZ g N).length = (missL g N).length := by unfold missZ; rw [List.length_map]
theorem missZ_up (g : Nat → Bool) (N : Nat) : (missZ g N).Pairwise fun x y => x < y := by
  unfold missZ missL
  refine List.pairwise_map.2 ((List.Pairwise.filter _ List.pairwise_lt_range).imp fun h => by omega)
/-- What Whole tells of a stripe: by drives. -/
def WhOk (g : Nat → Bool) (N : Nat) (place : Int) (ws : List Bool) : Prop := (ws = [] ∧ ∀ d, d < N → g d = false) ∨ ∃ p : Nat, place = p ∧ ws = (List.range N).map fun i => g (homeN N p i)
/-- A contract of Whole. -/
def WhC (w : World) (va vc : Value) (r : RfI) (g : Nat → Bool) (N : Nat) : Prop := ∀ W, Below w.heap.size w W → Calls Tryz.prog 64 #[va, vc, .agg r.C] W fun e w' => ∃ A L c ws, e = .returned (.slice A L c) ∧ L ≤ c ∧ RdL BoolR 1 (fun j => W.heap.size ≤ j) w' A L ws ∧ WhOk g N r.place ws ∧ Below W.heap.size W w'
theorem WhC.below {w w' : World} {va vc : Value} {r : RfI} {g : Nat → Bool} {N : Nat} (h : WhC w va vc r g N) (hb : Below w.heap.size w w') : WhC w' va vc r g N := fun W hW => h W (hb.trans (hW.mono hb.size))
/-- Which drives stand yet behind i of the shards. -/
def leftD (g : Nat → Bool) (N p i : Nat) : List Nat := (List.range N).filter fun d => !(g d && decide (ixN N p d < i))
theorem leftD_zero (g : Nat → Bool) (N p : Nat) : leftD g N p 0 = List.range N := List.filter_eq_self.2 fun d _ => by simp
theorem leftD_none {g : Nat → Bool} {N : Nat} (h : ∀ d, d < N → g d = false) : missL g N = List.range N := List.filter_eq_self.2 fun d hd => by rw [h d (List.mem_range.1 hd)]; rfl
theorem leftD_all (g : Nat → Bool) {N p : Nat} (hN : 1 ≤ N) : leftD g N p N = missL g N := by
  refine List.filter_congr fun d hd => ?_
  rw [decide_eq_true (ixN_lt hN), Bool.and_true]
theorem leftD_nodup (g : Nat → Bool) (N p i : Nat) : (leftD g N p i).Nodup := List.Pairwise.filter _ List.nodup_range
theorem leftD_del {g : Nat → Bool} {N p i : Nat} (hi : i < N) (hg : g (homeN N p i) = true) : (leftD g N p i).filter (fun d => decide (d ≠ homeN N p i)) = leftD g N p (i + 1) := by
  unfold leftD
  rw [List.filter_filter]
  refine List.filter_congr fun d hd => ?_
  have hd := List.mem_range.1 hd
  by_cases e : d = homeN N p i
  · subst e
    rw [ix_home (by omega) hi, hg]
    simp
  · have h1 : ixN N p d ≠ i := fun h => e (by rw [← h, home_ix (by omega) hd])
    rw [decide_eq_true (show d ≠ homeN N p i from e), Bool.true_and]
    congr 2
    exact decide_eq_decide.2 (by omega)
theorem leftD_keep {g : Nat → Bool} {N p i : Nat} (hi : i < N) (hg : g (homeN N p i) = false) : leftD g N p i = leftD g N p (i + 1) := by
  unfold leftD
  refine List.filter_congr fun d hd => ?_
  have hd := List.mem_range.1 hd
  by_cases e : d = homeN N p i
  · subst e
    rw [hg]
    simp
  · have h1 : ixN N p d ≠ i := fun h => e (by rw [← h, home_ix (by omega) hd])
    congr 2
    exact decide_eq_decide.2 (by omega)
theorem drvE_del {g : Nat → Bool} {N p i : Nat} (hi : i < N) (hg : g (homeN N p i) = true) : mdel (drvE (leftD g N p i)) (homeN N p i : Int) = drvE (leftD g N p (i + 1)) := by
  rw [mdel_drv _ (leftD_nodup g N p i), leftD_del hi hg]
end
section
theorem run_del {w : World} {mb : Nat} {es : List (Int × Value)} (hm : MapAt (Value.int .i64) w mb es) (k : Int) (K2 ty : TypeId) : ∃ w', (Builtin.delete_ #[116, K2] ty #[.map (some mb), .int .i64 k]).run Tryz.prog w = .ok (.tuple #[]) w' ∧ MapAt (Value.int .i64) w' mb (mdel es k) ∧ w.grownBy w' (some mb) ∧ w'.heap.size = w.heap.size := run_delete kt_intL un_ibmap hm k K2 ty
structure Plan (g : Nat → Bool) (N : Nat) (place : Int) (ws : List Bool) (D : Nat → List Nat) : Prop where
  z : D 0 = List.range N
  l : D ws.length = missL g N
  s : ∀ i x, ws[i]? = some x → 1 ≤ N ∧ ∃ p : Nat, place = p ∧ (x = true → mdel (drvE (D i)) (homeN N p i : Int) = drvE (D (i + 1))) ∧ (x = false → D i = D (i + 1))
  sub : ∀ i, ∀ d ∈ D i, d < N
theorem WhOk.plan {g : Nat → Bool} {N : Nat} {place : Int} {ws : List Bool} (h : WhOk g N place ws) : ∃ D, Plan g N place ws D := by
  rcases h with ⟨rfl, h⟩ | ⟨p, rfl, rfl⟩
  · exact ⟨fun _ => List.range N, rfl, (leftD_none h).symm, fun i x hx => by simp at hx, fun i d hd => List.mem_range.1 hd⟩
  · refine ⟨leftD g N p, leftD_zero g N p, ?_, fun i x hx => ?_, fun i d hd => List.mem_range.1 (List.mem_filter.1 hd).1⟩
    · rw [List.length_map, List.length_range]
      by_cases h1 : 1 ≤ N
      · exact leftD_all g h1
      · obtain rfl : N = 0 := by omega
        rfl
    · rw [List.getElem?_map] at hx
      by_cases hi : i < N
      · rw [List.getElem?_range hi] at hx
        obtain rfl := Option.some.inj hx
        exact ⟨by omega, p, rfl, fun h => drvE_del hi h, fun h => leftD_keep hi h⟩
      · rw [List.getElem?_eq_none (by rw [List.length_range]; omega)] at hx
        cases hx
set_option maxRecDepth 100000 in
set_option maxHeartbeats 16000000 in
theorem spots_any {w : World} {va vc : Value} {r : RfI} {g : Nat → Bool} {N : Nat} (hN : CNt w vc N) (hW : WhC w va vc r g N) (hN2 : N ≤ 255) :
    Calls Tryz.prog 21 #[va, vc, .agg r.C] w fun e w' => ∃ A c, e = .returned (.slice A (missL g N).length c) ∧ (missL g N).length ≤ c ∧ RdL IntR 1 (fun j => w.heap.size ≤ j) w' A (missL g N).length (missZ g N) ∧ Below w.heap.size w w' := by
  obtain ⟨rk, rp, rg⟩ := r
  have hb0 : Below w.heap.size w (w.alloc (.cells #[.int .u8 rk, .int .i64 rp, .int .u64 rg] 38)) := (Below.refl _ _).alloc (Nat.le_refl _) _
  have bR := BoxAt.new w #[.int .u8 rk, .int .i64 rp, .int .u64 rg] 38
  obtain ⟨wA, hwA⟩ : ∃ wA, w.alloc (.cells #[.int .u8 rk, .int .i64 rp, .int .u64 rg] 38) = wA := ⟨_, rfl⟩
  obtain ⟨q, hq⟩ : ∃ q, w.heap.size = q := ⟨_, rfl⟩
  rw [hwA] at hb0 bR
  have hd := ldrives_any (hN.below hb0) hN2
  have HQ := Lib.hid hq
  rw [hq] at bR
  have HN := Lib.hid hN
  have HW := Lib.hid hW
  have HB0 := Lib.hid hb0
  have BR := Lib.hid bR
  unfold RfI.C
  dsimp only
  clear hN hW hb0 bR
  go_enter Tryz.func21, Tryz.ntmps21
  go_wp2_with fail
  refine hd.mono ?_
  clear hd hwA
  rintro e w1 ⟨mb, rfl, hm1, hb1, hmb⟩
  have HB1 := Lib.hid (HB0.out.trans (hb1.mono HB0.out.size))
  have hw := HW.out w1 HB1.out
  have bR1 := BR.out.below hb1
  have k0 := bR1.cell 0
  have k1 := bR1.cell 1
  have k2 := bR1.cell 2
  have HM1 := Lib.hid hm1
  have BR1 := Lib.hid bR1
  have HM2lt := Lib.hid (show mb < w1.heap.size from hm1.lt)
  have hqm : q < mb := by have := BR.out.lt; omega
  have HQM := Lib.hid hqm
  unfold RfI.C at hw
  dsimp only at hw
  clear hb1 hmb hm1 bR1 HB0 BR
  go_wp2_with fail
  refine hw.mono ?_
  clear hw k0 k1 k2
  rintro e w2 ⟨A, L, c, ws, rfl, hLc, hRW, hWO, hb2⟩
  have HB2 := Lib.hid (HB1.out.trans (hb2.mono HB1.out.size))
  have HM2 := Lib.hid (HM1.out.below hb2)
  have BR2 := Lib.hid (BR1.out.below hb2)
  have HRW := Lib.hid hRW
  have hwl := hRW.1
  have HWO := Lib.hid hWO
  have hL2 : L ≤ N := by
    rcases hWO with ⟨e, _⟩ | ⟨p, _, e⟩
    · rw [e] at hwl; simp at hwl; omega
    · rw [e] at hwl; simp at hwl; omega
  have hN3 : (N : Int) ≤ 255 := by omega
  have hL3 : (L : Int) ≤ 255 := by omega
  have HWL := Lib.hid hwl
  obtain ⟨D, hD⟩ := HWO.out.plan
  have HD := Lib.hid hD
  have HM2' := Lib.hid (show MapAt (Value.int .i64) w2 mb (drvE (D 0)) by rw [hD.z]; exact HM2.out)
  clear hb2 HB1 HM1 BR1 hRW hWO hwl HWO hD HM2
  go_wp2_with fail
  go_loopw [17] (fun vi wr => ∃ i : Nat, i ≤ L ∧ vi = .int .i64 i ∧ Hid (MapAt (Value.int .i64) wr mb (drvE (D i))) ∧ Hid (Below w.heap.size w wr) ∧ Hid (Keep (fun j => j = mb) w2 wr)) (fun vi _ => L - (intOf vi).toNat)
  case atStart => exact ⟨0, Nat.zero_le _, rfl, HM2', HB2, Lib.hid (Keep.refl _ _)⟩
  case round =>
    clear HM2'
    obtain ⟨i, hi, rfl, HM, HB, HK⟩ := hrel
    have p0 : (0 : Int) ≤ (i : Int) := Int.natCast_nonneg _
    by_cases hlt : i < L
    · have p1 : (i : Int) < (L : Int) := by omega
      obtain ⟨b, o, x, eA, hx, v0⟩ := bool_at (HRW.out.keep BoolR.stable HK.out (fun j hj e => by have := HM2lt.out; omega)) hlt
      subst eA
      obtain ⟨hN1, p, erp, ht, hf⟩ := HD.out.s i x hx
      subst erp
      cases x with
      | false =>
        rw [hf rfl] at HM
        clear hx ht hf
        go_wp2_with fail
        exact ⟨⟨i + 1, by omega, by go_num, HM, HB, HK⟩, by simp [intOf]; omega⟩
      | true =>
        have HT := Lib.hid (ht rfl)
        have hdr : Below wr.heap.size wr wr.drew := (Below.refl _ _).drew
        have hn := HN.out wr.drew HB.out.drew
        have hho := fun W => home_any (w := W) (n := N) (place := p) (i := i) hN1 (by omega)
        have bRr := (BR2.out.keeps HK.out (by have := HQM.out; omega)).below hdr
        have s0 : wr.drew.cell? ⟨q, 1, none⟩ = some (.int .i64 (p : Int)) := bRr.cell 1
        have BRr := Lib.hid bRr
        have HMr := Lib.hid (HM.out.below hdr)
        have HKr := Lib.hid (HK.out.trans (Keep.of_below (F := fun j => j = mb) hdr) (fun _ h _ => h))
        have HBr := Lib.hid HB.out.drew
        clear hx ht hf bRr hdr HM HK HB
        go_wp2_with fail
        refine wp_region_held_drew (S := fun w' => w'.cell? ⟨q, 1, none⟩ = some (.int .i64 (p : Int))) (by kernel_rfl) (by first | exact s0 | exact s5 | exact s6 | exact s7) (fun hHeld => ?_)
        refine wpAnyH_take (i := 0) (v := ?_) rfl (by kernel_rfl) (by kernel_rfl) (by kernel_rfl) (fun _ _ _ h => h) (Or.inl ⟨by first | kernel_rfl | rfl, ?_⟩) (by assumption) ?_
        rotate_left
        · (intro wq hSw; (try dsimp only at hSw); (try simp (maxSteps := 2000000) only [zz1, zz2, zz3]); go_simp); try with_reducible rfl
        try simp (maxSteps := 2000000) only [zz1, zz2, zz3, Act.put, zz4, zz5, zz6]
        refine wpAnyH_take (i := 1) (v := ?_) rfl (by kernel_rfl) (by kernel_rfl) (by kernel_rfl) (fun _ _ _ h => h) (Or.inl ⟨by first | kernel_rfl | rfl, ?_⟩) (by assumption) ?_
        rotate_left
        · (intro wq hSw; (try dsimp only at hSw); (try simp (maxSteps := 2000000) only [zz1, zz2, zz3]); go_simp); try with_reducible rfl
        try simp (maxSteps := 2000000) only [zz1, zz2, zz3, Act.put, zz4, zz5, zz6]
        refine wpAnyH_take (i := 3) (v := ?_) rfl (by kernel_rfl) (by kernel_rfl) (by kernel_rfl) (fun _ _ _ h => h) (Or.inl ⟨by first | kernel_rfl | rfl, ?_⟩) (by assumption) ?_
        rotate_left
        · (intro wq hSw; (try dsimp only at hSw); (try simp (maxSteps := 2000000) only [zz1, zz2, zz3]); go_simp); try with_reducible rfl
        try simp (maxSteps := 2000000) only [zz1, zz2, zz3, Act.put, zz4, zz5, zz6]
        refine wpAnyH_take (i := 4) (v := ?_) rfl (by kernel_rfl) (by kernel_rfl) (by kernel_rfl) (fun _ _ _ h => h) (Or.inl ⟨by first | kernel_rfl | rfl, ?_⟩) (by assumption) ?_
        rotate_left
        · (intro wq hSw; (try dsimp only at hSw); (try simp (maxSteps := 2000000) only [zz1, zz2, zz3]); go_simp); try with_reducible rfl
        try simp (maxSteps := 2000000) only [zz1, zz2, zz3, Act.put, zz4, zz5, zz6]
        refine wpAnyH_take (i := 5) (v := ?_) rfl (by kernel_rfl) (by kernel_rfl) (by kernel_rfl) (fun _ _ _ h => h) (Or.inl ⟨by first | kernel_rfl | rfl, ?_⟩) (by assumption) ?_
        rotate_left
        · (intro wq hSw; (try dsimp only at hSw); (try simp (maxSteps := 2000000) only [zz1, zz2, zz3]); go_simp); try with_reducible rfl
        try simp (maxSteps := 2000000) only [zz1, zz2, zz3, Act.put, zz4, zz5, zz6]
        refine wpAnyH_ready (rs := [2]) (by kernel_rfl) (by simp) ?_
        refine AllReadyH.cons rfl (fun K hK => ?_) AllReadyH.nil
        try simp (maxSteps := 2000000) only [zz1, zz2, zz3]
        go_simp
        go_at_call 57
        refine hn.mono ?_
        clear hn
        rintro e w5 ⟨rfl, hb5⟩
        have s5 : w5.cell? ⟨q, 1, none⟩ = some (.int .i64 (p : Int)) := (BRr.out.below hb5).cell 1
        have HM5 := Lib.hid (HMr.out.below hb5)
        have HB5 := Lib.hid (HBr.out.trans (hb5.mono HBr.out.size))
        have HK5 := Lib.hid (HKr.out.trans (Keep.of_below (F := fun j => j = mb) hb5) (fun _ h _ => h))
        have BR5 := Lib.hid (BRr.out.below hb5)
        clear hb5
        try (go_wp2_with fail)
        refine hK.out _ _ (by first | exact s0 | exact s5 | exact s6 | exact s7) (fun hHeld => ?_)
        clear hK K
        try simp (maxSteps := 2000000) only [zz1, zz2, zz3, Act.put, zz4, zz5, zz6]
        refine wpAnyH_ready (rs := [6]) (by kernel_rfl) (by simp) ?_
        refine AllReadyH.cons rfl (fun K hK => ?_) AllReadyH.nil
        try simp (maxSteps := 2000000) only [zz1, zz2, zz3]
        go_simp
        go_at_call 65
        refine (hho _).mono ?_
        clear hho
        rintro e w6 ⟨rfl, hb6⟩
        have s6 : w6.cell? ⟨q, 1, none⟩ = some (.int .i64 (p : Int)) := (BR5.out.below hb6).cell 1
        have hm6 := HM5.out.below hb6
        have HM6 := Lib.hid hm6
        have HB6 := Lib.hid (HB5.out.trans (hb6.mono HB5.out.size))
        have HK6 := Lib.hid (HK5.out.trans (Keep.of_below (F := fun j => j = mb) hb6) (fun _ h _ => h))
        have BR6 := Lib.hid (BR5.out.below hb6)
        obtain ⟨w7, hdl, hm7, hg7, hs7⟩ := run_del hm6 (homeN N p i : Int) 3 0
        rw [HT.out] at hm7
        have HM7 := Lib.hid hm7
        have s7 : w7.cell? ⟨q, 1, none⟩ = some (.int .i64 (p : Int)) := (BR6.out.grw hg7 (by intro e; injection e with e; have := HQM.out; omega)).cell 1
        have HB7 := Lib.hid (HB6.out.grown hg7 HB6.out.size (fun j hj => by injection hj with hj; have := HQM.out; have := HQ.out; omega))
        have HK7 := Lib.hid (HK6.out.trans (Keep.of_grown hg7) (fun j hj _ => by injection hj))
        clear hb6 hm6 hm7 hg7 hs7
        try (go_wp2_with fail)
        refine hK.out _ _ (by first | exact s0 | exact s5 | exact s6 | exact s7) (fun hHeld => ?_)
        clear hK K
        try simp (maxSteps := 2000000) only [zz1, zz2, zz3, Act.put, zz4, zz5, zz6]
        refine wpAnyH_ready (rs := [7]) (by kernel_rfl) (by simp) ?_
        refine AllReadyH.cons rfl (fun K hK => ?_) AllReadyH.nil
        try simp (maxSteps := 2000000) only [zz1, zz2, zz3]
        go_simp
        refine hK.out _ _ (by first | exact s0 | exact s5 | exact s6 | exact s7) (fun hHeld => ?_)
        clear hK K
        try simp (maxSteps := 2000000) only [zz1, zz2, zz3, Act.put, zz4, zz5, zz6]
        refine wpAnyH_done (by kernel_rfl) ?_ _
        go_wp2_with fail
        exact ⟨⟨i + 1, by omega, by go_num, HM7, HB7, HK7⟩, by simp [intOf]; omega⟩
    · have p1 : ¬ (i : Int) < (L : Int) := by omega
      obtain rfl : i = L := by omega
      have hm := HM.out
      have hDl := HD.out.l
      rw [HWL.out] at hDl
      rw [hDl] at hm
      have hkw := keysI_it (some mb) wr
      have wA : Below wr.heap.size wr (wr.alloc (.cells #[.map (some mb)] 116)) := (Below.refl _ _).alloc (Nat.le_refl _) _
      have hml : (missL g N).length ≤ 255 := by
        have := List.length_filter_le (fun d => !g d) (List.range N)
        rw [List.length_range] at this
        unfold missL
        omega
      have hmap : (drvE (missL g N)).map (·.1) = missZ g N := by unfold drvE missZ; rw [List.map_map]; rfl
      have hel : (drvE (missL g N)).length ≤ 1000000 := by unfold drvE; simp only [List.length_map]; omega
      have cS := sortedK_any (xs := missZ g N) (hm.below wA) (p := wr.heap.size) ((BoxAt.new wr #[.map (some mb)] 116).cell 0) (by rw [World.size_alloc]; omega) (fun x hx => by
        obtain ⟨d, hd, rfl⟩ := List.mem_map.1 hx
        have h1 : d < N := List.mem_range.1 (List.mem_filter.1 hd).1
        show (Lit.int IntKind.i64 (d : Int)).wf = true
        have h2 : IntKind.i64.min = -9223372036854775808 := by decide
        have h3 : IntKind.i64.max = 9223372036854775807 := by decide
        show (decide (IntKind.i64.min ≤ (d : Int)) && decide ((d : Int) ≤ IntKind.i64.max)) = true
        rw [h2, h3, Bool.and_eq_true, decide_eq_true_eq, decide_eq_true_eq]
        omega) hel (by rw [hmap]) (missZ_up g N)
      rw [missZ_len] at cS
      obtain ⟨M, hMl⟩ : ∃ M, (missL g N).length = M := ⟨_, rfl⟩
      rw [hMl] at cS hml
      have HML := Lib.hid hMl
      have HBA := Lib.hid (HB.out.trans (wA.mono HB.out.size))
      have hs1 : w.heap.size ≤ (wr.alloc (.cells #[.map (some mb)] 116)).heap.size := HBA.out.size
      have HS1 := Lib.hid hs1
      clear hm hDl wA hmap hMl hs1
      go_wp2_with fail
      refine hkw.mono ?_
      clear hkw
      rintro e w8 ⟨rfl, h8⟩
      subst h8
      go_wp2_with fail
      refine cS.mono ?_
      clear cS
      rintro e w9 ⟨A, c9, rfl, hc9, hr9, hb9⟩
      have HR9 := Lib.hid (hr9.weaken (S' := fun j => w.heap.size ≤ j) IntR.stable (fun j hj => Nat.le_trans HS1.out hj))
      have HB9 := Lib.hid (HBA.out.trans (hb9.mono HBA.out.size))
      clear hr9 hb9
      go_wp2_with fail
      go_ret
      have hM := HML.out
      subst hM
      exact ⟨A, c9, rfl, hc9, HR9.out, HB9.out⟩
set_option maxHeartbeats 4000000 in
theorem missing_any {w : World} {va vc : Value} {r : RfI} {g : Nat → Bool} {N : Nat} (hN : CNt w vc N) (hW : WhC w va vc r g N) (hN2 : N ≤ 255) :
    Calls Tryz.prog 23 #[va, vc, .agg r.C] w fun e w' => e = .returned (.int .i64 ((missL g N).length : Nat)) ∧ Below w.heap.size w w' := by
  have hb0 : Below w.heap.size w (w.alloc (.cells r.C 38)) := (Below.refl _ _).alloc (Nat.le_refl _) _
  have hs := spots_any (hN.below hb0) (hW.below hb0) hN2
  obtain ⟨rk, rp, rg⟩ := r
  unfold RfI.C at hb0 hs ⊢
  dsimp only at hb0 hs ⊢
  have HB0 := Lib.hid hb0
  obtain ⟨M, hMl⟩ : ∃ M, (missL g N).length = M := ⟨_, rfl⟩
  rw [hMl] at hs ⊢
  clear hN hW hb0 hMl
  go_enter Tryz.func23, Tryz.ntmps23
  go_wp2_with fail
  refine hs.mono ?_
  clear hs
  rintro e w1 ⟨A, c, rfl, _, _, hb⟩
  have HB := Lib.hid (HB0.out.trans (hb.mono HB0.out.size))
  clear hb
  go_wp2_with fail
  go_ret
  exact ⟨rfl, HB.out⟩
end
end Go.Proofs.YtihnlhfngmbglaaGreat
namespace Go
section
variable {P : Program} {ops : Array Oper} {Q : Exit → Act → World → Prop} {md : Region.Mode} {S : World → Prop} {lst : List Nat}
theorem wpAnyL_firstI {i : Nat} {oi : Oper} {v : Value} (hi : ops[i]? = some oi) (hsel : ∀ (j : Nat) (o : Oper) cs b, ops[j]? = some o → o.op ≠ .select cs b)
    {I : Array Bool → Prop} (hI : ∀ (listed : Array Bool) (j : Nat), I listed → i ∈ Region.ready md ops listed → j ∈ Region.ready md ops listed → j ≠ i → j ∉ lst ∧ I (listed.setIfInBounds j true))
    (hQ : ∀ c a w, Q (.panic c) (a.put oi.dst v) w → Q (.panic c) a w) :
    ∀ (fuel : Nat) (listed : Array Bool) (a : Act) (w : World),
      (∀ j oj, ops[j]? = some oj → j ≠ i → listed.getD j true = false → (∀ e ∈ oj.after, Region.binds md e = true → e.on ≠ i) → oi.apart ops oj = true) →
      I listed → i ∈ Region.ready md ops listed → YieldsIf P ops S oi v a → S w →
      wpAnyL P md ops Q S lst fuel (listed.setIfInBounds i true) (a.put oi.dst v) w → wpAnyL P md ops Q S lst (fuel + 1) listed a w := by
  intro fuel
  induction fuel with
  | zero =>
    intro listed a w _ hIl hr hy hS H
    refine ⟨fun h => (by rw [h] at hr; cases hr), fun j hj => ?_⟩
    by_cases hji : j = i
    · subst hji; exact hy.wpOp hi hS ⟨fun _ => hS, H⟩
    · have := ready_mono hj hji
      rw [H.1] at this
      cases this
  | succ fuel ih =>
    intro listed a w hfree hIl hr hy hS H
    refine ⟨fun h => (by rw [h] at hr; cases hr), fun j hj => ?_⟩
    by_cases hji : j = i
    · subst hji; exact hy.wpOp hi hS ⟨fun _ => hS, H⟩
    · have h1 := H.2 j (ready_mono hj hji)
      obtain ⟨hnl, hI2⟩ := hI listed j hIl hr hj hji
      obtain ⟨hjun, oj, hoj, hall⟩ := mem_ready.1 hj
      have hnot : ∀ e ∈ oj.after, Region.binds md e = true → e.on ≠ i := fun e he hb heq => by
        have h1 := hall e he hb
        have h0 := (mem_ready.1 hr).1
        rw [heq] at h1
        rcases Nat.lt_or_ge i listed.size with h' | h'
        · simp [h'] at h0 h1; rw [h0] at h1; cases h1
        · simp [Array.getElem?_eq_none h'] at h1
      have h2 := wpOp_putIf hoj (hfree j oj hoj hji hjun hnot) (fun cs b => hsel i oi cs b hi) (fun cs b => hsel j oj cs b hoj) hQ hy h1
      have hfree' : ∀ k ok, ops[k]? = some ok → k ≠ i → (listed.setIfInBounds j true).getD k true = false →
          (∀ e ∈ ok.after, Region.binds md e = true → e.on ≠ i) → oi.apart ops ok = true := fun k ok hk hki hun hno => by
        refine hfree k ok hk hki ?_ hno
        by_cases hjk : j = k
        · subst hjk; exact hjun
        · rw [getD_set_ne true hjk] at hun; exact hun
      refine wpOp_mono (fun a' w' h3 => ⟨h3.2.1, ih (listed.setIfInBounds j true) a' w' hfree' hI2 (ready_mono hr (Ne.symm hji)) h3.1 (h3.2.1 hnl) ?_⟩) h2
      rw [Array.setIfInBounds_comm _ _ hji]
      exact h3.2.2

def Region.waitsFor2 (md : Region.Mode) (ops : Array Oper) (j i : Nat) : Bool := match ops[j]? with
  | some o => o.after.any fun e => Region.binds md e && e.on == i
  | none => true
/-- All of lst wait for i, or for m, which waits for i. -/
def Region.waitsBy (md : Region.Mode) (ops : Array Oper) (lst : List Nat) (m i : Nat) : Bool :=
  Region.waitsFor2 md ops m i && lst.all fun j => Region.waitsFor2 md ops j i || Region.waitsFor2 md ops j m
theorem waits_un {listed : Array Bool} {i j : Nat} (hw : Region.waitsFor2 md ops j i = true) (hr : j ∈ Region.ready md ops listed) (h0 : listed.getD i true = false) : False := by
  obtain ⟨_, oj, hoj, hall⟩ := mem_ready.1 hr
  unfold Region.waitsFor2 at hw
  rw [hoj] at hw
  obtain ⟨e, he, h2⟩ := Array.any_eq_true'.1 hw
  rw [Bool.and_eq_true, beq_iff_eq] at h2
  have h3 := hall e he h2.1
  rw [h2.2] at h3
  rcases Nat.lt_or_ge i listed.size with h' | h'
  · simp [h'] at h0 h3; rw [h0] at h3; cases h3
  · simp [Array.getElem?_eq_none h'] at h3
theorem wpAnyL_takeB {i : Nat} {oi : Oper} {v : Value} {fuel : Nat} {listed : Array Bool} {a : Act} {w : World} (m : Nat) (hi : ops[i]? = some oi)
    (hs : Region.noSelect ops = true) (hwt : Region.waitsBy md ops lst m i = true) (hmu : listed.getD m true = false) (hf : Region.free md ops listed i = true) (hr : (Region.ready md ops listed).contains i = true)
    (hQ : ∀ c a w, Q (.panic c) (a.put oi.dst v) w → Q (.panic c) a w) (hy : YieldsIf P ops S oi v a) (hS : S w)
    (h : wpAnyL P md ops Q S lst fuel (listed.setIfInBounds i true) (a.put oi.dst v) w) : wpAnyL P md ops Q S lst (fuel + 1) listed a w := by
  unfold Region.waitsBy at hwt
  rw [Bool.and_eq_true] at hwt
  obtain ⟨h1, h2⟩ := hwt
  refine wpAnyL_firstI hi (Region.noSelect_spec hs) (I := fun l => l.getD m true = false) (fun l j hIl hil hjl hji => ⟨fun hl => ?_, ?_⟩) hQ fuel listed a w (Region.free_spec hi hf) hmu (by simpa using hr) hy hS h
  · have h3 := List.all_eq_true.1 h2 j hl
    rw [Bool.or_eq_true] at h3
    rcases h3 with h3 | h3
    · exact waits_un h3 hjl (mem_ready.1 hil).1
    · exact waits_un h3 hjl hIl
  · have hjm : j ≠ m := fun e => by
      subst e
      exact waits_un h1 hjl (mem_ready.1 hil).1
    rw [getD_set_ne true hjm]
    exact hIl
end
end Go

set_option linter.unusedSimpArgs false
set_option linter.unusedVariables false
namespace Go.Proofs.YtihnlhfngmbglaaGreat
open Go.RowKit Go.Cib
attribute [local go_sem] cell_set Later.cell Later.frozen Grw.cell Grw.frozen
section
set_option maxRecDepth 100000 in
set_option maxHeartbeats 8000000 in
theorem over_any {w w1 : World} {va vc : Value} {S : Nat → Prop} {A : Option Addr} {n c N : Nat} {rs : List RfI} {gs : Nat → Nat → Bool} (hb : Below w.heap.size w w1) (R : RdL RfIR 3 S w A n rs) (hn : n ≤ 1000000) (hN : CNt w vc N) (hN2 : N ≤ 255)
    (hW : Hid (∀ i r, rs[i]? = some r → WhC w va vc r (gs i) N)) {f : FuncId} {cap : Array Value} (hff : Hid (∀ args w, (callFunc f args).run Tryz.prog w = .ok (.enter f args) w))
    {Inv : Nat → World → Prop} (h0 : Hid (Inv 0 w1)) (hIb : Hid (∀ i W W', Inv i W → Below W.heap.size W W' → Inv i W')) (hIw : Hid (∀ i W, Inv i W → Below w.heap.size w W))
    (hst : Hid (∀ i r W, rs[i]? = some r → Inv i W → Calls Tryz.prog f (#[.agg r.C, .int .i64 ((missL (gs i) N).length : Nat)] ++ cap) W fun e W' => e = .returned (.tuple #[]) ∧ Inv (i + 1) W')) :
    Calls Tryz.prog 61 #[va, vc, .slice A n c, .func (.func f) #[] cap] w1 fun e w' => e = .returned (.tuple #[]) ∧ Inv n w' := by
  have g1 := hff.out
  have HR := Lib.hid R
  have HN := Lib.hid hN
  have q0 : (n : Int) ≤ 1000000 := by omega
  clear R hN hb
  go_enter Tryz.func61, Tryz.ntmps61
  go_wp2_with fail
  go_loopw [12] (fun vi wr => ∃ (i : Nat), i ≤ n ∧ vi = .int .i64 i ∧ Hid (Inv i wr)) (fun vi _ => n - (intOf vi).toNat)
  case atStart => exact ⟨0, Nat.zero_le _, rfl, h0⟩
  case round =>
    obtain ⟨i, hi, rfl, HI⟩ := hrel
    have p0 : (0 : Int) ≤ (i : Int) := Int.natCast_nonneg _
    have HB := Lib.hid (hIw.out i wr HI.out)
    by_cases hlt : i < n
    · have p1 : (i : Int) < (n : Int) := by omega
      obtain ⟨b, o, x, eA, hx, hbl, _, x0, x1, x2⟩ := rfi_at (HR.out.below RfIR.stable HB.out) hlt
      subst eA
      have hw := hW.out i x hx
      have hst1 := fun W => hst.out i x W hx
      obtain ⟨rk, rp, rg⟩ := x
      dsimp only at x0 x1 x2
      have HB' := HB.out
      have hb2 : Below wr.heap.size wr (wr.alloc (.cells #[.int .u8 rk, .int .i64 rp, .int .u64 rg] 38)) := (Below.refl _ _).alloc (Nat.le_refl _) _
      have bR2 := BoxAt.new wr #[.int .u8 rk, .int .i64 rp, .int .u64 rg] 38
      obtain ⟨W2, hW2⟩ : ∃ W2, wr.alloc (.cells #[.int .u8 rk, .int .i64 rp, .int .u64 rg] 38) = W2 := ⟨_, rfl⟩
      rw [hW2] at hb2 bR2
      obtain ⟨q, hq⟩ : ∃ q, wr.heap.size = q := ⟨_, rfl⟩
      rw [hq] at bR2
      have hbw := HB'.trans (hb2.mono HB'.size)
      have hms := missing_any (HN.out.below hbw.drew) (hw.below hbw.drew) hN2
      have HI2 := Lib.hid (hIb.out i wr W2 HI.out hb2)
      have HST := Lib.hid hst1
      have hmn : (missL (gs i) N).length ≤ 255 := by
        have := List.length_filter_le (fun d => !gs i d) (List.range N)
        rw [List.length_range] at this
        unfold missL
        omega
      obtain ⟨M, hM⟩ : ∃ M, (missL (gs i) N).length = M := ⟨_, rfl⟩
      rw [hM] at hms HST hmn
      have s0 : W2.drew.cell? ⟨q, 0, none⟩ = some (.int .u8 rk) ∧ W2.drew.cell? ⟨q, 1, none⟩ = some (.int .i64 rp) ∧ W2.drew.cell? ⟨q, 2, none⟩ = some (.int .u64 rg) := ⟨bR2.cell 0, bR2.cell 1, bR2.cell 2⟩
      have BR2 := Lib.hid (bR2.below (Below.refl _ _).drew)
      have HId := Lib.hid (hIb.out i W2 W2.drew HI2.out (Below.refl _ _).drew)
      unfold RfI.C at hms HST
      dsimp only at hms HST
      clear hw hst1 hx HB' hb2 bR2 hbw hM HI HI2
      go_wp2_with fail
      refine wp_region_L (S := fun w' => w'.cell? ⟨q, 0, none⟩ = some (.int .u8 rk) ∧ w'.cell? ⟨q, 1, none⟩ = some (.int .i64 rp) ∧ w'.cell? ⟨q, 2, none⟩ = some (.int .u64 rg)) [6] (by kernel_rfl) (by first | exact s0 | exact s5) (fun hHeld => ?_)
      refine wpAnyL_take (i := 0) (v := ?_) rfl (by kernel_rfl) (by kernel_rfl) (by kernel_rfl) (by kernel_rfl) (fun _ _ _ h => h) (Or.inl ⟨by first | kernel_rfl | rfl, ?_⟩) (by assumption) ?_
      rotate_left
      · (intro wq0 hSw; (try dsimp only at hSw); (try simp (maxSteps := 2000000) only [zz1, zz2, zz3]); go_simp); try with_reducible rfl
      try simp (maxSteps := 2000000) only [zz1, zz2, zz3, Act.put, zz4, zz5, zz6]
      refine wpAnyL_take (i := 1) (v := ?_) rfl (by kernel_rfl) (by kernel_rfl) (by kernel_rfl) (by kernel_rfl) (fun _ _ _ h => h) (Or.inl ⟨by first | kernel_rfl | rfl, ?_⟩) (by assumption) ?_
      rotate_left
      · (intro wq0 hSw; (try dsimp only at hSw); (try simp (maxSteps := 2000000) only [zz1, zz2, zz3]); go_simp); try with_reducible rfl
      try simp (maxSteps := 2000000) only [zz1, zz2, zz3, Act.put, zz4, zz5, zz6]
      refine wpAnyL_takeB (i := 2) (v := ?_) 5 rfl (by kernel_rfl) (by kernel_rfl) (by kernel_rfl) (by kernel_rfl) (by kernel_rfl) (fun _ _ _ h => h) (Or.inl ⟨by first | kernel_rfl | rfl, ?_⟩) (by assumption) ?_
      rotate_left
      · (intro wq0 hSw; (try dsimp only at hSw); (try simp (maxSteps := 2000000) only [zz1, zz2, zz3]); go_simp); try with_reducible rfl
      try simp (maxSteps := 2000000) only [zz1, zz2, zz3, Act.put, zz4, zz5, zz6]
      refine wpAnyL_takeB (i := 3) (v := ?_) 5 rfl (by kernel_rfl) (by kernel_rfl) (by kernel_rfl) (by kernel_rfl) (by kernel_rfl) (fun _ _ _ h => h) (Or.inl ⟨by first | kernel_rfl | rfl, ?_⟩) (by assumption) ?_
      rotate_left
      · (intro wq0 hSw; (try dsimp only at hSw); (try simp (maxSteps := 2000000) only [zz1, zz2, zz3]); go_simp); try with_reducible rfl
      try simp (maxSteps := 2000000) only [zz1, zz2, zz3, Act.put, zz4, zz5, zz6]
      refine wpAnyL_takeB (i := 4) (v := ?_) 5 rfl (by kernel_rfl) (by kernel_rfl) (by kernel_rfl) (by kernel_rfl) (by kernel_rfl) (fun _ _ _ h => h) (Or.inl ⟨by first | kernel_rfl | rfl, ?_⟩) (by assumption) ?_
      rotate_left
      · (intro wq0 hSw; (try dsimp only at hSw); (try simp (maxSteps := 2000000) only [zz1, zz2, zz3]); go_simp); try with_reducible rfl
      try simp (maxSteps := 2000000) only [zz1, zz2, zz3, Act.put, zz4, zz5, zz6]
      refine wpAnyL_ready (rs := [5]) (by kernel_rfl) (by simp) ?_
      refine AllReadyL.cons rfl (fun K hK => ?_) AllReadyL.nil
      try simp (maxSteps := 2000000) only [zz1, zz2, zz3]
      go_simp
      go_at_call 23
      refine hms.mono ?_
      clear hms
      rintro e w5 ⟨rfl, hb5⟩
      have bR5 := BR2.out.below hb5
      have s5 : w5.cell? ⟨q, 0, none⟩ = some (.int .u8 rk) ∧ w5.cell? ⟨q, 1, none⟩ = some (.int .i64 rp) ∧ w5.cell? ⟨q, 2, none⟩ = some (.int .u64 rg) := ⟨bR5.cell 0, bR5.cell 1, bR5.cell 2⟩
      have HI5 := Lib.hid (hIb.out i _ w5 HId.out hb5)
      have hst5 := HST.out w5 HI5.out
      clear hb5 bR5
      try (go_wp2_with fail)
      refine hK.out _ _ (by first | exact s0 | exact s5) (fun hHeld => ?_)
      clear hK K
      try simp (maxSteps := 2000000) only [zz1, zz2, zz3, Act.put, zz4, zz5, zz6]
      refine wpAnyL_ready (rs := [6]) (by kernel_rfl) (by simp) ?_
      refine AllReadyL.last rfl (by decide) (fun K hK => ?_) AllReadyL.nil
      try simp (maxSteps := 2000000) only [zz1, zz2, zz3]
      go_simp
      refine hst5.mono ?_
      clear hst5
      rintro e w6 ⟨rfl, hI6⟩
      have HI6 := Lib.hid hI6
      clear hI6
      try (go_wp2_with fail)
      refine hK.out _ _ ?_
      clear hK K
      try simp (maxSteps := 2000000) only [zz1, zz2, zz3, Act.put, zz4, zz5, zz6]
      refine wpAnyL_done (by kernel_rfl) ?_ _
      go_wp2_with fail
      exact ⟨⟨i + 1, by omega, by go_num, HI6⟩, by simp [intOf]; omega⟩
    · have p1 : ¬ (i : Int) < (n : Int) := by omega
      obtain rfl : i = n := by omega
      go_wp2_with fail
      go_end0
      exact ⟨rfl, HI.out⟩
end
section
theorem run_max_l (ts : Array TypeId) (t : TypeId) (x y : Int) (w : World) : (Builtin.max_ ts t #[.int .i64 x, .int .i64 y]).run Tryz.prog w = .ok (.int .i64 (max x y)) w := by
  rw [run_max_int2, show (if x < y then y else x) = max x y by omega]
attribute [local go_sem ↓] run_max_l
section
variable {w : World}
theorem cm_any {cb b k m : Nat} (h : CodAt w cb b k m) : Calls Tryz.prog 58 #[.pointer (some ⟨cb, 0, none⟩)] w fun e w' => e = .returned (.int .i64 (m : Int)) ∧ Below w.heap.size w w' := by
  obtain ⟨A, c, h1, _⟩ := h.box
  have k1 : w.cell? ⟨cb, 1, none⟩ = some (.int .i64 (m : Int)) := h1.cell 1
  have hN := none_any h
  clear h h1
  go_enter Tryz.func58, Tryz.ntmps58
  go_wp2_with (go_at_call 121; refine hN.mono ?_; rintro e w9 ⟨rfl, hw9⟩; rw [hw9]; clear hw9)
  go_ret
  exact ⟨rfl, Below.refl _ _⟩
def CMt (w : World) (vc : Value) (m : Nat) : Prop := ∀ W, Below w.heap.size w W → Calls Tryz.prog 58 #[vc] W fun e w' => e = .returned (.int .i64 (m : Int)) ∧ Below W.heap.size W w'
theorem CMt.below {w' : World} {vc : Value} {m : Nat} (h : CMt w vc m) (hb : Below w.heap.size w w') : CMt w' vc m := fun W hW => h W (hb.trans (hW.mono hb.size))
def misN (gs : Nat → Nat → Bool) (N i : Nat) : Nat := (missL (gs i) N).length
theorem misN_le (gs : Nat → Nat → Bool) (N i : Nat) : misN gs N i ≤ N := by
  have := List.length_filter_le (fun d => !gs i d) (List.range N)
  rw [List.length_range] at this
  exact this
def sumM (gs : Nat → Nat → Bool) (N : Nat) : Nat → Nat
  | 0 => 0
  | i + 1 => sumM gs N i + misN gs N i
theorem sumM_le (gs : Nat → Nat → Bool) (N : Nat) : ∀ i, sumM gs N i ≤ i * N
  | 0 => Nat.zero_le _
  | i + 1 => by
    have h1 := sumM_le gs N i
    have h2 := misN_le gs N i
    rw [sumM, Nat.succ_mul]
    omega
theorem call_t1 (args : Array Value) (w : World) : (callFunc 62 args).run Tryz.prog w = .ok (.enter 62 args) w := by go_simp
theorem total1_any {t : Nat} {r : RfI} {x y : Nat} (hb : BoxAt w t #[.int .i64 (x : Int)]) (hx : x ≤ 1000000000) (hy : y ≤ 255) :
    Calls Tryz.prog 62 #[.agg r.C, .int .i64 (y : Int), .pointer (some ⟨t, 0, none⟩)] w fun e w' => e = .returned (.tuple #[]) ∧ BoxAt w' t #[.int .i64 ((x + y : Nat) : Int)] ∧ Keep (fun j => j = t) w w' := by
  obtain ⟨rk, rp, rg⟩ := r
  unfold RfI.C
  dsimp only
  have htl := hb.lt
  have k0 : w.cell? ⟨t, 0, none⟩ = some (.int .i64 (x : Int)) := hb.cell 0
  have z0 := hb.frozen 0
  have BT := Lib.hid hb
  have p0 : (x : Int) ≤ 1000000000 := by omega
  have p1 : (y : Int) ≤ 255 := by omega
  clear hb
  go_enter Tryz.func62, Tryz.ntmps62
  go_wp2_with fail
  go_end0
  refine ⟨rfl, ?_, ?_⟩
  · have := (BT.out.set 0 (.int .i64 ((x : Int) + (y : Int)))).alloc (.cells #[.int .u8 rk, .int .i64 rp, .int .u64 rg] 38)
    push_cast
    exact this
  · exact (Keep.setCell (F := fun j => j = t) (p := ⟨t, 0, none⟩) (Keep.refl _ _) (fun _ => rfl) _).alloc _
theorem ltotal_any {va vc : Value} {S : Nat → Prop} {A : Option Addr} {n c N : Nat} {rs : List RfI} {gs : Nat → Nat → Bool} (R : RdL RfIR 3 S w A n rs) (hn : n ≤ 1000000) (hN : CNt w vc N) (hN2 : N ≤ 255) (hW : Hid (∀ i r, rs[i]? = some r → WhC w va vc r (gs i) N)) :
    Calls Tryz.prog 19 #[va, vc, .slice A n c] w fun e w' => e = .returned (.int .i64 (sumM gs N n : Nat)) ∧ Below w.heap.size w w' := by
  have hb0 : Below w.heap.size w (w.alloc (.cells #[.int .i64 0] 3)) := (Below.refl _ _).alloc (Nat.le_refl _) _
  have bT := BoxAt.new w #[.int .i64 0] 3
  obtain ⟨W, hW0⟩ : ∃ W, w.alloc (.cells #[.int .i64 0] 3) = W := ⟨_, rfl⟩
  rw [hW0] at hb0 bT
  have hxl := R.1
  have hov := over_any (w := w) (w1 := W) (c := c) hb0 R hn hN hN2 hW (f := 62) (cap := #[.pointer (some ⟨w.heap.size, 0, none⟩)]) (Lib.hid call_t1) (Inv := fun i W' => Below w.heap.size w W' ∧ BoxAt W' w.heap.size #[.int .i64 (sumM gs N i : Nat)] ∧ i ≤ n ∨ n < i ∧ Below w.heap.size w W' )
    (Lib.hid (.inl ⟨hb0, bT, Nat.zero_le _⟩))
    (Lib.hid fun i W1 W2 h hb => by
      rcases h with ⟨h1, h2, h3⟩ | ⟨h1, h2⟩
      · exact .inl ⟨h1.trans (hb.mono h1.size), h2.below hb, h3⟩
      · exact .inr ⟨h1, h2.trans (hb.mono h2.size)⟩)
    (Lib.hid fun i W1 h => by
      rcases h with ⟨h1, _⟩ | ⟨_, h2⟩
      · exact h1
      · exact h2)
    (Lib.hid fun i r W1 hr h => by
      have hi : i < n := by rw [← hxl]; exact (List.getElem?_eq_some_iff.1 hr).1
      rcases h with ⟨h1, h2, h3⟩ | ⟨h1, _⟩
      · have hs := sumM_le gs N i
        have hm := misN_le gs N i
        have : i * N ≤ 1000000 * 255 := Nat.mul_le_mul (by omega) hN2
        refine (total1_any (r := r) (y := misN gs N i) h2 (by omega) (by omega)).mono ?_
        rintro e w' ⟨rfl, hb, hk⟩
        exact ⟨rfl, .inl ⟨h1.trans (hk.below h1.size (fun j hj => by rw [hj]; exact Nat.le_refl _)), hb, by omega⟩⟩
      · omega)
  have q0 : ¬ n < n := by omega
  have HW0 := Lib.hid hW0
  have HOV := Lib.hid hov
  have HS0 := Lib.hid (show (0 : Int) = ((sumM gs N 0 : Nat) : Int) from rfl)
  clear hov hW hN hb0 bT R hW0
  go_enter Tryz.func19, Tryz.ntmps19
  go_wp2_with fail
  rw [HW0.out]
  refine HOV.out.mono ?_
  clear HOV
  rintro e w1 ⟨rfl, ⟨h1, h2, _⟩ | ⟨h1, _⟩⟩
  · have k0 := h2.cell 0
    have HB := Lib.hid h1
    clear h1 h2
    go_wp2_with fail
    go_ret
    exact ⟨rfl, HB.out⟩
  · omega
end
end
section
theorem OwnL.kpL {T : Type} {R : (Nat → Prop) → World → List Value → T → Prop} {E : TypeId} {s base n : Nat} {X S S' : Nat → Prop} {w w' : World} {v : Value} {xs : List T} (hR : Stable R) (h : OwnL R E s base S w v n xs) (hk : KpX X w w')
    (hv : ∀ g, v.ownBlock = some g → X g) (hS : ∀ b, S b → b < w.heap.size → X b ∧ S' b) : OwnL R E s base S' w' v n xs := by
  obtain ⟨css, h1, h2, h3, h4, h5⟩ := h
  refine ⟨css, ⟨h1.1, ?_⟩, h2, h3, h4, fun i cs x hc hx => ?_⟩
  · rcases h1.2 with h | ⟨g, cap, cur, rfl, g1, g2, g3⟩
    · exact .inl h
    · exact .inr ⟨g, cap, cur, rfl, g1, (hk.1 g (hv g rfl)).trans g2, g3⟩
  · exact hR _ _ _ _ _ _ (h5 i cs x hc hx) fun b hb hl => ⟨⟨(hS b hb.1 hl).2, hb.2⟩, hk.1 b (hS b hb.1 hl).1⟩
def lostL (gs : Nat → Nat → Bool) (N m : Nat) (rs : List RfI) : Nat → List RfI
  | 0 => []
  | i + 1 => lostL gs N m rs i ++ if m < misN gs N i then [rs.getD i RfI.none_] else []
theorem lostL_len (gs : Nat → Nat → Bool) (N m : Nat) (rs : List RfI) : ∀ i, (lostL gs N m rs i).length ≤ i
  | 0 => Nat.le_refl _
  | i + 1 => by
    have := lostL_len gs N m rs i
    rw [lostL, List.length_append]
    split <;> simp <;> omega
theorem call_l1 (args : Array Value) (w : World) : (callFunc 71 args).run Tryz.prog w = .ok (.enter 71 args) w := by go_simp
set_option maxHeartbeats 4000000 in
theorem lost1_any {w w0 : World} {vc : Value} {m t q base l : Nat} {r : RfI} {y : Nat} {xs : List RfI} {A : Option Addr} {c : Nat} (hw : Below w0.heap.size w0 w) (hm : CMt w0 vc m) (hq : BoxAt w q #[vc]) (ht : BoxAt w t #[.slice A l c]) (hl : l ≤ 1000000) (hlc : l ≤ c)
    (hO : OwnL RfIR 38 3 base (fun j => base ≤ j) w (.slice A l c) l xs) (htb : t < base) (hqb : q < base) (hqt : q ≠ t) (h0t : w0.heap.size ≤ t) (hbs0 : base ≤ w.heap.size) :
    Calls Tryz.prog 71 #[.agg r.C, .int .i64 (y : Int), .pointer (some ⟨q, 0, none⟩), .pointer (some ⟨t, 0, none⟩)] w fun e w' => e = .returned (.tuple #[]) ∧ Below w0.heap.size w0 w' ∧ w.heap.size ≤ w'.heap.size ∧ BoxAt w' q #[vc] ∧
      ∃ A' l' c', BoxAt w' t #[.slice A' l' c'] ∧ l' ≤ c' ∧ OwnL RfIR 38 3 base (fun j => base ≤ j) w' (.slice A' l' c') l' (xs ++ if m < y then [r] else []) := by
  obtain ⟨rk, rp, rg⟩ := r
  unfold RfI.C
  dsimp only
  have hb1 : Below w.heap.size w (w.alloc (.cells #[.int .u8 rk, .int .i64 rp, .int .u64 rg] 38)) := (Below.refl _ _).alloc (Nat.le_refl _) _
  have bR := BoxAt.new w #[.int .u8 rk, .int .i64 rp, .int .u64 rg] 38
  obtain ⟨W, hW⟩ : ∃ W, w.alloc (.cells #[.int .u8 rk, .int .i64 rp, .int .u64 rg] 38) = W := ⟨_, rfl⟩
  rw [hW] at hb1 bR
  have hbw := hw.trans (hb1.mono hw.size)
  have hmm := hm W hbw
  have bq1 := hq.below hb1
  have bt1 := ht.below hb1
  have HO1 := Lib.hid (hO.keep RfIR.stable hb1)
  have k0 := bq1.cell 0
  have HB1 := Lib.hid hbw
  have BQ1 := Lib.hid bq1
  have BT1 := Lib.hid bt1
  obtain ⟨z, hz⟩ : ∃ z, w.heap.size = z := ⟨_, rfl⟩
  rw [hz] at bR
  have BR1 := Lib.hid bR
  have HWS := Lib.hid (Nat.le_trans hbs0 hb1.size)
  have HWZ := Lib.hid hb1.size
  clear hb1 bR hbw bq1 bt1 hq ht hO hm hw hbs0
  by_cases hlt : m < y
  · have p0 : (y : Int) > (m : Int) := by omega
    rw [if_pos hlt]
    go_enter Tryz.func71, Tryz.ntmps71
    go_wp2_with fail
    refine hmm.mono ?_
    clear hmm k0
    rintro e w2 ⟨rfl, hb2⟩
    have HB2 := Lib.hid (HB1.out.trans (hb2.mono HB1.out.size))
    have bQ2 := BQ1.out.below hb2
    have bT2 := BT1.out.below hb2
    have bR2 := BR1.out.below hb2
    have HO2 := Lib.hid (HO1.out.keep RfIR.stable hb2)
    have t0 := bT2.cell 0
    have k0 : w2.cell? ⟨z, 0, none⟩ = some (.int .u8 rk) := bR2.cell 0
    have k1 : w2.cell? ⟨z, 1, none⟩ = some (.int .i64 rp) := bR2.cell 1
    have k2 : w2.cell? ⟨z, 2, none⟩ = some (.int .u64 rg) := bR2.cell 2
    have hbs : base ≤ w2.heap.size := by have := hb2.size; have := HWS.out; omega
    have HT2 := Lib.hid bT2
    have HZ2 := Lib.hid (Nat.le_trans HWZ.out hb2.size)
    have HQ2 := Lib.hid bQ2
    have hgb : w0.heap.size ≤ base := by omega
    clear hb2 bR2 bT2 bQ2
    go_wp2_with (at_builtin; go_must (refine wpList_push1 RfIR.stable RfIR.one sl_rfi (by rfl) (by rfl) (base := base) (S := fun j => base ≤ j) (cs := #[.int .u8 rk, .int .i64 rp, .int .u64 rg]) (y := ⟨rk, rp, rg⟩) (by rfl) (by rfl) HO2.out (by rfl) (by rfl) (by unfold maxLen; omega) (by omega) hbs ?_); intro A8 c8 ug hc8 own9 hlt8 hb8 hat8; have HO9 := Lib.hid own9; have HB9 := Lib.hid (HB2.out.trans (hb8.mono hgb)); have HZ9 := Lib.hid (Nat.le_trans HZ2.out hb8.size); have hnt : some t ≠ Value.ownBlock (.slice A l c) := fun e => by { have := HO2.out.lt t e.symm; omega }; have hnq : some q ≠ Value.ownBlock (.slice A l c) := fun e => by { have := HO2.out.lt q e.symm; omega }; have hT9 := HT2.out.grw ug.ok hnt; have HQ9 := Lib.hid (HQ2.out.grw ug.ok hnq); have HT9 := Lib.hid hT9; have t1 := hT9.cell 0; have z1 := hT9.frozen 0; clear own9 hb8 hat8 hlt8 hT9 hnt hnq)
    go_end0
    refine ⟨rfl, HB9.out.setCell (p := ⟨t, 0, none⟩) h0t _, by rw [World.size_setCell]; exact HZ9.out, HQ9.out.set_other hqt _, A8, l + 1, c8, HT9.out.set 0 _, hc8, ?_⟩
    exact OwnL.kpL RfIR.stable HO9.out (X := fun j => base ≤ j) ⟨fun j hj => Below.heap_setCell _ _ _ _ (fun e => by have e2 : j = t := e; omega), by rw [World.size_setCell]; exact Nat.le_refl _⟩ (fun g hg => (HO9.out.lt g hg).1) (fun b hb _ => ⟨hb, hb⟩)
  · have p0 : ¬ (y : Int) > (m : Int) := by omega
    rw [if_neg hlt, List.append_nil]
    go_enter Tryz.func71, Tryz.ntmps71
    go_wp2_with fail
    refine hmm.mono ?_
    clear hmm k0
    rintro e w2 ⟨rfl, hb2⟩
    have HB2 := Lib.hid (HB1.out.trans (hb2.mono HB1.out.size))
    have HZ2 := Lib.hid (Nat.le_trans HWZ.out hb2.size)
    have HQ2 := Lib.hid (BQ1.out.below hb2)
    have HT2 := Lib.hid (BT1.out.below hb2)
    have HO2 := Lib.hid (HO1.out.keep RfIR.stable hb2)
    clear hb2
    go_wp2_with fail
    go_end0
    exact ⟨rfl, HB2.out, HZ2.out, HQ2.out, A, l, c, HT2.out, hlc, HO2.out⟩
set_option maxHeartbeats 4000000 in
theorem llost_any {w : World} {pc : Option Addr} {va : Value} {S : Nat → Prop} {A : Option Addr} {n c N m : Nat} {rs : List RfI} {gs : Nat → Nat → Bool} (R : RdL RfIR 3 S w A n rs) (hn : n ≤ 1000000) (hN : CNt w (.pointer pc) N) (hN2 : N ≤ 255) (hW : Hid (∀ i r, rs[i]? = some r → WhC w va (.pointer pc) r (gs i) N)) (hm : CMt w (.pointer pc) m) :
    Calls Tryz.prog 29 #[va, .pointer pc, .slice A n c] w fun e w' => ∃ A' l' c', e = .returned (.slice A' l' c') ∧ l' ≤ c' ∧ RdL RfIR 3 (fun j => w.heap.size ≤ j) w' A' l' (lostL gs N m rs n) ∧ Below w.heap.size w w' := by
  obtain ⟨W, hW0⟩ : ∃ W, (w.alloc (.cells #[.pointer pc] 30)).alloc (.cells #[.slice none 0 0] 34) = W := ⟨_, rfl⟩
  have hb0 : Below w.heap.size w W := by rw [← hW0]; exact (by repeat (first | (with_reducible exact Below.refl _ _) | (with_reducible assumption) | (with_reducible refine Below.drew ?_) | (with_reducible refine Below.setCell ?_ ?_ _) | (with_reducible refine Below.alloc ?_ ?_ _) | (with_reducible refine Below.later ?_ ?_ _) | (first | (with_reducible exact Nat.le_refl _) | omega | (simp only [World.size_alloc, World.size_setCell, World.size_drew] <;> omega))))
  have bQ : BoxAt W w.heap.size #[.pointer pc] := by rw [← hW0]; exact (BoxAt.new w _ _).alloc _
  have bT : BoxAt W (w.heap.size + 1) #[.slice none 0 0] := by
    rw [← hW0]
    have := BoxAt.new (w.alloc (.cells #[.pointer pc] 30)) #[.slice none 0 0] 34
    rwa [World.size_alloc] at this
  have hsz : W.heap.size = w.heap.size + 2 := by rw [← hW0, World.size_alloc, World.size_alloc]
  have hxl := R.1
  have hov := over_any (w := w) (w1 := W) (c := c) hb0 R hn hN hN2 hW (f := 71) (cap := #[.pointer (some ⟨w.heap.size, 0, none⟩), .pointer (some ⟨w.heap.size + 1, 0, none⟩)]) (Lib.hid call_l1)
    (Inv := fun i W' => Below w.heap.size w W' ∧ BoxAt W' w.heap.size #[.pointer pc] ∧ W.heap.size ≤ W'.heap.size ∧ ∃ A' l' c', BoxAt W' (w.heap.size + 1) #[.slice A' l' c'] ∧ l' ≤ c' ∧ OwnL RfIR 38 3 W.heap.size (fun j => W.heap.size ≤ j) W' (.slice A' l' c') l' (lostL gs N m rs i))
    (Lib.hid ⟨hb0, bQ, Nat.le_refl _, none, 0, 0, bT, Nat.le_refl _, OwnL.nil_⟩)
    (Lib.hid fun i W1 W2 h hb => by
      obtain ⟨h1, h2, h3, A', l', c', h4, h5, h6⟩ := h
      exact ⟨h1.trans (hb.mono h1.size), h2.below hb, Nat.le_trans h3 hb.size, A', l', c', h4.below hb, h5, h6.keep RfIR.stable hb⟩)
    (Lib.hid fun i W1 h => h.1)
    (Lib.hid fun i r W1 hr h => by
      have hi : i < n := by rw [← hxl]; exact (List.getElem?_eq_some_iff.1 hr).1
      obtain ⟨h1, h2, h3, A', l', c', h4, h5, h6⟩ := h
      have hll := lostL_len gs N m rs i
      rw [h6.len] at hll
      refine (lost1_any (r := r) (y := misN gs N i) h1 hm h2 h4 (by omega) h5 h6 (by omega) (by omega) (by omega) (by omega) h3).mono ?_
      rintro e w' ⟨rfl, hb, hz, hq, A2, l2, c2, ht, hlc, hO⟩
      refine ⟨rfl, hb, hq, Nat.le_trans h3 hz, A2, l2, c2, ht, hlc, ?_⟩
      rw [lostL, List.getD_eq_getElem?_getD, hr]
      exact hO)
  have HW0 := Lib.hid hW0
  have HOV := Lib.hid hov
  have HSZ := Lib.hid hsz
  have HB0 := Lib.hid hb0
  clear hov hW hN hb0 bQ bT R hm hsz hW0
  go_enter Tryz.func29, Tryz.ntmps29
  go_wp2_with fail
  rw [HW0.out]
  refine HOV.out.mono ?_
  clear HOV
  rintro e w1 ⟨rfl, h1, h2, h3, A', l', c', h4, h5, h6⟩
  have k0 := h4.cell 0
  have HB := Lib.hid h1
  have HO := Lib.hid h6
  clear h1 h2 h3 h4 h6
  go_wp2_with fail
  go_ret
  obtain ⟨A2, c2, e, h, hr⟩ := HO.out.rd (S' := fun j => w.heap.size ≤ j) (fun k hk => by have := HSZ.out; omega) (fun cs x hx => hx)
  injection e with e1 _ e2
  subst e1; subst e2
  exact ⟨A', l', c', rfl, h5, hr, HB.out⟩
end
section
set_option maxHeartbeats 4000000 in
theorem sleast_any {w : World} {S : Nat → Prop} {A : Option Addr} {n c : Nat} {xs : List RfI} (R : RdL RfIR 3 S w A n xs) (hn : n ≤ 1000000) {g : FuncId} {cap : Array Value} {is : Nat → Bool} (hgg : Hid (∀ args w, (callFunc g args).run Tryz.prog w = .ok (.enter g args) w))
    (hgi : Hid (∀ i x W, xs[i]? = some x → Below w.heap.size w W → Calls Tryz.prog g (#[.agg x.C] ++ cap) W fun e W' => e = .returned (.bool (is i)) ∧ Below W.heap.size W W')) :
    Calls Tryz.prog 114 #[.slice A n c, .func (.func g) #[] cap, .func (.func 113) #[.slice A n c] #[]] w fun e w' => e = .returned (.tuple #[.int .i64 ((lstF is (plF xs) n).1 : Nat), .bool (lstF is (plF xs) n).2]) ∧ Below w.heap.size w w' := by
  have g1 := hgg.out
  have g2 := call_sl
  have q0 : (n : Int) ≤ 1000000 := by omega
  have HR := Lib.hid R
  clear R
  go_enter Tryz.func114, Tryz.ntmps114
  go_wp2_with fail
  go_loopw [8, 9, 14] (fun vb vf vi wr => ∃ (i : Nat), i ≤ n ∧ vi = .int .i64 i ∧ vb = .int .i64 ((lstF is (plF xs) i).1 : Nat) ∧ vf = .bool (lstF is (plF xs) i).2 ∧ Hid (Below w.heap.size w wr)) (fun _ _ vi _ => n - (intOf vi).toNat)
  case atStart => exact ⟨0, Nat.zero_le _, rfl, rfl, rfl, Lib.hid (Below.refl _ _)⟩
  case round =>
    obtain ⟨i, hi, rfl, rfl, rfl, HB⟩ := hrel
    have p0 : (0 : Int) ≤ (i : Int) := Int.natCast_nonneg _
    by_cases hlt : i < n
    · have p1 : (i : Int) < (n : Int) := by omega
      have hle := lstF_le is (plF xs) i
      have HNX := Lib.hid (show lstF is (plF xs) (i + 1) = if is i = true ∧ ((lstF is (plF xs) i).2 = false ∨ plF xs i < plF xs (lstF is (plF xs) i).1) then (i, true) else lstF is (plF xs) i from rfl)
      have HLT := Lib.hid (lstF_lt is (plF xs) i)
      obtain ⟨⟨bi, bf⟩, hbi⟩ : ∃ y, lstF is (plF xs) i = y := ⟨_, rfl⟩
      rw [hbi] at HNX HLT hle ⊢
      dsimp only at HNX HLT hle ⊢
      have p2 : (bi : Int) ≤ (n : Int) := by omega
      have p3 : (0 : Int) ≤ (bi : Int) := Int.natCast_nonneg _
      obtain ⟨b, o, x, eA, hx, hbl, _, x0, x1, x2⟩ := rfi_at (HR.out.below RfIR.stable HB.out) hlt
      have hgi1 := fun W hW => hgi.out i x W hx hW
      have HR1 := Lib.hid (HR.out.below RfIR.stable HB.out)
      have hls := fun W (hW : Below w.heap.size w W) (hh : bi < n) => sless_any (c := c) (HR.out.below RfIR.stable hW) hn hlt hh
      subst eA
      have HBI := Lib.hid hbi
      obtain ⟨rk, rp, rg⟩ := x
      unfold RfI.C at hgi1
      dsimp only at hgi1 x0 x1 x2
      have hb1 : Below w.heap.size w (wr.alloc (.cells #[.int .u8 rk, .int .i64 rp, .int .u64 rg] 38)) := HB.out.alloc HB.out.size _
      clear hbi hx
      cases hii : is i with
      | false =>
        rw [hii] at hgi1
        rw [hii, if_neg (by simp)] at HNX
        clear hii
        go_wp2_with fail
        refine (hgi1 _ hb1).mono ?_
        clear hgi1
        rintro e w3 ⟨rfl, hb3⟩
        have HB3 := Lib.hid (hb1.trans (hb3.mono hb1.size))
        clear hb3 hb1 x0 x1 x2
        go_wp2_with fail
        exact ⟨⟨i + 1, by omega, by go_num, by rw [HNX.out], by rw [HNX.out], HB3⟩, by simp [intOf]; omega⟩
      | true =>
        rw [hii] at hgi1
        rw [hii] at HNX
        clear hii
        have h3 : (wr.alloc (.cells #[.int .u8 rk, .int .i64 rp, .int .u64 rg] 38)).cell? ⟨wr.heap.size, 0, none⟩ = some (.int .u8 rk) := by go_simp
        cases bf with
        | false =>
          rw [if_pos ⟨rfl, .inl rfl⟩] at HNX
          go_wp2_with fail
          refine (hgi1 _ hb1).mono ?_
          clear hgi1
          rintro e w3 ⟨rfl, hb3⟩
          have HB3 := Lib.hid (hb1.trans (hb3.mono hb1.size))
          clear hb3 hb1 x0 x1 x2
          go_wp2_with fail
          exact ⟨⟨i + 1, by omega, by go_num, by rw [HNX.out], by rw [HNX.out], HB3⟩, by simp [intOf]; omega⟩
        | true =>
          have hbn : bi < n := by have := HLT.out rfl; omega
          have hl1 := fun W hW => hls W hW hbn
          by_cases hpl : plF xs i < plF xs bi
          · rw [if_pos ⟨rfl, .inr hpl⟩] at HNX
            rw [decide_eq_true hpl] at hl1
            clear hpl hls
            go_wp2_with fail
            refine (hgi1 _ hb1).mono ?_
            clear hgi1
            rintro e w3 ⟨rfl, hb3⟩
            have hb4 := hb1.trans (hb3.mono hb1.size)
            clear hb3 hb1 x0 x1 x2
            go_wp2_with fail
            refine (hl1 _ hb4).mono ?_
            clear hl1
            rintro e w4 ⟨rfl, hb5⟩
            have HB5 := Lib.hid (hb4.trans (hb5.mono hb4.size))
            clear hb4 hb5
            go_wp2_with fail
            exact ⟨⟨i + 1, by omega, by go_num, by rw [HNX.out], by rw [HNX.out], HB5⟩, by simp [intOf]; omega⟩
          · rw [if_neg (by simp [hpl])] at HNX
            rw [decide_eq_false hpl] at hl1
            clear hpl hls
            go_wp2_with fail
            refine (hgi1 _ hb1).mono ?_
            clear hgi1
            rintro e w3 ⟨rfl, hb3⟩
            have hb4 := hb1.trans (hb3.mono hb1.size)
            clear hb3 hb1 x0 x1 x2
            go_wp2_with fail
            refine (hl1 _ hb4).mono ?_
            clear hl1
            rintro e w4 ⟨rfl, hb5⟩
            have HB5 := Lib.hid (hb4.trans (hb5.mono hb4.size))
            clear hb4 hb5
            go_wp2_with fail
            exact ⟨⟨i + 1, by omega, by go_num, by rw [HNX.out], by rw [HNX.out], HB5⟩, by simp [intOf]; omega⟩
    · have p1 : ¬ (i : Int) < (n : Int) := by omega
      obtain rfl : i = n := by omega
      go_wp2_with fail
      go_ret2
      exact ⟨rfl, HB.out⟩
def aboveF (began : Bool) (place : Int) (xs : List RfI) (i : Nat) : Bool := !began || decide (plF xs i > place)
/-- Which is next: its number. -/
def nextN (began : Bool) (place : Int) (xs : List RfI) : Option Nat :=
  if (lstF (aboveF began place xs) (plF xs) xs.length).2 = true then some (lstF (aboveF began place xs) (plF xs) xs.length).1
  else if (lstF (fun _ => true) (plF xs) xs.length).2 = true then some (lstF (fun _ => true) (plF xs) xs.length).1 else none
def nextR (began : Bool) (place : Int) (xs : List RfI) : RfI × Bool :=
  match nextN began place xs with
  | some i => (xs.getD i RfI.none_, true)
  | none => (RfI.none_, false)
theorem snone_any {w : World} {s : Nat} {began : Bool} {place turns : Int} (hs : BoxAt w s (scrC began place turns)) :
    Calls Tryz.prog 82 #[.pointer (some ⟨s, 0, none⟩)] w fun e w' => e = .returned (.bool false) ∧ w' = w := by
  have s0 : w.cell? ⟨s, 0, none⟩ = some (.bool true) := hs.cell 0
  clear hs
  go_enter Tryz.func82, Tryz.ntmps82
  go_wp2_with fail
  go_ret
  exact ⟨rfl, rfl⟩
theorem sturns_any {w : World} {s : Nat} {began : Bool} {place turns : Int} (hs : BoxAt w s (scrC began place turns)) :
    Calls Tryz.prog 39 #[.pointer (some ⟨s, 0, none⟩)] w fun e w' => e = .returned (.int .i64 turns) ∧ w' = w := by
  have s3 : w.cell? ⟨s, 3, none⟩ = some (.int .i64 turns) := hs.cell 3
  have hn := snone_any hs
  clear hs
  go_enter Tryz.func39, Tryz.ntmps39
  go_wp2_with fail
  refine hn.mono ?_
  clear hn
  rintro e w1 ⟨rfl, h1⟩
  subst h1
  go_wp2_with fail
  go_ret
  exact ⟨rfl, rfl⟩
theorem snew_any {w : World} : Calls Tryz.prog 37 #[] w fun e w' => ∃ s, e = .returned (.pointer (some ⟨s, 0, none⟩)) ∧ w.heap.size ≤ s ∧ BoxAt w' s (scrC false 0 0) ∧ Below w.heap.size w w' := by
  go_enter Tryz.func37, Tryz.ntmps37
  go_wp2_with fail
  go_ret
  exact ⟨_, rfl, Nat.le_refl _, BoxAt.new _ _ _, (by repeat (first | (with_reducible exact Below.refl _ _) | (with_reducible assumption) | (with_reducible refine Below.drew ?_) | (with_reducible refine Below.setCell ?_ ?_ _) | (with_reducible refine Below.alloc ?_ ?_ _) | (with_reducible refine Below.later ?_ ?_ _) | (first | (with_reducible exact Nat.le_refl _) | omega | (simp only [World.size_alloc, World.size_setCell, World.size_drew] <;> omega))))⟩
set_option maxHeartbeats 4000000 in
theorem snext_any {w : World} {s : Nat} {began : Bool} {place turns : Int} {S : Nat → Prop} {A : Option Addr} {n c : Nat} {xs : List RfI} (hs : BoxAt w s (scrC began place turns)) (R : RdL RfIR 3 S w A n xs) (hn : n ≤ 1000000) (hnc : n ≤ c) :
    Calls Tryz.prog 52 #[.pointer (some ⟨s, 0, none⟩), .slice A n c] w fun e w' => e = .returned (.tuple #[.agg (nextR began place xs).1.C, .bool (nextR began place xs).2]) ∧ Below w.heap.size w w' := by
  have hno := fun W (hW : Below w.heap.size w W) => snone_any (hs.below hW)
  have hxl := R.1
  obtain ⟨W, hW⟩ : ∃ W, (w.alloc (.cells #[.pointer (some ⟨s, 0, none⟩)] 63)).alloc (.cells #[.int .u8 0, .int .i64 0, .int .u64 0] 38) = W := ⟨_, rfl⟩
  have hb0 : Below w.heap.size w W := by rw [← hW]; exact (by repeat (first | (with_reducible exact Below.refl _ _) | (with_reducible assumption) | (with_reducible refine Below.drew ?_) | (with_reducible refine Below.setCell ?_ ?_ _) | (with_reducible refine Below.alloc ?_ ?_ _) | (with_reducible refine Below.later ?_ ?_ _) | (first | (with_reducible exact Nat.le_refl _) | omega | (simp only [World.size_alloc, World.size_setCell, World.size_drew] <;> omega))))
  have bP : BoxAt W w.heap.size #[.pointer (some ⟨s, 0, none⟩)] := by rw [← hW]; exact (BoxAt.new w _ _).alloc _
  have bN : BoxAt W (w.heap.size + 1) #[.int .u8 0, .int .i64 0, .int .u64 0] := by
    rw [← hW]
    have := BoxAt.new (w.alloc (.cells #[.pointer (some ⟨s, 0, none⟩)] 63)) #[.int .u8 0, .int .i64 0, .int .u64 0] 38
    rwa [World.size_alloc] at this
  obtain ⟨q, hq⟩ : ∃ q, w.heap.size = q := ⟨_, rfl⟩
  have hs1 : w.heap.size ≤ q := by omega
  have HNO := Lib.hid (hno W hb0)
  have g1 := call_sn1
  have g2 := call_sn2
  have HB0 := Lib.hid hb0
  have HS := Lib.hid (hs.below hb0)
  have HR := Lib.hid (R.below RfIR.stable hb0)
  have HXL := Lib.hid hxl
  rw [hq] at bP bN
  have HQ := Lib.hid hq
  have BN := Lib.hid bN
  have BP := Lib.hid bP
  have h1 : (w.alloc (.cells #[.pointer (some ⟨s, 0, none⟩)] 63)).heap.size = q + 1 := by rw [World.size_alloc, hq]
  have HL1 := Lib.hid (sleast_any (c := c) (g := 115) (cap := #[.pointer (some ⟨q, 0, none⟩)]) (is := aboveF began place xs) HR.out hn (Lib.hid call_sn1) (Lib.hid fun i x W2 hx hW2 => by
    have := sn1_any (r := x) (BP.out.below hW2) (HS.out.below hW2)
    unfold aboveF
    rw [plF_at hx]
    exact this))
  have HL2 := Lib.hid (fun W2 (hW2 : Below W.heap.size W W2) => sleast_any (c := c) (g := 116) (cap := #[]) (is := fun _ => true) (HR.out.below RfIR.stable hW2) hn (Lib.hid call_sn2) (Lib.hid fun i x W3 hx hW3 => sn2_any))
  have HN := Lib.hid (show nextN began place xs = if (lstF (aboveF began place xs) (plF xs) n).2 = true then some (lstF (aboveF began place xs) (plF xs) n).1
  else if (lstF (fun _ => true) (plF xs) n).2 = true then some (lstF (fun _ => true) (plF xs) n).1 else none by unfold nextN; rw [hxl])
  have HLT1 := Lib.hid (lstF_lt (aboveF began place xs) (plF xs) n)
  have HLT2 := Lib.hid (lstF_lt (fun _ => true) (plF xs) n)
  clear hno hxl hb0 bP bN hs R hs1
  have k0 : W.cell? ⟨q, 0, none⟩ = some (.pointer (some ⟨s, 0, none⟩)) := BP.out.cell 0
  go_enter Tryz.func52, Tryz.ntmps52
  go_wp2_with fail
  refine HNO.out.mono ?_
  clear HNO
  rintro e w1 ⟨rfl, h1⟩
  subst h1
  obtain ⟨⟨l1, o1⟩, hl1⟩ : ∃ y, lstF (aboveF began place xs) (plF xs) n = y := ⟨_, rfl⟩
  rw [hl1] at HL1 HN HLT1
  obtain ⟨⟨l2, o2⟩, hl2⟩ : ∃ y, lstF (fun _ => true) (plF xs) n = y := ⟨_, rfl⟩
  rw [hl2] at HN HLT2
  clear hl1
  have HL2e := Lib.hid hl2
  clear hl2
  dsimp only at HN HLT1 HLT2
  cases o1 with
  | true =>
    rw [if_pos rfl] at HN
    go_wp2_with fail
    refine HL1.out.mono ?_
    clear HL1
    rintro e w2 ⟨rfl, hb2⟩
    have hl := HLT1.out trivial
    obtain ⟨b, o, x, eA, hx, hbl, _, x0, x1, x2⟩ := rfi_at (HR.out.below RfIR.stable hb2) hl
    subst eA
    have p0 : (0 : Int) ≤ (l1 : Int) := Int.natCast_nonneg _
    have p1 : (l1 : Int) < (n : Int) := by omega
    have bN2 := BN.out.below hb2
    have n0 := bN2.cell 0
    have n1 := bN2.cell 1
    have n2 := bN2.cell 2
    have z0 := bN2.frozen 0
    have z1 := bN2.frozen 1
    have z2 := bN2.frozen 2
    have HE := Lib.hid (show nextR began place xs = (x, true) by unfold nextR; rw [HN.out]; dsimp only; rw [List.getD_eq_getElem?_getD, hx]; rfl)
    have HB2 := Lib.hid (HB0.out.trans (hb2.mono HB0.out.size))
    obtain ⟨rk, rp, rg⟩ := x
    dsimp only at x0 x1 x2
    clear hx hb2 bN2 hl
    go_wp2_with fail
    refine bodyPost_ret (v := .tuple #[.agg #[.int .u8 rk, .int .i64 rp, .int .u64 rg], .bool true]) (by simp [results, Tryz.results52, go_sem, *]) rfl ?_
    rw [HE.out]
    refine ⟨rfl, ?_⟩
    refine Below.setCell (Below.setCell (Below.setCell HB2.out ?_ _) ?_ _) ?_ _ <;> (show _ ≤ q + 1; have := HQ.out; omega)
  | false =>
    rw [if_neg (by simp)] at HN
    go_wp2_with fail
    refine HL1.out.mono ?_
    clear HL1
    rintro e w2 ⟨rfl, hb2⟩
    have hL2 := HL2.out w2 hb2
    rw [HL2e.out] at hL2
    cases o2 with
    | true =>
      rw [if_pos rfl] at HN
      go_wp2_with fail
      refine hL2.mono ?_
      clear hL2
      rintro e w3 ⟨rfl, hb3⟩
      have hb23 := hb2.trans (hb3.mono hb2.size)
      clear hb2 hb3
      have hl := HLT2.out trivial
      obtain ⟨b, o, x, eA, hx, hbl, _, x0, x1, x2⟩ := rfi_at (HR.out.below RfIR.stable hb23) hl
      subst eA
      have p0 : (0 : Int) ≤ (l2 : Int) := Int.natCast_nonneg _
      have p1 : (l2 : Int) < (n : Int) := by omega
      have bN2 := BN.out.below hb23
      have n0 := bN2.cell 0
      have n1 := bN2.cell 1
      have n2 := bN2.cell 2
      have z0 := bN2.frozen 0
      have z1 := bN2.frozen 1
      have z2 := bN2.frozen 2
      have HE := Lib.hid (show nextR began place xs = (x, true) by unfold nextR; rw [HN.out]; dsimp only; rw [List.getD_eq_getElem?_getD, hx]; rfl)
      have HB2 := Lib.hid (HB0.out.trans (hb23.mono HB0.out.size))
      obtain ⟨rk, rp, rg⟩ := x
      dsimp only at x0 x1 x2
      clear hx hb23 bN2 hl
      go_wp2_with fail
      refine bodyPost_ret (v := .tuple #[.agg #[.int .u8 rk, .int .i64 rp, .int .u64 rg], .bool true]) (by simp [results, Tryz.results52, go_sem, *]) rfl ?_
      rw [HE.out]
      refine ⟨rfl, ?_⟩
      refine Below.setCell (Below.setCell (Below.setCell HB2.out ?_ _) ?_ _) ?_ _ <;> (show _ ≤ q + 1; have := HQ.out; omega)
    | false =>
      rw [if_neg (by simp)] at HN
      have HE := Lib.hid (show nextR began place xs = (RfI.none_, false) by unfold nextR; rw [HN.out])
      go_wp2_with fail
      refine hL2.mono ?_
      clear hL2
      rintro e w3 ⟨rfl, hb3⟩
      have hb23 := hb2.trans (hb3.mono hb2.size)
      clear hb2 hb3
      have bN2 := BN.out.below hb23
      have n0 := bN2.cell 0
      have n1 := bN2.cell 1
      have n2 := bN2.cell 2
      have z0 := bN2.frozen 0
      have z1 := bN2.frozen 1
      have z2 := bN2.frozen 2
      have HB2 := Lib.hid (HB0.out.trans (hb23.mono HB0.out.size))
      clear hb23 bN2
      go_wp2_with fail
      refine bodyPost_ret (v := .tuple #[.agg #[.int .u8 0, .int .i64 0, .int .u64 0], .bool false]) (by simp [results, Tryz.results52, go_sem, *]) rfl ?_
      rw [HE.out]
      refine ⟨rfl, ?_⟩
      refine Below.setCell (Below.setCell (Below.setCell HB2.out ?_ _) ?_ _) ?_ _ <;> (show _ ≤ q + 1; have := HQ.out; omega)
end
end Go.Proofs.YtihnlhfngmbglaaGreat
