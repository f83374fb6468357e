/-
  A long text's stripes: what a stripe's text is, and whom it tells of.
  A value's stripes, by name.
  A long text's stripes: their names, side by side.
  blob.Put while nothing came back to the pool: the places follow each other.
  A pool of which the first places are taken, further; stripes of any kind put one behind the other.
  A long text's stripes are written.
  A long text is put, or why not.
  A long text is put, or why not: scroll.Put.
  A long text isn't put: no room, too long, nothing to put it into.
  A long text's Get, without drives or a coder.
  array.Row, byte by byte.
  super.is, ready, Ref.
  shard.Gen of too great an epoch, shard.Epoch, super.Ref.
  A long text's stripes are read one by one.
  Values that were put, and what they were: two slices that grow side by side, while drives and a pool go on.
  A long text is got: scroll.Get.
  The document's count of a long text's stripes; lists of ints that are the same.
  Law 16's page's example.
  Numbers read out of bytes, whatever is asked; by the reference, too.
  Numbers as bytes, by the reference: joined, Put, Get.
  Numbers read out of bytes, by the reference.
  A scroll's name as bytes, by the reference.
  A scroll's name read out of bytes, whatever is asked.
  scroll.GetBytes.
  ref16.GetBytes.
  What a region's operations keep may be sharpened on the way.
  ScrollBytes, walked.
  Heads in a slot: which drive has which head's shard; super.read.
  What lies in cells stays where a loop's body writes its own boxes alone; shard.Get of too few bytes; the shards of a sector, drive by drive.
-/
import Derived.Test.YtcliejdiaohamaaGreatUt12
import Derived.Test.YtcliejdiaohamaaGreatUt9
import Derived.Defers
import Derived.WalkMore
import Derived.Test.YtcliejdiaohamaaGreatUt11
import Derived.Test.YtcliejdiaohamaaGreatUt4
import Derived.Test.YtcliejdiaohamaaGreatUt8
import Derived.RangeFuncNested
import Derived.RangeFuncBound
import Derived.RangeFuncCalls
import Derived.RangeFuncLeaves
import Derived.Shelf.Abstract
import Derived.Shelf.RegionOpen
import Derived.WalkKit
import Derived.OwnWalkIn
import Derived.TacticsInMore
import Derived.LoopNIn
import Derived.LoopIn
import Derived.Sort.LoopGhostIn
import Derived.Maps.OwnIn
set_option linter.unusedSimpArgs false
set_option linter.unusedVariables false
namespace Go.Proofs.YtcliejdiaohamaaGreat
open Go.RowKit Go.Cib
attribute [local go_sem] cell_set Later.cell Later.frozen Grw.cell Grw.frozen
theorem OwnL.rdT {E : TypeId} {base n c : Nat} {w : World} {A : Option Addr} {xs : List Nat} (h : OwnL ByR E 1 base (fun _ => True) w (.slice A n c) n xs) : RdL ByR 1 (fun j => base ≤ j) w A n xs ∧ n ≤ c := by
  obtain ⟨A', c', e, hc, hr⟩ := h.rd (S' := fun j => base ≤ j) (fun j hj => hj) (fun cs x hx => hx)
  injection e with e1 _ e2
  subst e1; subst e2
  exact ⟨hr, hc⟩
section
variable {w : World}
def u64N (x : Int) : Nat := (x % 18446744073709551616).toNat
theorem u64N_wrap (x : Int) : IntKind.u64.wrap x = (u64N x : Int) := by
  rw [IntKind.wrap_u64]
  unfold u64N
  rw [Int.toNat_of_nonneg (Int.emod_nonneg _ (by omega))]
theorem u64N_lt (x : Int) : u64N x < 18446744073709551616 := by
  unfold u64N
  have := Int.emod_lt_of_pos x (show (0 : Int) < 18446744073709551616 by omega)
  have := Int.emod_nonneg x (show (18446744073709551616 : Int) ≠ 0 by omega)
  omega
/-- A scroll's name as bytes. -/
def nmB (p : Int) (g : Nat) (ct sz : Int) : List Nat := leN 2 (u64N p) ++ leN 8 g ++ leN 2 (u64N ct) ++ leN 4 (u64N sz)
theorem nmB_len (p : Int) (g : Nat) (ct sz : Int) : (nmB p g ct sz).length = 16 := by unfold nmB; simp [leN_len]
def scC (p : Int) (g : Int) (ct sz : Int) : Array Value := #[.int .i64 p, .int .u64 g, .int .i64 ct, .int .i64 sz]
set_option maxRecDepth 100000 in
set_option maxHeartbeats 8000000 in
theorem spb_any {p ct sz : Int} {g : Nat} {n c : Nat} {A : Option Addr} {S : Nat → Prop} {xs : List Nat} (R : RdL ByR 1 S w A n xs) (hn : n ≤ 3900) (hg : Hid (g < 2 ^ 64)) :
    Calls Tryz.prog 48 #[.slice A n c, .agg (scC p (g : Int) ct sz)] w fun e w' => ∃ A' c', e = .returned (.slice A' (n + 16) c') ∧ n + 16 ≤ c' ∧ RdL ByR 1 (fun j => w.heap.size ≤ j) w' A' (n + 16) (xs ++ nmB p g ct sz) ∧ Below w.heap.size w w' := by
  have hb0 : Below w.heap.size w (w.alloc (.cells (scC p (g : Int) ct sz) 24)) := (Below.refl _ _).alloc (Nat.le_refl _) _
  have bB := BoxAt.new w (scC p (g : Int) ct sz) 24
  obtain ⟨w1, hw1⟩ : ∃ w1, w.alloc (.cells (scC p (g : Int) ct sz) 24) = w1 := ⟨_, rfl⟩
  obtain ⟨q, hq⟩ : ∃ q, w.heap.size = q := ⟨_, rfl⟩
  rw [hw1] at hb0 bB
  rw [hq] at bB
  have HB0 := Lib.hid hb0
  have BB := Lib.hid bB
  have HR := Lib.hid (R.below ByR.stable hb0)
  have fp := u64N_wrap p
  have fc := u64N_wrap ct
  have fs := u64N_wrap sz
  have hpl := Lib.hid (u64N_lt p)
  have hcl := Lib.hid (u64N_lt ct)
  have hsl := Lib.hid (u64N_lt sz)
  unfold nmB
  obtain ⟨P, hP⟩ : ∃ P, u64N p = P := ⟨_, rfl⟩
  obtain ⟨C, hC⟩ : ∃ C, u64N ct = C := ⟨_, rfl⟩
  obtain ⟨Z, hZ⟩ : ∃ Z, u64N sz = Z := ⟨_, rfl⟩
  rw [hP] at fp hpl ⊢
  rw [hC] at fc hcl ⊢
  rw [hZ] at fs hsl ⊢
  clear hb0 bB R hP hC hZ
  unfold scC at hw1 ⊢
  go_enter Tryz.func48, Tryz.ntmps48
  go_wp2_with fail
  have hd : Below w1.heap.size w1 w1.drew := (Below.refl _ _).drew
  have HSF : Hid (∀ w', Below w1.heap.size w1 w' → w'.cell? ⟨q, 0, none⟩ = some (.int .i64 p) ∧ w'.cell? ⟨q, 1, none⟩ = some (.int .u64 (g : Int)) ∧ w'.cell? ⟨q, 2, none⟩ = some (.int .i64 ct) ∧ w'.cell? ⟨q, 3, none⟩ = some (.int .i64 sz)) := Lib.hid fun w' hb => ⟨(BB.out.below hb).cell 0, (BB.out.below hb).cell 1, (BB.out.below hb).cell 2, (BB.out.below hb).cell 3⟩
  clear hw1 hq
  refine wp_region_held_drew (S := fun w' => w'.cell? ⟨q, 0, none⟩ = some (.int .i64 p) ∧ w'.cell? ⟨q, 1, none⟩ = some (.int .u64 (g : Int)) ∧ w'.cell? ⟨q, 2, none⟩ = some (.int .i64 ct) ∧ w'.cell? ⟨q, 3, none⟩ = some (.int .i64 sz)) (by kernel_rfl) (by first | exact HSF.out _ hd | exact HSF.out _ hb2 | exact HSF.out _ hb3) (fun hHeld => ?_)
  refine wpAnyH_take (i := 0) (v := ?_) rfl (by kernel_rfl) (by kernel_rfl) (by kernel_rfl) (fun _ _ _ h => h) (Or.inl ⟨by first | kernel_rfl | rfl, ?_⟩) (by assumption) ?_
  rotate_left
  · (intro wq hSw; (try dsimp only at hSw); (try simp (maxSteps := 2000000) only [zz1, zz2, zz3]); go_simp); try with_reducible rfl
  try simp (maxSteps := 2000000) only [zz1, zz2, zz3, Act.put, zz4, zz5, zz6]
  refine wpAnyH_take (i := 1) (v := ?_) rfl (by kernel_rfl) (by kernel_rfl) (by kernel_rfl) (fun _ _ _ h => h) (Or.inl ⟨by first | kernel_rfl | rfl, ?_⟩) (by assumption) ?_
  rotate_left
  · (intro wq hSw; (try dsimp only at hSw); (try simp (maxSteps := 2000000) only [zz1, zz2, zz3]); go_simp); try with_reducible rfl
  try simp (maxSteps := 2000000) only [zz1, zz2, zz3, Act.put, zz4, zz5, zz6]
  refine wpAnyH_take (i := 2) (v := ?_) rfl (by kernel_rfl) (by kernel_rfl) (by kernel_rfl) (fun _ _ _ h => h) (Or.inl ⟨by first | kernel_rfl | rfl, ?_⟩) (by assumption) ?_
  rotate_left
  · (intro wq hSw; (try dsimp only at hSw); (try simp (maxSteps := 2000000) only [zz1, zz2, zz3]); go_simp); try with_reducible rfl
  try simp (maxSteps := 2000000) only [zz1, zz2, zz3, Act.put, zz4, zz5, zz6]
  refine wpAnyH_take (i := 3) (v := ?_) rfl (by kernel_rfl) (by kernel_rfl) (by kernel_rfl) (fun _ _ _ h => h) (Or.inl ⟨by first | kernel_rfl | rfl, ?_⟩) (by assumption) ?_
  rotate_left
  · (intro wq hSw; (try dsimp only at hSw); (try simp (maxSteps := 2000000) only [zz1, zz2, zz3]); go_simp); try with_reducible rfl
  try simp (maxSteps := 2000000) only [zz1, zz2, zz3, Act.put, zz4, zz5, zz6]
  refine wpAnyH_take (i := 5) (v := ?_) rfl (by kernel_rfl) (by kernel_rfl) (by kernel_rfl) (fun _ _ _ h => h) (Or.inl ⟨by first | kernel_rfl | rfl, ?_⟩) (by assumption) ?_
  rotate_left
  · (intro wq hSw; (try dsimp only at hSw); (try simp (maxSteps := 2000000) only [zz1, zz2, zz3]); go_simp); try with_reducible rfl
  try simp (maxSteps := 2000000) only [zz1, zz2, zz3, Act.put, zz4, zz5, zz6]
  refine wpAnyH_take (i := 6) (v := ?_) rfl (by kernel_rfl) (by kernel_rfl) (by kernel_rfl) (fun _ _ _ h => h) (Or.inl ⟨by first | kernel_rfl | rfl, ?_⟩) (by assumption) ?_
  rotate_left
  · (intro wq hSw; (try dsimp only at hSw); (try simp (maxSteps := 2000000) only [zz1, zz2, zz3]); go_simp); try with_reducible rfl
  try simp (maxSteps := 2000000) only [zz1, zz2, zz3, Act.put, zz4, zz5, zz6]
  refine wpAnyH_ready (rs := [4]) (by kernel_rfl) (by simp) ?_
  refine AllReadyH.cons rfl (fun K hK => ?_) AllReadyH.nil
  try simp (maxSteps := 2000000) only [zz1, zz2, zz3]
  go_simp
  go_at_call 121
  have hpu := nput_any (c := c) (k := 2) (v := P) (HR.out.below ByR.stable hd) (by omega) (by omega) (by omega) hpl.out
  refine hpu.mono ?_
  clear hpu
  rintro e w2 ⟨A2, c2, rfl, hr2, hb⟩
  have hb2 : Below w1.heap.size w1 w2 := hd.trans (hb.mono hd.size)
  have HR2 := Lib.hid (OwnL.rdT hr2).1
  clear hb hr2
  try (go_wp2_with fail)
  refine hK.out _ _ (by first | exact HSF.out _ hd | exact HSF.out _ hb2 | exact HSF.out _ hb3) (fun hHeld => ?_)
  clear hK K
  try simp (maxSteps := 2000000) only [zz1, zz2, zz3, Act.put, zz4, zz5, zz6]
  refine wpAnyH_ready (rs := [7]) (by kernel_rfl) (by simp) ?_
  refine AllReadyH.cons rfl (fun K hK => ?_) AllReadyH.nil
  try simp (maxSteps := 2000000) only [zz1, zz2, zz3]
  go_simp
  go_at_call 121
  have hpu := nput_any (c := c2) (k := 8) (v := g) HR2.out (by omega) (by omega) (by omega) (by have := hg.out; omega)
  refine hpu.mono ?_
  clear hpu
  rintro e w3 ⟨A3, c3, rfl, hr3, hb⟩
  have hb3 : Below w1.heap.size w1 w3 := hb2.trans (hb.mono hb2.size)
  have HR3 := Lib.hid (OwnL.rdT hr3).1
  clear hb hr3
  try (go_wp2_with fail)
  refine hK.out _ _ (by first | exact HSF.out _ hd | exact HSF.out _ hb2 | exact HSF.out _ hb3) (fun hHeld => ?_)
  clear hK K
  try simp (maxSteps := 2000000) only [zz1, zz2, zz3, Act.put, zz4, zz5, zz6]
  refine wpAnyH_take (i := 8) (v := ?_) rfl (by kernel_rfl) (by kernel_rfl) (by kernel_rfl) (fun _ _ _ h => h) (Or.inl ⟨by first | kernel_rfl | rfl, ?_⟩) (by assumption) ?_
  rotate_left
  · (intro wq hSw; (try dsimp only at hSw); (try simp (maxSteps := 2000000) only [zz1, zz2, zz3]); go_simp); try with_reducible rfl
  try simp (maxSteps := 2000000) only [zz1, zz2, zz3, Act.put, zz4, zz5, zz6]
  refine wpAnyH_done (by kernel_rfl) ?_ _
  clear hHeld
  have hd3 : Below w1.heap.size w1 w3.drew := hb3.drew
  have HR3d := Lib.hid (HR3.out.below ByR.stable (w' := w3.drew) (Below.refl _ _).drew)
  go_wp2_with fail
  refine wp_region_held_drew (S := fun w' => w'.cell? ⟨q, 0, none⟩ = some (.int .i64 p) ∧ w'.cell? ⟨q, 1, none⟩ = some (.int .u64 (g : Int)) ∧ w'.cell? ⟨q, 2, none⟩ = some (.int .i64 ct) ∧ w'.cell? ⟨q, 3, none⟩ = some (.int .i64 sz)) (by kernel_rfl) (by first | exact HSF.out _ hd3 | exact HSF.out _ hb4 | exact HSF.out _ hb5) (fun hHeld => ?_)
  refine wpAnyH_take (i := 0) (v := ?_) rfl (by kernel_rfl) (by kernel_rfl) (by kernel_rfl) (fun _ _ _ h => h) (Or.inl ⟨by first | kernel_rfl | rfl, ?_⟩) (by assumption) ?_
  rotate_left
  · (intro wq hSw; (try dsimp only at hSw); (try simp (maxSteps := 2000000) only [zz1, zz2, zz3]); go_simp); try with_reducible rfl
  try simp (maxSteps := 2000000) only [zz1, zz2, zz3, Act.put, zz4, zz5, zz6]
  refine wpAnyH_take (i := 1) (v := ?_) rfl (by kernel_rfl) (by kernel_rfl) (by kernel_rfl) (fun _ _ _ h => h) (Or.inl ⟨by first | kernel_rfl | rfl, ?_⟩) (by assumption) ?_
  rotate_left
  · (intro wq hSw; (try dsimp only at hSw); (try simp (maxSteps := 2000000) only [zz1, zz2, zz3]); go_simp); try with_reducible rfl
  try simp (maxSteps := 2000000) only [zz1, zz2, zz3, Act.put, zz4, zz5, zz6]
  refine wpAnyH_take (i := 2) (v := ?_) rfl (by kernel_rfl) (by kernel_rfl) (by kernel_rfl) (fun _ _ _ h => h) (Or.inl ⟨by first | kernel_rfl | rfl, ?_⟩) (by assumption) ?_
  rotate_left
  · (intro wq hSw; (try dsimp only at hSw); (try simp (maxSteps := 2000000) only [zz1, zz2, zz3]); go_simp); try with_reducible rfl
  try simp (maxSteps := 2000000) only [zz1, zz2, zz3, Act.put, zz4, zz5, zz6]
  refine wpAnyH_take (i := 3) (v := ?_) rfl (by kernel_rfl) (by kernel_rfl) (by kernel_rfl) (fun _ _ _ h => h) (Or.inl ⟨by first | kernel_rfl | rfl, ?_⟩) (by assumption) ?_
  rotate_left
  · (intro wq hSw; (try dsimp only at hSw); (try simp (maxSteps := 2000000) only [zz1, zz2, zz3]); go_simp); try with_reducible rfl
  try simp (maxSteps := 2000000) only [zz1, zz2, zz3, Act.put, zz4, zz5, zz6]
  refine wpAnyH_take (i := 5) (v := ?_) rfl (by kernel_rfl) (by kernel_rfl) (by kernel_rfl) (fun _ _ _ h => h) (Or.inl ⟨by first | kernel_rfl | rfl, ?_⟩) (by assumption) ?_
  rotate_left
  · (intro wq hSw; (try dsimp only at hSw); (try simp (maxSteps := 2000000) only [zz1, zz2, zz3]); go_simp); try with_reducible rfl
  try simp (maxSteps := 2000000) only [zz1, zz2, zz3, Act.put, zz4, zz5, zz6]
  refine wpAnyH_take (i := 6) (v := ?_) rfl (by kernel_rfl) (by kernel_rfl) (by kernel_rfl) (fun _ _ _ h => h) (Or.inl ⟨by first | kernel_rfl | rfl, ?_⟩) (by assumption) ?_
  rotate_left
  · (intro wq hSw; (try dsimp only at hSw); (try simp (maxSteps := 2000000) only [zz1, zz2, zz3]); go_simp); try with_reducible rfl
  try simp (maxSteps := 2000000) only [zz1, zz2, zz3, Act.put, zz4, zz5, zz6]
  refine wpAnyH_take (i := 7) (v := ?_) rfl (by kernel_rfl) (by kernel_rfl) (by kernel_rfl) (fun _ _ _ h => h) (Or.inl ⟨by first | kernel_rfl | rfl, ?_⟩) (by assumption) ?_
  rotate_left
  · (intro wq hSw; (try dsimp only at hSw); (try simp (maxSteps := 2000000) only [zz1, zz2, zz3]); go_simp); try with_reducible rfl
  try simp (maxSteps := 2000000) only [zz1, zz2, zz3, Act.put, zz4, zz5, zz6]
  refine wpAnyH_ready (rs := [4]) (by kernel_rfl) (by simp) ?_
  refine AllReadyH.cons rfl (fun K hK => ?_) AllReadyH.nil
  try simp (maxSteps := 2000000) only [zz1, zz2, zz3]
  go_simp
  go_at_call 121
  have hpu := nput_any (c := c3) (k := 2) (v := C) HR3d.out (by omega) (by omega) (by omega) hcl.out
  refine hpu.mono ?_
  clear hpu
  rintro e w4 ⟨A4, c4, rfl, hr4, hb⟩
  have hb4 : Below w1.heap.size w1 w4 := hd3.trans (hb.mono hd3.size)
  have HR4 := Lib.hid (OwnL.rdT hr4).1
  clear hb hr4
  try (go_wp2_with fail)
  refine hK.out _ _ (by first | exact HSF.out _ hd3 | exact HSF.out _ hb4 | exact HSF.out _ hb5) (fun hHeld => ?_)
  clear hK K
  try simp (maxSteps := 2000000) only [zz1, zz2, zz3, Act.put, zz4, zz5, zz6]
  refine wpAnyH_ready (rs := [8]) (by kernel_rfl) (by simp) ?_
  refine AllReadyH.cons rfl (fun K hK => ?_) AllReadyH.nil
  try simp (maxSteps := 2000000) only [zz1, zz2, zz3]
  go_simp
  go_at_call 121
  have hpu := nput_any (c := c4) (k := 4) (v := Z) HR4.out (by omega) (by omega) (by omega) hsl.out
  refine hpu.mono ?_
  clear hpu
  rintro e w5 ⟨A5, c5, rfl, hr5, hb⟩
  have hb5 : Below w1.heap.size w1 w5 := hb4.trans (hb.mono hb4.size)
  have HS5 := Lib.hid hb4.size
  have HR5 := Lib.hid (OwnL.rdT hr5)
  clear hb hr5
  try (go_wp2_with fail)
  refine hK.out _ _ (by first | exact HSF.out _ hd3 | exact HSF.out _ hb4 | exact HSF.out _ hb5) (fun hHeld => ?_)
  clear hK K
  try simp (maxSteps := 2000000) only [zz1, zz2, zz3, Act.put, zz4, zz5, zz6]
  refine wpAnyH_take (i := 9) (v := ?_) rfl (by kernel_rfl) (by kernel_rfl) (by kernel_rfl) (fun _ _ _ h => h) (Or.inl ⟨by first | kernel_rfl | rfl, ?_⟩) (by assumption) ?_
  rotate_left
  · (intro wq hSw; (try dsimp only at hSw); (try simp (maxSteps := 2000000) only [zz1, zz2, zz3]); go_simp); try with_reducible rfl
  try simp (maxSteps := 2000000) only [zz1, zz2, zz3, Act.put, zz4, zz5, zz6]
  refine wpAnyH_done (by kernel_rfl) ?_ _
  clear hHeld
  have HB5 := Lib.hid (HB0.out.trans (hb5.mono HB0.out.size))
  go_wp2_with fail
  go_ret
  have h := HR5.out
  rw [show n + 2 + 8 + 2 + 4 = n + 16 by omega, show xs ++ leN 2 P ++ leN 8 g ++ leN 2 C ++ leN 4 Z = xs ++ (leN 2 P ++ leN 8 g ++ leN 2 C ++ leN 4 Z) by simp only [List.append_assoc]] at h
  rw [show n + 2 + 8 + 2 + 4 = n + 16 by omega]
  exact ⟨A5, c5, rfl, h.2, h.1.weaken ByR.stable (fun j hj => Nat.le_trans (Nat.le_trans HB0.out.size HS5.out) hj), HB5.out⟩
end
end Go.Proofs.YtcliejdiaohamaaGreat

set_option linter.unusedSimpArgs false
set_option linter.unusedVariables false
namespace Go.Proofs.YtcliejdiaohamaaGreat
open Go.RowKit Go.Cib
attribute [local go_sem] cell_set Later.cell Later.frozen Grw.cell Grw.frozen
def RefR (_ : Nat → Prop) (_ : World) (cs : List Value) (x : Int × Int) : Prop := cs = [.int .u8 3, .int .i64 x.1, .int .u64 x.2]
theorem RefR.stable : Stable RefR := fun _ _ _ _ _ _ h _ => h
theorem RefR.one : ∀ S w cs x, RefR S w cs x → ∀ u ∈ cs, u.oneCell' = true := by
  rintro S w cs x rfl u hu
  simp only [List.mem_cons, List.not_mem_nil, or_false] at hu
  rcases hu with rfl | rfl | rfl <;> rfl
end Go.Proofs.YtcliejdiaohamaaGreat

set_option linter.unusedSimpArgs false
set_option linter.unusedVariables false
namespace Go.Proofs.YtcliejdiaohamaaGreat
open Go.RowKit Go.Cib
attribute [local go_sem] cell_set Later.cell Later.frozen Grw.cell Grw.frozen
def RfR (_ : Nat → Prop) (_ : World) (cs : List Value) (x : Nat × Nat × Nat) : Prop := cs = [.int .u8 (x.1 : Int), .int .i64 (x.2.1 : Int), .int .u64 (x.2.2 : Int)]
theorem RfR.stable : Stable RfR := fun _ _ _ _ _ _ h _ => h
structure RfRow (w : World) (g : Nat) (L : List (Nat × Nat × Nat)) : Prop where
  ex : ∃ cur, BoxAt w g cur ∧ ∀ j x, L[j]? = some x → cur[j * 3]? = some (.int .u8 (x.1 : Int)) ∧ cur[j * 3 + 1]? = some (.int .i64 (x.2.1 : Int)) ∧ cur[j * 3 + 2]? = some (.int .u64 (x.2.2 : Int))
section
variable {w w' : World} {g : Nat} {L : List (Nat × Nat × Nat)}
theorem RfRow.below (h : RfRow w g L) (hb : Below w.heap.size w w') : RfRow w' g L := by
  obtain ⟨cur, h1, h2⟩ := h.ex
  exact ⟨cur, h1.below hb, h2⟩
theorem RfRow.lt (h : RfRow w g L) : g < w.heap.size := by
  obtain ⟨cur, h1, h2⟩ := h.ex
  exact h1.lt
theorem RfRow.cells (h : RfRow w g L) {j : Nat} {x : Nat × Nat × Nat} (hx : L[j]? = some x) : w.cell? ⟨g, j * 3, none⟩ = some (.int .u8 (x.1 : Int)) ∧ w.cell? ⟨g, j * 3 + 1, none⟩ = some (.int .i64 (x.2.1 : Int)) ∧ w.cell? ⟨g, j * 3 + 2, none⟩ = some (.int .u64 (x.2.2 : Int)) := by
  obtain ⟨cur, h1, h2⟩ := h.ex
  obtain ⟨a, b, c⟩ := h2 j x hx
  exact ⟨(h1.cell _).trans a, (h1.cell _).trans b, (h1.cell _).trans c⟩
theorem RfRow.frozen (h : RfRow w g L) (o : Nat) : w.frozen? ⟨g, o, none⟩ = false := by
  obtain ⟨cur, h1, h2⟩ := h.ex
  exact h1.frozen o
theorem RfRow.set (h : RfRow w g L) {i : Nat} (hi : i < L.length) (a b c : Nat) : RfRow (((w.setCell ⟨g, i * 3, none⟩ (.int .u8 (a : Int))).setCell ⟨g, i * 3 + 1, none⟩ (.int .i64 (b : Int))).setCell ⟨g, i * 3 + 2, none⟩ (.int .u64 (c : Int))) g (L.set i (a, b, c)) := by
  obtain ⟨cur, h1, h2⟩ := h.ex
  refine ⟨_, ((h1.set (i * 3) _).set (i * 3 + 1) _).set (i * 3 + 2) _, fun j x hx => ?_⟩
  have hy : L[i]? = some L[i] := List.getElem?_eq_getElem hi
  obtain ⟨s0, s1, s2⟩ := h2 i _ hy
  have l2 : i * 3 + 2 < cur.size := (Array.getElem?_eq_some_iff.1 s2).1
  rw [List.getElem?_set] at hx
  by_cases e : i = j
  · subst e
    rw [if_pos rfl, if_pos hi] at hx
    obtain rfl := Option.some.inj hx
    refine ⟨?_, ?_, ?_⟩
    · rw [Array.getElem?_setIfInBounds, if_neg (by omega), Array.getElem?_setIfInBounds, if_neg (by omega), Array.getElem?_setIfInBounds, if_pos rfl, if_pos (by omega)]
    · rw [Array.getElem?_setIfInBounds, if_neg (by omega), Array.getElem?_setIfInBounds, if_pos rfl, if_pos (by rw [Array.size_setIfInBounds]; omega)]
    · rw [Array.getElem?_setIfInBounds, if_pos rfl, if_pos (by rw [Array.size_setIfInBounds, Array.size_setIfInBounds]; omega)]
  · rw [if_neg e] at hx
    obtain ⟨t0, t1, t2⟩ := h2 j x hx
    refine ⟨?_, ?_, ?_⟩
    · rw [Array.getElem?_setIfInBounds, if_neg (by omega), Array.getElem?_setIfInBounds, if_neg (by omega), Array.getElem?_setIfInBounds, if_neg (by omega)]; exact t0
    · rw [Array.getElem?_setIfInBounds, if_neg (by omega), Array.getElem?_setIfInBounds, if_neg (by omega), Array.getElem?_setIfInBounds, if_neg (by omega)]; exact t1
    · rw [Array.getElem?_setIfInBounds, if_neg (by omega), Array.getElem?_setIfInBounds, if_neg (by omega), Array.getElem?_setIfInBounds, if_neg (by omega)]; exact t2
theorem RfRow.rd (h : RfRow w g L) {S : Nat → Prop} (hS : S g) : RdL RfR 3 S w (some ⟨g, 0, none⟩) L.length L := ⟨rfl, fun _ => ⟨g, 0, rfl, hS, h.lt, fun i x hx => by
  obtain ⟨c0, c1, c2⟩ := h.cells hx
  refine ⟨[.int .u8 (x.1 : Int), .int .i64 (x.2.1 : Int), .int .u64 (x.2.2 : Int)], rfl, rfl, fun j v hj => ?_⟩
  rw [Nat.zero_add]
  match j, hj with
  | 0, hj => simp at hj; subst hj; exact c0
  | 1, hj => simp at hj; subst hj; exact c1
  | 2, hj => simp at hj; subst hj; exact c2
  | j + 3, hj => simp at hj⟩⟩
theorem madeRefs_at {k j : Nat} (hj : j < k) : (madeCells #[.int .u8 0, .int .i64 0, .int .u64 0] (k * 3))[j * 3]? = some (.int .u8 0) ∧ (madeCells #[.int .u8 0, .int .i64 0, .int .u64 0] (k * 3))[j * 3 + 1]? = some (.int .i64 0) ∧ (madeCells #[.int .u8 0, .int .i64 0, .int .u64 0] (k * 3))[j * 3 + 2]? = some (.int .u64 0) := by
  have h0 : j * 3 % 3 = 0 := by omega
  have h1 : (j * 3 + 1) % 3 = 1 := by omega
  have h2 : (j * 3 + 2) % 3 = 2 := by omega
  unfold madeCells
  refine ⟨?_, ?_, ?_⟩
  · rw [Array.getElem?_map, Array.getElem?_range, if_pos (by omega)]
    simp [h0]
  · rw [Array.getElem?_map, Array.getElem?_range, if_pos (by omega)]
    simp [h1]
  · rw [Array.getElem?_map, Array.getElem?_range, if_pos (by omega)]
    simp [h2]
theorem RfRow.made (w : World) (k : Nat) (t : TypeId) : RfRow (w.alloc (.cells (madeCells #[.int .u8 0, .int .i64 0, .int .u64 0] (k * 3)) t)) w.heap.size (List.replicate k (0, 0, 0)) :=
  ⟨_, BoxAt.new w _ t, fun j x hx => by
    rw [List.getElem?_replicate] at hx
    split at hx
    · rename_i hj
      obtain rfl := Option.some.inj hx
      exact madeRefs_at hj
    · cases hx⟩
end
end Go.Proofs.YtcliejdiaohamaaGreat

set_option linter.unusedSimpArgs false
set_option linter.unusedVariables false
namespace Go.Proofs.YtcliejdiaohamaaGreat
open Go.RowKit Go.Cib
attribute [local go_sem] cell_set Later.cell Later.frozen Grw.cell Grw.frozen
section
variable {P X S : Nat → Prop} {w0 w w' : World} {a p o l go gl ep ct fs np n cb bf k m t : Nat} {wo wl : List Nat} {sts : List DSt}
/-- The pool, of which the first t places are taken. -/
def PoolT (w : World) (p o l go gl ct fs np t : Nat) : Prop := ∃ wo wl, PoolAt w p o l go gl 0 ct fs np wo wl ∧ freeL wo np = (List.range np).drop t
theorem PoolT.below (h : PoolT w p o l go gl ct fs np t) (hb : Below w.heap.size w w') : PoolT w' p o l go gl ct fs np t := by
  obtain ⟨wo, wl, h1, h2⟩ := h
  exact ⟨wo, wl, h1.below hb, h2⟩
theorem PoolT.keep {F : Nat → Prop} (h : PoolT w p o l go gl ct fs np t) (hK : Keep F w w') (hF : ∀ j, PoolB p o l go gl j → ¬ F j) : PoolT w' p o l go gl ct fs np t := by
  obtain ⟨wo, wl, h1, h2⟩ := h
  exact ⟨wo, wl, h1.keep hK hF, h2⟩
theorem PoolT.kp {X : Nat → Prop} (h : PoolT w p o l go gl ct fs np t) (hK : KpX X w w') (hX : ∀ j, PoolB p o l go gl j → X j) : PoolT w' p o l go gl ct fs np t := by
  obtain ⟨wo, wl, h1, h2⟩ := h
  exact ⟨wo, wl, h1.kp hK.1 hX, h2⟩
theorem PoolT.free (h : PoolT w p o l go gl ct fs np t) : Calls Tryz.prog 42 #[.pointer (some ⟨p, 0, none⟩)] w fun e w' => e = .returned (.int .i64 (np - t : Nat)) ∧ Below w.heap.size w w' := by
  obtain ⟨wo, wl, h1, h2⟩ := h
  have h3 := pfree_any h1
  rw [(free_cnt h2).1] at h3
  exact h3
theorem PoolT.new {w : World} {p o l go gl f c M : Nat} (h : PoolAt w p o l go gl 0 0 f c (List.replicate M 0) (List.replicate M 0)) : PoolT w p o l go gl 0 f c 0 := ⟨_, _, h, free_new M c⟩
end
end Go.Proofs.YtcliejdiaohamaaGreat

set_option linter.unusedSimpArgs false
set_option linter.unusedVariables false
namespace Go.Proofs.YtcliejdiaohamaaGreat
open Go.RowKit Go.Cib
attribute [local go_sem] cell_set Later.cell Later.frozen Grw.cell Grw.frozen
section
variable {w w' : World} {p o l go gl ct fs np t : Nat}
end
section
variable {g : Nat → Bool} {n k N M : Nat} {rf : Nat → Ref} {tx : Nat → List Nat} {sts : List DSt}
end
/-! ### A long text's stripes -/
end Go.Proofs.YtcliejdiaohamaaGreat

set_option linter.unusedSimpArgs false
set_option linter.unusedVariables false
namespace Go.Proofs.YtcliejdiaohamaaGreat
open Go.RowKit Go.Cib
attribute [local go_sem] cell_set Later.cell Later.frozen Grw.cell Grw.frozen
/-- An exit that is no panic. -/
def NoP (Q : Exit → Act → World → Prop) : Exit → Act → World → Prop
  | .panic _, _, _ => False
  | e, a, w => Q e a w
theorem NoP.le {Q : Exit → Act → World → Prop} : ∀ e a w, NoP Q e a w → Q e a w
  | .panic _, _, _, h => h.elim
  | .normal, _, _, h => h
  | .ret, _, _, h => h
  | .outgrown, _, _, h => h
  | .exit _, _, _, h => h
  | .goto _, _, _, h => h
theorem NoP.normal {Q : Exit → Act → World → Prop} {a : Act} {w : World} (h : Q .normal a w) : NoP Q .normal a w := h
section
variable {P X S : Nat → Prop} {w0 w w' : World} {a p o l go gl ct fs np n cb bf k m t : Nat} {sts : List DSt}
end
end Go.Proofs.YtcliejdiaohamaaGreat

set_option linter.unusedSimpArgs false
set_option linter.unusedVariables false
namespace Go.Proofs.YtcliejdiaohamaaGreat
open Go.RowKit Go.Cib
attribute [local go_sem] cell_set Later.cell Later.frozen Grw.cell Grw.frozen
section
variable {P X S : Nat → Prop} {w0 w w' : World} {a p o l go gl ct fs np n cb bf k m t : Nat} {sts : List DSt}
end
end Go.Proofs.YtcliejdiaohamaaGreat

set_option linter.unusedSimpArgs false
set_option linter.unusedVariables false
namespace Go.Proofs.YtcliejdiaohamaaGreat
open Go.RowKit Go.Cib
attribute [local go_sem] cell_set Later.cell Later.frozen Grw.cell Grw.frozen
section
variable {P X S : Nat → Prop} {w0 w w' : World} {a p o l go gl ct fs np n cb bf k m t : Nat} {sts : List DSt}
end
end Go.Proofs.YtcliejdiaohamaaGreat

set_option linter.unusedSimpArgs false
set_option linter.unusedVariables false
namespace Go.Proofs.YtcliejdiaohamaaGreat
open Go.RowKit Go.Cib
attribute [local go_sem] cell_set Later.cell Later.frozen Grw.cell Grw.frozen
section
variable {w : World}
end
section
variable {P X S : Nat → Prop} {w0 w w' : World} {a p o l go gl ct fs np n cb bf k m t : Nat} {sts : List DSt}
end
end Go.Proofs.YtcliejdiaohamaaGreat

set_option linter.unusedSimpArgs false
set_option linter.unusedVariables false
namespace Go.Proofs.YtcliejdiaohamaaGreat
open Go.RowKit Go.Cib
attribute [local go_sem] cell_set Later.cell Later.frozen Grw.cell Grw.frozen
section
variable {P X S : Nat → Prop} {w0 w w' : World} {a p o l go gl ct fs np n cb bf k m t : Nat} {sts : List DSt}
end
end Go.Proofs.YtcliejdiaohamaaGreat

set_option linter.unusedSimpArgs false
set_option linter.unusedVariables false
namespace Go.Proofs.YtcliejdiaohamaaGreat
open Go.RowKit Go.Cib
attribute [local go_sem] cell_set Later.cell Later.frozen Grw.cell Grw.frozen
def readN (z : Nat) (st : DSt) : List Nat := if st.dead = true then [] else secN st z
/-- A row of bytes of the call's own, each cell still to be set. -/
def RowN (B : Nat) (w : World) (ob k : Nat) (xs : List (List Nat)) : Prop := ∃ vs : List Value, BoxAt w ob vs.toArray ∧ vs.length = k ∧ xs.length = k ∧ ∀ (j : Nat) (v : Value) (x : List Nat), vs[j]? = some v → xs[j]? = some x → ∃ A m c, v = .slice A m c ∧ m ≤ c ∧ RdL ByR 1 (fun b => B ≤ b ∧ b ≠ ob) w A m x
theorem RowN.new (B : Nat) (w : World) (k : Nat) (T : TypeId) : RowN B (w.alloc (.cells (List.replicate k (Value.slice none 0 0)).toArray T)) w.heap.size k (List.replicate k []) := by
  refine ⟨List.replicate k (.slice none 0 0), BoxAt.new _ _ _, by simp, by simp, fun j v x hv hx => ?_⟩
  have h1 := List.eq_of_mem_replicate (List.mem_of_getElem? hv)
  have h2 := List.eq_of_mem_replicate (List.mem_of_getElem? hx)
  subst h1; subst h2
  exact ⟨none, 0, 0, rfl, Nat.le_refl _, RdL.nil⟩
theorem RowN.below {B : Nat} {w w' : World} {ob k : Nat} {xs : List (List Nat)} (h : RowN B w ob k xs) (hb : Below w.heap.size w w') : RowN B w' ob k xs := by
  obtain ⟨vs, h1, h2, h3, h4⟩ := h
  exact ⟨vs, h1.below hb, h2, h3, fun j v x hv hx => by
    obtain ⟨A, m, c, e, hmc, hr⟩ := h4 j v x hv hx
    exact ⟨A, m, c, e, hmc, hr.below ByR.stable hb⟩⟩
theorem RowN.set {B : Nat} {w : World} {ob k : Nat} {xs : List (List Nat)} (h : RowN B w ob k xs) (j : Nat) {A : Option Addr} {m c : Nat} {x : List Nat} (hmc : m ≤ c) (hr : RdL ByR 1 (fun b => B ≤ b ∧ b ≠ ob) w A m x) : RowN B (w.setCell ⟨ob, j, none⟩ (.slice A m c)) ob k (xs.set j x) := by
  obtain ⟨vs, h1, h2, h3, h4⟩ := h
  refine ⟨vs.set j (.slice A m c), ?_, by simp [h2], by simp [h3], fun i v y hv hy => ?_⟩
  · have := h1.set j (.slice A m c)
    simpa using this
  · by_cases hij : j = i
    · subst hij
      have hjl : j < vs.length := by simpa using (List.getElem?_eq_some_iff.1 hv).1
      rw [List.getElem?_set_self hjl] at hv
      rw [List.getElem?_set_self (by omega)] at hy
      injection hv with hv
      injection hy with hy
      subst hv; subst hy
      exact ⟨A, m, c, rfl, hmc, hr.setCell ByR.stable (p := ⟨ob, j, none⟩) (fun h => h.2 rfl) _⟩
    · rw [List.getElem?_set_ne hij] at hv hy
      obtain ⟨A', m', c', e, hmc', hr'⟩ := h4 i v y hv hy
      exact ⟨A', m', c', e, hmc', hr'.setCell ByR.stable (p := ⟨ob, j, none⟩) (fun h => h.2 rfl) _⟩
theorem RowN.rd {B : Nat} {w : World} {ob k : Nat} {xs : List (List Nat)} (h : RowN B w ob k xs) (hB : B ≤ ob) : RdL RowR 1 (B ≤ ·) w (some ⟨ob, 0, none⟩) k xs := by
  obtain ⟨vs, h1, h2, h3, h4⟩ := h
  refine ⟨h3, fun _ => ⟨ob, 0, rfl, hB, h1.lt, fun i x hx => ?_⟩⟩
  have hi : i < vs.length := by rw [h2, ← h3]; exact (List.getElem?_eq_some_iff.1 hx).1
  obtain ⟨A, m, c, e, hmc, hr⟩ := h4 i _ x (List.getElem?_eq_getElem hi) hx
  refine ⟨[vs[i]], rfl, ⟨A, m, c, by rw [e], hmc, hr.weaken ByR.stable (fun b hb => hb.1)⟩, fun j v hj => ?_⟩
  match j, hj with
  | 0, hj =>
    simp only [List.getElem?_cons_zero, Option.some.injEq] at hj
    subst hj
    rw [h1.cell]
    simp [hi]
def rowNTo (z : Nat) (i : Nat) (sts : List DSt) : List (List Nat) := sts.mapIdx (fun j st => if j < i then readN z st else [])
theorem rowNTo_get (z : Nat) (i : Nat) (sts : List DSt) (j : Nat) : (rowNTo z i sts)[j]? = (sts[j]?).map (fun st => if j < i then readN z st else []) := by simp [rowNTo]
theorem rowNTo_len (z : Nat) (i : Nat) (sts : List DSt) : (rowNTo z i sts).length = sts.length := by simp [rowNTo]
theorem rowNTo_zero (z : Nat) (sts : List DSt) : rowNTo z 0 sts = List.replicate sts.length [] := by
  apply List.ext_getElem?
  intro j
  rw [rowNTo_get, List.getElem?_replicate]
  by_cases h : j < sts.length
  · rw [List.getElem?_eq_getElem h]; simp [h]
  · rw [List.getElem?_eq_none (by omega)]; simp [h]
theorem rowNTo_succ (z : Nat) (i : Nat) (sts : List DSt) {st : DSt} (h : sts[i]? = some st) : (rowNTo z i sts).set i (readN z st) = rowNTo z (i + 1) sts := by
  apply List.ext_getElem?
  intro j
  rw [rowNTo_get]
  by_cases hj : i = j
  · subst hj
    rw [List.getElem?_set_self (by rw [rowNTo_len]; exact (List.getElem?_eq_some_iff.1 h).1), h]; simp
  · rw [List.getElem?_set_ne hj, rowNTo_get]
    cases sts[j]? with
    | none => rfl
    | some y =>
      simp only [Option.map_some, Option.some.injEq]
      by_cases h1 : j < i
      · rw [if_pos h1, if_pos (by omega)]
      · rw [if_neg h1, if_neg (by omega)]
theorem rowNTo_all (z : Nat) (sts : List DSt) : rowNTo z sts.length sts = sts.map (fun st => readN z st) := by
  apply List.ext_getElem?
  intro j
  rw [rowNTo_get, List.getElem?_map]
  cases h : sts[j]? with
  | none => rfl
  | some y =>
    have := (List.getElem?_eq_some_iff.1 h).1
    simp [this]
section
variable {U : Nat → Prop} {w : World} {a s : Nat} {v : Value} {Fs : Nat → Nat → Prop} {ps : List Nat} {sts : List DSt}
def RowNE (w : World) (z : Nat) (sts : List DSt) (e : Ending) (w' : World) : Prop := ∃ ob, e = .returned (.slice (some ⟨ob, 0, none⟩) sts.length sts.length) ∧ RdL RowR 1 (w.heap.size ≤ ·) w' (some ⟨ob, 0, none⟩) sts.length (sts.map (fun st => readN z st)) ∧ Below w.heap.size w w'
set_option maxRecDepth 100000 in
set_option maxHeartbeats 4000000 in
theorem arown_any (h : Hid (ArrB U w a v Fs ps s sts)) (hk : 0 < sts.length) (hk2 : sts.length ≤ 600) {z : Nat} (hz : z < s) (hR : Hid (RdOk sts z)) :
    Calls Tryz.prog 148 #[.pointer (some ⟨a, 0, none⟩), .int .i64 (z : Int)] w fun e w' => RowNE w z sts e w' := by
  go_enter Tryz.func148, Tryz.ntmps148
  go_wp2_with fail
  refine (an_any h hk).mono ?_
  rintro e w1 ⟨rfl, t1⟩
  have hmk := makeRowsA sts.length hk2 w1
  have b1 := RowN.new w.heap.size w1 sts.length 80
  have a1 : Below w1.heap.size w1 (w1.alloc (.cells (List.replicate sts.length (Value.slice none 0 0)).toArray 80)) := (Below.refl _ _).alloc (Nat.le_refl _) _
  obtain ⟨w2, hw2⟩ : ∃ w2, w1.alloc (.cells (List.replicate sts.length (Value.slice none 0 0)).toArray 80) = w2 := ⟨_, rfl⟩
  obtain ⟨ob, hob⟩ : ∃ ob, w1.heap.size = ob := ⟨_, rfl⟩
  rw [hw2] at hmk b1 a1
  have a12 := below_then a1 t1
  have hob1 : w.heap.size ≤ ob := by rw [← hob]; exact t1.size
  rw [hob] at hmk b1
  have HB : Hid (RowN w.heap.size w2 ob sts.length (rowNTo z 0 sts)) := Lib.hid (by rw [rowNTo_zero]; exact b1)
  have HK := Lib.hid a12
  clear b1 a1 a12 t1 hw2 hob
  go_wp2_with fail
  clear hmk
  go_loopw [12] (fun vi wr => ∃ i : Nat, i ≤ sts.length ∧ vi = .int .i64 i ∧ Hid (RowN w.heap.size wr ob sts.length (rowNTo z i sts)) ∧ Hid (Below w.heap.size w wr)) (fun vi _ => sts.length - (intOf vi).toNat)
  case atStart => exact ⟨0, Nat.zero_le _, rfl, HB, HK⟩
  case round =>
    clear HB HK
    obtain ⟨wo, rfl⟩ : ∃ wo, wo = wr := ⟨_, rfl⟩
    obtain ⟨i, hi, rfl, B, K⟩ := hrel
    by_cases hlt : i < sts.length
    · obtain ⟨st, hst⟩ : ∃ st, sts[i]? = some st := ⟨_, List.getElem?_eq_getElem hlt⟩
      have h1 : (i : Int) < (sts.length : Int) := by omega
      have h2 : (0 : Int) ≤ (i : Int) := Int.natCast_nonneg _
      have h3 : (i : Int) < 600 := by omega
      have HST := Lib.hid hst
      clear hst
      have hrd : Calls Tryz.prog 202 #[.pointer (some ⟨a, 0, none⟩), .int .i64 (i : Int), .int .i64 (z : Int)] wo fun e w' => ∃ A m c E, e = .returned (.tuple #[.slice A m c, .int .i64 E]) ∧ m ≤ c ∧ RdL ByR 1 (wo.heap.size ≤ ·) w' A m (readN z st) ∧ Below wo.heap.size wo w' :=
        (aread2 (Lib.hid (h.out.below K.out)) i HST.out z hz (hR.out.b st (List.mem_of_getElem? HST.out))).mono fun e w' h2 => by
          rcases h2 with ⟨hb, ⟨hd, rfl⟩ | ⟨hd, A, rfl, hr⟩⟩
          · exact ⟨none, 0, 0, 90, rfl, Nat.le_refl _, by unfold readN; rw [if_pos hd]; exact RdL.nil, hb⟩
          · exact ⟨A, 64, 64, 0, rfl, Nat.le_refl _, by unfold readN; rw [if_neg (by rw [hd]; simp)]; exact hr, hb⟩
      go_wp2_with fail
      refine hrd.mono ?_
      clear hrd
      rintro e w3 ⟨A, m, c, E, rfl, hmc, r3, t3⟩
      have hol : ob < wo.heap.size := by obtain ⟨vs, hbx, _⟩ := B.out; exact hbx.lt
      have B2 := B.out.below t3
      have r3' : RdL ByR 1 (fun b => w.heap.size ≤ b ∧ b ≠ ob) w3 A m (readN z st) := r3.weaken ByR.stable (fun b hb => ⟨Nat.le_trans K.out.size hb, by omega⟩)
      have B3 := B2.set (c := c) i hmc r3'
      rw [rowNTo_succ _ _ _ HST.out] at B3
      obtain ⟨vs, hbx, hvl, _⟩ := B2
      have z2 := hbx.frozen i
      have q2 : ∃ q, w3.cell? ⟨ob, i, none⟩ = some q := by
        rw [hbx.cell]
        exact ⟨_, Array.getElem?_eq_getElem (by simp; omega)⟩
      obtain ⟨q, q2⟩ := q2
      have HB3 := Lib.hid B3
      have K3 := Lib.hid ((below_then t3 K.out).setCell (p := ⟨ob, i, none⟩) hob1 (.slice A m c))
      clear B3 r3 r3' t3 hbx hvl
      go_wp2_with fail
      exact ⟨⟨i + 1, by omega, by go_num, HB3, K3⟩, by simp [intOf]; omega⟩
    · obtain rfl : i = sts.length := by omega
      have h1 : ¬ (sts.length : Int) < (sts.length : Int) := by omega
      go_wp2_with fail
      go_ret
      rw [rowNTo_all] at B
      exact ⟨ob, rfl, B.out.rd hob1, K.out⟩
end
end Go.Proofs.YtcliejdiaohamaaGreat

set_option linter.unusedSimpArgs false
set_option linter.unusedVariables false
namespace Go.Proofs.YtcliejdiaohamaaGreat
open Go.RowKit Go.Cib
attribute [local go_sem] cell_set Later.cell Later.frozen Grw.cell Grw.frozen
theorem Later.refl0 (w : World) : ∃ y : Later w.heap.size w, y.to = w := ⟨⟨w, Below.refl _ _⟩, rfl⟩
def isS (slot : Int) : Bool := decide (0 ≤ slot ∧ slot < 2)
theorem is_any {w : World} (slot : Int) : Calls Tryz.prog 82 #[.int .i64 slot] w fun e w' => e = .returned (.bool (isS slot)) ∧ w' = w := by
  by_cases h0 : 0 ≤ slot
  · by_cases h2 : slot < 2
    · have e : isS slot = true := decide_eq_true ⟨h0, h2⟩
      have f0 : decide (slot ≥ 0) = true := decide_eq_true h0
      have f2 : decide (slot < 2) = true := decide_eq_true h2
      rw [e]
      clear e
      go_enter Tryz.func82, Tryz.ntmps82
      go_wp2_with fail
      go_ret
      exact ⟨rfl, rfl⟩
    · have e : isS slot = false := decide_eq_false (by omega)
      have f0 : decide (slot ≥ 0) = true := decide_eq_true h0
      have f2 : decide (slot < 2) = false := decide_eq_false h2
      rw [e]
      clear e
      go_enter Tryz.func82, Tryz.ntmps82
      go_wp2_with fail
      go_ret
      exact ⟨rfl, rfl⟩
  · have e : isS slot = false := decide_eq_false (by omega)
    have f0 : decide (slot ≥ 0) = false := decide_eq_false h0
    rw [e]
    clear e
    go_enter Tryz.func82, Tryz.ntmps82
    go_wp2_with fail
    go_ret
    exact ⟨rfl, rfl⟩
/-- A function that tells a number, whatever happened. -/
def Tells (B : Nat) (W : World) (f : FuncId) (v : Value) (N : Nat) : Prop := ∀ y : Later B W, Calls Tryz.prog f #[v] y.to fun e w' => e = .returned (.int .i64 (N : Int)) ∧ ∃ z : Later B W, w' = z.to
def rdyE (N1 N2 n : Nat) (slot : Int) : Int := if N1 = 0 ∨ N2 = 0 then 1 else if isS slot = false ∨ N1 ≠ N2 ∨ slot ≥ (n : Int) then 2 else 0
section
variable {B : Nat} {W : World} {va vc : Value} {N1 N2 n : Nat}
set_option maxRecDepth 100000 in
set_option maxHeartbeats 8000000 in
theorem hready_any (hN : Tells B W 86 va N1) (hC : Tells B W 107 vc N2) (hS : N1 ≠ 0 → Tells B W 78 va n) (slot : Int) (y : Later B W) :
    Calls Tryz.prog 69 #[va, vc, .int .i64 slot] y.to fun e w' => e = .returned (.int .i64 (rdyE N1 N2 n slot)) ∧ ∃ z : Later B W, w' = z.to := by
  have HN := Lib.hid hN
  have HC := Lib.hid hC
  have p1 : (0 : Int) ≤ (N1 : Int) := Int.natCast_nonneg _
  have p2 : (0 : Int) ≤ (N2 : Int) := Int.natCast_nonneg _
  by_cases h1 : N1 = 0
  · have e : rdyE N1 N2 n slot = 1 := if_pos (.inl h1)
    have HE := Lib.hid e
    have f1 : ((N1 : Int) == 0) = true := by rw [h1]; rfl
    clear hN hC hS e h1
    rw [HE.out]
    go_enter Tryz.func69, Tryz.ntmps69
    go_wp2_with (go_at_call 86; refine (HN.out _).mono ?_; rintro e w9 ⟨rfl, z, rfl⟩)
    go_ret
    exact ⟨rfl, _, rfl⟩
  have f1 : ((N1 : Int) == 0) = false := by simpa using h1
  by_cases h2 : N2 = 0
  · have e : rdyE N1 N2 n slot = 1 := if_pos (.inr h2)
    have HE := Lib.hid e
    have f2 : ((N2 : Int) == 0) = true := by rw [h2]; rfl
    clear hN hC hS e h1 h2
    rw [HE.out]
    go_enter Tryz.func69, Tryz.ntmps69
    go_wp2_with (first | (go_at_call 86; refine (HN.out _).mono ?_; rintro e w9 ⟨rfl, z, rfl⟩) | (go_at_call 107; refine (HC.out _).mono ?_; rintro e w9 ⟨rfl, z, rfl⟩))
    go_ret
    exact ⟨rfl, _, rfl⟩
  have f2 : ((N2 : Int) == 0) = false := by simpa using h2
  have HS := Lib.hid (hS h1)
  have his := fun w => is_any (w := w) slot
  cases hi : isS slot with
  | false =>
    have e : rdyE N1 N2 n slot = 2 := by unfold rdyE; rw [if_neg (by omega), if_pos (.inl hi)]
    have HE := Lib.hid e
    rw [hi] at his
    clear hN hC hS e h1 h2 hi
    rw [HE.out]
    go_enter Tryz.func69, Tryz.ntmps69
    go_wp2_with (first | (go_at_call 86; refine (HN.out _).mono ?_; rintro e w9 ⟨rfl, z, rfl⟩) | (go_at_call 107; refine (HC.out _).mono ?_; rintro e w9 ⟨rfl, z, rfl⟩) | (go_at_call 82; refine (his _).mono ?_; rintro e w9 ⟨rfl, hw9⟩; rw [hw9]; clear hw9))
    go_ret
    exact ⟨rfl, _, rfl⟩
  | true =>
    rw [hi] at his
    by_cases h3 : N1 = N2
    · subst h3
      have f3 : ((N1 : Int) != (N1 : Int)) = false := by simp
      by_cases h4 : slot ≥ (n : Int)
      · have e : rdyE N1 N1 n slot = 2 := by unfold rdyE; rw [if_neg (by omega), if_pos (.inr (.inr h4))]
        have HE := Lib.hid e
        have f4 : decide (slot ≥ (n : Int)) = true := decide_eq_true h4
        clear hN hC hS e h1 h2 hi
        rw [HE.out]
        go_enter Tryz.func69, Tryz.ntmps69
        go_wp2_with (first | (go_at_call 86; refine (HN.out _).mono ?_; rintro e w9 ⟨rfl, z, rfl⟩) | (go_at_call 107; refine (HC.out _).mono ?_; rintro e w9 ⟨rfl, z, rfl⟩) | (go_at_call 78; refine (HS.out _).mono ?_; rintro e w9 ⟨rfl, z, rfl⟩) | (go_at_call 82; refine (his _).mono ?_; rintro e w9 ⟨rfl, hw9⟩; rw [hw9]; clear hw9))
        go_ret
        exact ⟨rfl, _, rfl⟩
      · have e : rdyE N1 N1 n slot = 0 := by unfold rdyE; rw [if_neg (by omega), if_neg (by rw [hi]; simp; omega)]
        have HE := Lib.hid e
        have f4 : decide (slot ≥ (n : Int)) = false := decide_eq_false h4
        clear hN hC hS e h1 h2 hi
        rw [HE.out]
        go_enter Tryz.func69, Tryz.ntmps69
        go_wp2_with (first | (go_at_call 86; refine (HN.out _).mono ?_; rintro e w9 ⟨rfl, z, rfl⟩) | (go_at_call 107; refine (HC.out _).mono ?_; rintro e w9 ⟨rfl, z, rfl⟩) | (go_at_call 78; refine (HS.out _).mono ?_; rintro e w9 ⟨rfl, z, rfl⟩) | (go_at_call 82; refine (his _).mono ?_; rintro e w9 ⟨rfl, hw9⟩; rw [hw9]; clear hw9))
        go_ret
        exact ⟨rfl, _, rfl⟩
    · have f3 : ((N1 : Int) != (N2 : Int)) = true := by simp; omega
      have e : rdyE N1 N2 n slot = 2 := by unfold rdyE; rw [if_neg (by omega), if_pos (.inr (.inl h3))]
      have HE := Lib.hid e
      clear hN hC hS e h1 h2 hi h3
      rw [HE.out]
      go_enter Tryz.func69, Tryz.ntmps69
      go_wp2_with (first | (go_at_call 86; refine (HN.out _).mono ?_; rintro e w9 ⟨rfl, z, rfl⟩) | (go_at_call 107; refine (HC.out _).mono ?_; rintro e w9 ⟨rfl, z, rfl⟩) | (go_at_call 82; refine (his _).mono ?_; rintro e w9 ⟨rfl, hw9⟩; rw [hw9]; clear hw9))
      go_ret
      exact ⟨rfl, _, rfl⟩
end
theorem Tells.smid {X : Nat → Prop} {w0 w : World} {a cb bf k m n : Nat} {sts : List DSt} (h : SMidX X w0 w a cb bf k m n sts) : Tells w.heap.size w 86 (.pointer (some ⟨a, 0, none⟩)) (k + m) ∧ Tells w.heap.size w 107 (.pointer (some ⟨cb, 0, none⟩)) (k + m) ∧ Tells w.heap.size w 78 (.pointer (some ⟨a, 0, none⟩)) n := by
  refine ⟨fun y => ?_, fun y => ?_, fun y => ?_⟩
  · have h2 := h.below' y.ok
    have hp := h2.pos
    obtain ⟨h0, ⟨U, C, ⟨v, Fs, ps, hA⟩, hC, hU, hd, hx⟩, hl, h1, h3⟩ := h2
    have := an_any (Lib.hid hA) (by omega)
    rw [hl] at this
    exact this.mono fun e w' ⟨he, hb⟩ => ⟨he, ⟨⟨w', y.ok.trans (hb.mono y.ok.size)⟩, rfl⟩⟩
  · exact (cn_any (h.below' y.ok).cod).mono fun e w' ⟨he, hb⟩ => ⟨he, ⟨⟨w', y.ok.trans (hb.mono y.ok.size)⟩, rfl⟩⟩
  · have h2 := h.below' y.ok
    have hp := h2.pos
    obtain ⟨h0, ⟨U, C, ⟨v, Fs, ps, hA⟩, hC, hU, hd, hx⟩, hl, h1, h3⟩ := h2
    exact (asectors_any (Lib.hid hA) (by omega)).mono fun e w' ⟨he, hb⟩ => ⟨he, ⟨⟨w', y.ok.trans (hb.mono y.ok.size)⟩, rfl⟩⟩
/-- The name of a head's stripe. -/
def supC (slot : Int) (ep : Nat) : Array Value := if isS slot = true ∧ ep < 1099511627776 then #[.int .u8 1, .int .i64 slot, .int .u64 ((ep * 1048576 : Nat) : Int)] else #[.int .u8 0, .int .i64 0, .int .u64 0]
end Go.Proofs.YtcliejdiaohamaaGreat

set_option linter.unusedSimpArgs false
set_option linter.unusedVariables false
namespace Go.Proofs.YtcliejdiaohamaaGreat
open Go.RowKit Go.Cib
attribute [local go_sem] cell_set Later.cell Later.frozen Grw.cell Grw.frozen
theorem gen_bad {w : World} {ep : Nat} {ct : Int} (he : ¬ ep < 1099511627776) : Calls Tryz.prog 81 #[.int .u64 (ep : Int), .int .i64 ct] w fun e w' => e = .returned (.tuple #[.int .u64 0, .int .i64 2]) ∧ w' = w := by
  have f0 : decide ((ep : Int) ≥ 1099511627776) = true := decide_eq_true (by omega)
  go_enter Tryz.func81, Tryz.ntmps81
  go_wp2_with fail
  go_ret2
  exact ⟨rfl, rfl⟩
theorem epoch_any {w : World} {g : Nat} : Calls Tryz.prog 80 #[.int .u64 (g : Int)] w fun e w' => e = .returned (.int .u64 ((g / 1048576 : Nat) : Int)) ∧ w' = w := by
  have e : ((g / 1048576 : Nat) : Int) = (g : Int) / 1048576 := by omega
  rw [e]
  clear e
  go_enter Tryz.func80, Tryz.ntmps80
  go_wp2_with fail
  go_ret
  exact ⟨rfl, rfl⟩
set_option maxRecDepth 100000 in
set_option maxHeartbeats 8000000 in
theorem href_any {w : World} {slot : Int} {ep : Nat} : Calls Tryz.prog 19 #[.int .i64 slot, .int .u64 (ep : Int)] w fun e w' => e = .returned (.agg (supC slot ep)) ∧ Below w.heap.size w w' := by
  have hb0 : Below w.heap.size w (w.alloc (.cells #[.int .u8 0, .int .i64 0, .int .u64 0] 41)) := (Below.refl _ _).alloc (Nat.le_refl _) _
  have bB := BoxAt.new w #[.int .u8 0, .int .i64 0, .int .u64 0] 41
  obtain ⟨w1, hw1⟩ : ∃ w1, w.alloc (.cells #[.int .u8 0, .int .i64 0, .int .u64 0] 41) = w1 := ⟨_, rfl⟩
  obtain ⟨q, hq⟩ : ∃ q, w.heap.size = q := ⟨_, rfl⟩
  have hq0 : w.heap.size ≤ q := by omega
  rw [hw1] at hb0 bB
  rw [hq] at bB
  have HB0 := Lib.hid hb0
  have c0 := bB.cell 0
  have c1 := bB.cell 1
  have c2 := bB.cell 2
  have z0 := bB.frozen 0
  have z1 := bB.frozen 1
  have z2 := bB.frozen 2
  clear hb0 bB
  have his := fun w => is_any (w := w) slot
  by_cases he : ep < 1099511627776
  · have hg := fun w => gen_any (w := w) (ct := 0) he (by omega)
    cases hi : isS slot with
    | true =>
      have hs : supC slot ep = #[.int .u8 1, .int .i64 slot, .int .u64 ((ep * 1048576 + 0 : Nat) : Int)] := by unfold supC; rw [if_pos ⟨hi, he⟩, Nat.add_zero]
      rw [hs]
      rw [hi] at his
      clear hs hi he
      rw [show ((0 : Nat) : Int) = 0 from rfl] at hg
      obtain ⟨G, hG⟩ : ∃ G, ep * 1048576 + 0 = G := ⟨_, rfl⟩
      rw [hG] at hg ⊢
      clear hG
      go_enter Tryz.func19, Tryz.ntmps19
      go_wp2_with (first | (go_at_call 81; refine (hg _).mono ?_; rintro e w9 ⟨rfl, hw9⟩; rw [hw9]; clear hw9) | (go_at_call 82; refine (his _).mono ?_; rintro e w9 ⟨rfl, hw9⟩; rw [hw9]; clear hw9))
      refine bodyPost_ret (v := .agg #[.int .u8 1, .int .i64 slot, .int .u64 (G : Int)]) (by simp [results, Tryz.results19, go_sem, *]) rfl ?_
      exact ⟨rfl, ((HB0.out.setCell (p := ⟨q, 0, none⟩) hq0 _).setCell (p := ⟨q, 1, none⟩) hq0 _).setCell (p := ⟨q, 2, none⟩) hq0 _⟩
    | false =>
      have hs : supC slot ep = #[.int .u8 0, .int .i64 0, .int .u64 0] := if_neg (by rw [hi]; simp)
      rw [hs]
      rw [hi] at his
      clear hs hi he
      rw [show ((0 : Nat) : Int) = 0 from rfl] at hg
      obtain ⟨G, hG⟩ : ∃ G, ep * 1048576 + 0 = G := ⟨_, rfl⟩
      rw [hG] at hg
      clear hG
      go_enter Tryz.func19, Tryz.ntmps19
      go_wp2_with (first | (go_at_call 81; refine (hg _).mono ?_; rintro e w9 ⟨rfl, hw9⟩; rw [hw9]; clear hw9) | (go_at_call 82; refine (his _).mono ?_; rintro e w9 ⟨rfl, hw9⟩; rw [hw9]; clear hw9))
      refine bodyPost_ret (v := .agg #[.int .u8 0, .int .i64 0, .int .u64 0]) (by simp [results, Tryz.results19, go_sem, *]) rfl ?_
      exact ⟨rfl, ((HB0.out.setCell (p := ⟨q, 0, none⟩) hq0 _).setCell (p := ⟨q, 1, none⟩) hq0 _).setCell (p := ⟨q, 2, none⟩) hq0 _⟩
  · have hg := fun w => gen_bad (w := w) (ct := 0) he
    have hs : supC slot ep = #[.int .u8 0, .int .i64 0, .int .u64 0] := if_neg (by simp [he])
    rw [hs]
    clear hs he
    cases hi : isS slot with
    | true =>
      rw [hi] at his
      clear hi
      go_enter Tryz.func19, Tryz.ntmps19
      go_wp2_with (first | (go_at_call 81; refine (hg _).mono ?_; rintro e w9 ⟨rfl, hw9⟩; rw [hw9]; clear hw9) | (go_at_call 82; refine (his _).mono ?_; rintro e w9 ⟨rfl, hw9⟩; rw [hw9]; clear hw9))
      refine bodyPost_ret (v := .agg #[.int .u8 0, .int .i64 0, .int .u64 0]) (by simp [results, Tryz.results19, go_sem, *]) rfl ?_
      exact ⟨rfl, ((HB0.out.setCell (p := ⟨q, 0, none⟩) hq0 _).setCell (p := ⟨q, 1, none⟩) hq0 _).setCell (p := ⟨q, 2, none⟩) hq0 _⟩
    | false =>
      rw [hi] at his
      clear hi
      go_enter Tryz.func19, Tryz.ntmps19
      go_wp2_with (first | (go_at_call 81; refine (hg _).mono ?_; rintro e w9 ⟨rfl, hw9⟩; rw [hw9]; clear hw9) | (go_at_call 82; refine (his _).mono ?_; rintro e w9 ⟨rfl, hw9⟩; rw [hw9]; clear hw9))
      refine bodyPost_ret (v := .agg #[.int .u8 0, .int .i64 0, .int .u64 0]) (by simp [results, Tryz.results19, go_sem, *]) rfl ?_
      exact ⟨rfl, ((HB0.out.setCell (p := ⟨q, 0, none⟩) hq0 _).setCell (p := ⟨q, 1, none⟩) hq0 _).setCell (p := ⟨q, 2, none⟩) hq0 _⟩
end Go.Proofs.YtcliejdiaohamaaGreat

set_option linter.unusedSimpArgs false
set_option linter.unusedVariables false
namespace Go.Proofs.YtcliejdiaohamaaGreat
open Go.RowKit Go.Cib
attribute [local go_sem] cell_set Later.cell Later.frozen Grw.cell Grw.frozen
section
variable {P X S : Nat → Prop} {w0 w w' : World} {a cb bf k m n : Nat} {sts : List DSt} {r : Ref} {g : Nat → Bool} {xs : List Nat}
end
end Go.Proofs.YtcliejdiaohamaaGreat

set_option linter.unusedSimpArgs false
set_option linter.unusedVariables false
namespace Go.Proofs.YtcliejdiaohamaaGreat
open Go.RowKit Go.Cib
attribute [local go_sem] cell_set Later.cell Later.frozen Grw.cell Grw.frozen
section
variable {P X Y : Nat → Prop} {w0 w w' : World} {a cb bf k m n : Nat} {sts : List DSt}
theorem _root_.Go.Cib.OwnL.kp {T : Type} {R : (Nat → Prop) → World → List Value → T → Prop} {E : TypeId} {s base n : Nat} {S S' : Nat → Prop} {v : Value} {xs : List T} (hR : Stable R) (h : OwnL R E s base S w v n xs) (hk : KpX X w w')
    (hv : ∀ g, v.ownBlock = some g → X g) (hS : ∀ b, S b → b < w.heap.size → X b ∧ S' b) : OwnL R E s base S' w' v n xs := by
  obtain ⟨css, h1, h2, h3, h4, h5⟩ := h
  refine ⟨css, ⟨h1.1, ?_⟩, h2, h3, h4, fun i cs x hc hx => ?_⟩
  · rcases h1.2 with h | ⟨g, cap, cur, rfl, g1, g2, g3⟩
    · exact .inl h
    · exact .inr ⟨g, cap, cur, rfl, g1, (hk.1 g (hv g rfl)).trans g2, g3⟩
  · exact hR _ _ _ _ _ _ (h5 i cs x hc hx) fun b hb hl => ⟨⟨(hS b hb.1 hl).2, hb.2⟩, hk.1 b (hS b hb.1 hl).1⟩
end
/-- A value that was put: the first of its places (from the pool's first), and its bytes. -/
def KbR (k f : Nat) (S : Nat → Prop) (w : World) (cs : List Value) (x : Nat × List Nat) : Prop := ∃ A c, cs = [.slice A (cntN k x.2.length) c, .int .u64 (x.1 : Int), .int .i64 (x.2.length : Int)] ∧ cntN k x.2.length ≤ c ∧ RdL IntR 1 S w A (cntN k x.2.length) (plL (f + x.1) (cntN k x.2.length))
theorem KbR.stable {k f : Nat} : Stable (KbR k f) := fun _ _ _ _ _ _ ⟨A, c, h1, h2, h3⟩ hk => ⟨A, c, h1, h2, h3.stable IntR.stable hk⟩
theorem KbR.one {k f : Nat} : ∀ S w cs x, KbR k f S w cs x → ∀ u ∈ cs, u.oneCell' = true := by
  rintro S w cs x ⟨A, c, rfl, _, _⟩ u hu
  simp at hu
  rcases hu with rfl | rfl | rfl <;> rfl
structure Bks (k f B b : Nat) (X : Nat → Prop) (w : World) (va vh : Value) (na nh : Nat) (ka : List (Nat × List Nat)) (kh : List (List Nat)) : Prop where
  oa : OwnL (KbR k f) 61 3 b (fun j => X j ∧ some j ≠ vh.ownBlock) w va na ka
  oh : OwnL RowR 80 1 b (fun j => j < B) w vh nh kh
  ne : va.ownBlock = none ∨ va.ownBlock ≠ vh.ownBlock
  xa : ∀ g, va.ownBlock = some g → X g
  xh : ∀ g, vh.ownBlock = some g → X g
  xb : ∀ j, j < B → X j
  bb : B ≤ b
section
variable {k f B b na nh : Nat} {X Y : Nat → Prop} {w w' : World} {va vh : Value} {ka : List (Nat × List Nat)} {kh : List (List Nat)}
theorem Bks.nil (hB : B ≤ b) : Bks k f B b (fun j => j < B) w (.slice none 0 0) (.slice none 0 0) 0 0 [] [] where
  oa := OwnL.nil_
  oh := OwnL.nil_
  ne := .inl rfl
  xa g hg := by cases hg
  xh g hg := by cases hg
  xb j hj := hj
  bb := hB
theorem Bks.kp (h : Bks k f B b X w va vh na nh ka kh) (hK : KpX X w w') (hY : ∀ j, X j → Y j) : Bks k f B b Y w' va vh na nh ka kh where
  oa := h.oa.kp KbR.stable hK h.xa fun j hj _ => ⟨hj.1, hY j hj.1, hj.2⟩
  oh := h.oh.kp RowR.stable hK h.xh fun j hj _ => ⟨h.xb j hj, hj⟩
  ne := h.ne
  xa g hg := hY g (h.xa g hg)
  xh g hg := hY g (h.xh g hg)
  xb j hj := hY j (h.xb j hj)
  bb := h.bb
end
end Go.Proofs.YtcliejdiaohamaaGreat

set_option linter.unusedSimpArgs false
set_option linter.unusedVariables false
namespace Go.Proofs.YtcliejdiaohamaaGreat
open Go.RowKit Go.Cib
attribute [local go_sem] cell_set Later.cell Later.frozen Grw.cell Grw.frozen
attribute [local go_sem ↓] run_min_b
/-- Two slices that grow, of bytes and of ints, and a box. -/
structure Trio (b : Nat) (w : World) (vo vl : Value) (no nl : Nat) (ob : List Nat) (ll : List Int) (qr : Nat) (cs : Array Value) : Prop where
  oo : OwnL ByR 5 1 b (fun _ => True) w vo no ob
  ol : OwnL IntR 3 1 b (fun _ => True) w vl nl ll
  ne : ∀ g, vo.ownBlock = some g → vl.ownBlock ≠ some g
  n1 : vo.ownBlock ≠ some qr
  n2 : vl.ownBlock ≠ some qr
  bx : BoxAt w qr cs
section
variable {b no nl qr : Nat} {w w' : World} {vo vl vo' vl' : Value} {ob : List Nat} {ll : List Int} {cs : Array Value}
theorem Trio.below (h : Trio b w vo vl no nl ob ll qr cs) (hb : Below w.heap.size w w') : Trio b w' vo vl no nl ob ll qr cs :=
  ⟨h.oo.keep ByR.stable hb, h.ol.keep IntR.stable hb, h.ne, h.n1, h.n2, h.bx.below hb⟩
end
section
variable {w0 w w' : World} {a cb bf k m n aa G size : Nat} {sts : List DSt} {gs : Nat → Nat → Bool} {xs : List Nat}
/-- An exit at the end, and what is so there. -/
def NormP (R : Act → World → Prop) : Exit → Act → World → Prop
  | .normal, a, w => R a w
  | _, _, _ => False
theorem NormP.le {R : Act → World → Prop} {Q : Exit → Act → World → Prop} (h : ∀ a w, R a w → Q .normal a w) : ∀ e a w, NormP R e a w → Q e a w
  | .normal, a, w, hr => h a w hr
  | .panic _, _, _, hr => hr.elim
  | .ret, _, _, hr => hr.elim
  | .outgrown, _, _, hr => hr.elim
  | .exit _, _, _, hr => hr.elim
  | .goto _, _, _, hr => hr.elim
theorem NormP.normal {R : Act → World → Prop} {a : Act} {w : World} (h : R a w) : NormP R .normal a w := h
end
end Go.Proofs.YtcliejdiaohamaaGreat

set_option linter.unusedSimpArgs false
set_option linter.unusedVariables false
namespace Go.Proofs.YtcliejdiaohamaaGreat
open Go.RowKit Go.Cib
attribute [local go_sem] cell_set Later.cell Later.frozen Grw.cell Grw.frozen
end Go.Proofs.YtcliejdiaohamaaGreat

set_option linter.unusedSimpArgs false
set_option linter.unusedVariables false
namespace Go.Proofs.YtcliejdiaohamaaGreat
open Go.RowKit Go.Cib
attribute [local go_sem] cell_set Later.cell Later.frozen Grw.cell Grw.frozen
theorem BoxAt.ints {w : World} {b : Nat} {xs : List Int} (h : BoxAt w b (xs.map (Value.int .i64)).toArray) {S : Nat → Prop} (hS : S b) : RdL IntR 1 S w (some ⟨b, 0, none⟩) xs.length xs :=
  ⟨rfl, fun _ => ⟨b, 0, rfl, hS, h.lt, fun i x hx => ⟨[.int .i64 x], rfl, rfl, fun j v hj => by
    have hj0 : j = 0 := by
      have := (List.getElem?_eq_some_iff.1 hj).1
      simp at this; exact this
    subst hj0
    simp at hj
    subst hj
    rw [show 0 + i * 1 + 0 = i by omega, h.cell i]
    simp [hx]⟩⟩⟩
end Go.Proofs.YtcliejdiaohamaaGreat

set_option linter.unusedSimpArgs false
set_option linter.unusedVariables false
namespace Go.Proofs.YtcliejdiaohamaaGreat
open Go.RowKit Go.Cib
attribute [local go_sem] cell_set Later.cell Later.frozen Grw.cell Grw.frozen
/-- The code that such a reading answers. -/
def ngE (n : Nat) (at' : Int) (k : Nat) : Int := if at' < 0 ∨ at' > n then 2 else if (k : Int) > (n : Int) - at' then 5 else 0
/-- What it reads. -/
def ngV (xs : List Nat) (at' : Int) (k : Nat) : Nat := if ngE xs.length at' k = 0 then unN ((xs.drop at'.toNat).take k) else 0
def NgR (n : Nat) (xs : List Nat) (at' : Int) (k : Nat) (e : Ending) : Prop := e = .returned (.tuple #[.int .u64 (ngV xs at' k : Int), .int .i64 (ngE n at' k)])
theorem ng_in {n : Nat} {xs : List Nat} (hl : xs.length = n) {a k : Nat} (h : a + k ≤ n) : ngE n (a : Int) k = 0 ∧ ngV xs (a : Int) k = unN ((xs.drop a).take k) := by
  have e : ngE n (a : Int) k = 0 := by
    unfold ngE
    rw [if_neg (by omega), if_neg (by omega)]
  refine ⟨e, ?_⟩
  unfold ngV
  rw [hl, if_pos e, Int.toNat_natCast]
theorem ng_out {n : Nat} {xs : List Nat} (hl : xs.length = n) {z : Int} {k : Nat} (h : z < 0 ∨ z > n) : ngE n z k = 2 ∧ ngV xs z k = 0 := by
  have e : ngE n z k = 2 := by
    unfold ngE
    rw [if_pos h]
  refine ⟨e, ?_⟩
  unfold ngV
  rw [hl, e, if_neg (by decide)]
theorem ng_short {n : Nat} {xs : List Nat} (hl : xs.length = n) {z : Int} {k : Nat} (h0 : 0 ≤ z) (h1 : z ≤ n) (h : (n : Int) - z < k) : ngE n z k = 5 ∧ ngV xs z k = 0 := by
  have e : ngE n z k = 5 := by
    unfold ngE
    rw [if_neg (by omega), if_pos (by omega)]
  refine ⟨e, ?_⟩
  unfold ngV
  rw [hl, e, if_neg (by decide)]
set_option maxRecDepth 100000 in
set_option maxHeartbeats 4000000 in
theorem nget_or {w : World} {n c k : Nat} {z : Int} {A : Option Addr} {S : Nat → Prop} {xs : List Nat} (R : RdL ByR 1 S w A n xs) (hnc : n ≤ c) (hn : n ≤ 4000) (k1 : 1 ≤ k) (k8 : k ≤ 8) :
    Calls Tryz.prog 122 #[.slice A n c, .int .i64 z, .int .i64 (k : Int)] w fun e w' => NgR n xs z k e ∧ w' = w := by
  have hl := R.1
  have q1 : ¬ (k : Int) < 1 := by omega
  have q2 : ¬ (k : Int) > 8 := by omega
  by_cases h0 : z < 0
  · obtain ⟨e1, e2⟩ := ng_out hl (k := k) (Or.inl h0)
    unfold NgR
    rw [e1, e2]
    clear R hl e1 e2
    go_enter Tryz.func122, Tryz.ntmps122
    go_wp2_with fail
    go_ret2
    exact ⟨rfl, rfl⟩
  by_cases h1 : z > (n : Int)
  · obtain ⟨e1, e2⟩ := ng_out hl (k := k) (Or.inr h1)
    unfold NgR
    rw [e1, e2]
    clear R hl e1 e2
    go_enter Tryz.func122, Tryz.ntmps122
    go_wp2_with fail
    go_ret2
    exact ⟨rfl, rfl⟩
  obtain ⟨a, rfl⟩ : ∃ a : Nat, z = a := ⟨z.toNat, by omega⟩
  by_cases h2 : (k : Int) > (n : Int) - (a : Int)
  · obtain ⟨e1, e2⟩ := ng_short hl (z := (a : Int)) (k := k) (by omega) (by omega) (by omega)
    unfold NgR
    rw [e1, e2]
    have hw : IntKind.i64.wrap ((n : Int) - (a : Int)) = (n : Int) - (a : Int) := by rw [IntKind.wrap_i64]; omega
    clear R hl e1 e2
    go_enter Tryz.func122, Tryz.ntmps122
    go_wp2_with fail
    go_ret2
    exact ⟨rfl, rfl⟩
  · refine (nget_any R hnc hn k1 k8 (a := a) (by omega)).mono ?_
    rintro e w' ⟨rfl, rfl⟩
    obtain ⟨e1, e2⟩ := ng_in hl (a := a) (k := k) (by omega)
    unfold NgR
    rw [e1, e2]
    exact ⟨rfl, rfl⟩
theorem unN_leN (k v : Nat) : unN (leN k v) = v % 2 ^ (8 * k) := by
  induction k with
  | zero => show 0 = _; rw [Nat.mul_zero, Nat.pow_zero, Nat.mod_one]
  | succ k ih =>
    rw [leN_next, unN_snoc, ih, leN_len, show 8 * (k + 1) = 8 * k + 8 by omega, Nat.pow_add]
    exact (Nat.mod_mul ..).symm
end Go.Proofs.YtcliejdiaohamaaGreat

set_option linter.unusedSimpArgs false
set_option linter.unusedVariables false
namespace Go.Proofs.YtcliejdiaohamaaGreat
open Go.RowKit Go.Cib
attribute [local go_sem] cell_set Later.cell Later.frozen Grw.cell Grw.frozen
end Go.Proofs.YtcliejdiaohamaaGreat

set_option linter.unusedSimpArgs false
set_option linter.unusedVariables false
namespace Go.Proofs.YtcliejdiaohamaaGreat
open Go.RowKit Go.Cib
attribute [local go_sem] cell_set Later.cell Later.frozen Grw.cell Grw.frozen
end Go.Proofs.YtcliejdiaohamaaGreat

set_option linter.unusedSimpArgs false
set_option linter.unusedVariables false
namespace Go.Proofs.YtcliejdiaohamaaGreat
open Go.RowKit Go.Cib
attribute [local go_sem] cell_set Later.cell Later.frozen Grw.cell Grw.frozen
end Go.Proofs.YtcliejdiaohamaaGreat

set_option linter.unusedSimpArgs false
set_option linter.unusedVariables false
namespace Go.Proofs.YtcliejdiaohamaaGreat
open Go.RowKit Go.Cib
attribute [local go_sem] cell_set Later.cell Later.frozen Grw.cell Grw.frozen
def gbO : Nat → Nat
  | 0 => 0
  | 1 => 2
  | 2 => 10
  | 3 => 12
  | _ => 16
def gbW : Nat → Nat
  | 1 => 8
  | 3 => 4
  | _ => 2
/-- A field of the name. -/
def gbF (xs : List Nat) (z : Int) (i : Nat) : Nat := unN ((xs.drop (z.toNat + gbO i)).take (gbW i))
/-- The code that it answers. -/
def gbC (n : Nat) (z : Int) : Int := if z < 0 ∨ z > n then 2 else if (16 : Int) > (n : Int) - z then 5 else 0
def gbV (xs : List Nat) (z : Int) : Array Value := if gbC xs.length z = 0 then scC (gbF xs z 0) (gbF xs z 1) (gbF xs z 2) (gbF xs z 3) else scC 0 0 0 0
def GbR (n : Nat) (xs : List Nat) (z : Int) (e : Ending) : Prop := e = .returned (.tuple #[.agg (gbV xs z), .int .i64 (gbC n z)])
def gbA (xs : List Nat) (z : Int) (i : Nat) : Array Value := #[.int .u64 ((if 0 < i then gbF xs z 0 else 0 : Nat) : Int), .int .u64 ((if 1 < i then gbF xs z 1 else 0 : Nat) : Int), .int .u64 ((if 2 < i then gbF xs z 2 else 0 : Nat) : Int), .int .u64 ((if 3 < i then gbF xs z 3 else 0 : Nat) : Int)]
section
variable {n : Nat} {xs : List Nat} {z : Int}
theorem gb_step (hl : xs.length = n) {i : Nat} (hi : i < 4) (h : 0 < i → 0 ≤ z ∧ z + gbO i ≤ n) (hok : 0 ≤ z ∧ z + gbO (i + 1) ≤ n) : ngE n (z + gbO i) (gbW i) = 0 ∧ ngV xs (z + gbO i) (gbW i) = gbF xs z i := by
  obtain ⟨a, rfl⟩ : ∃ a : Nat, z = a := ⟨z.toNat, by omega⟩
  have e : gbO (i + 1) = gbO i + gbW i := by
    have : i = 0 ∨ i = 1 ∨ i = 2 ∨ i = 3 := by omega
    rcases this with rfl | rfl | rfl | rfl <;> rfl
  have := ng_in hl (a := a + gbO i) (k := gbW i) (by omega)
  rw [show ((a : Int) + (gbO i : Int)) = ((a + gbO i : Nat) : Int) by push_cast; rfl]
  exact this
theorem gb_fail (hl : xs.length = n) {i : Nat} (hi : i < 4) (h : 0 < i → 0 ≤ z ∧ z + gbO i ≤ n) (hok : ¬ (0 ≤ z ∧ z + gbO (i + 1) ≤ n)) : ngE n (z + gbO i) (gbW i) = gbC n z ∧ gbC n z ≠ 0 ∧ gbV xs z = scC 0 0 0 0 := by
  have e : gbO (i + 1) = gbO i + gbW i ∧ gbO (i + 1) ≤ 16 ∧ (i = 0 → gbO i = 0) ∧ 1 ≤ gbW i := by
    have : i = 0 ∨ i = 1 ∨ i = 2 ∨ i = 3 := by omega
    rcases this with rfl | rfl | rfl | rfl <;> exact ⟨rfl, by decide, by decide, by decide⟩
  have hC : gbC n z ≠ 0 := by
    unfold gbC
    split
    · decide
    · rw [if_pos (by omega)]; decide
  refine ⟨?_, hC, by unfold gbV; rw [hl, if_neg hC]⟩
  unfold ngE gbC
  rcases Nat.eq_zero_or_pos i with h0 | h0
  · have := e.2.2.1 h0
    rw [this]
    by_cases hz : z < 0 ∨ z > n
    · rw [if_pos (by omega), if_pos hz]
    · rw [if_neg (by omega), if_pos (by omega), if_neg hz, if_pos (by omega)]
  · have := h h0
    rw [if_neg (by omega), if_pos (by omega), if_neg (by omega), if_pos (by omega)]
theorem gb_end (hl : xs.length = n) (h : 0 ≤ z ∧ z + 16 ≤ n) : gbC n z = 0 ∧ gbV xs z = scC (gbF xs z 0) (gbF xs z 1) (gbF xs z 2) (gbF xs z 3) := by
  have hC : gbC n z = 0 := by
    unfold gbC
    rw [if_neg (by omega), if_neg (by omega)]
  exact ⟨hC, by unfold gbV; rw [hl, if_pos hC]⟩
theorem gbF_lt (hb : Byt xs) (z : Int) (i : Nat) : gbF xs z i < 2 ^ (8 * gbW i) := by
  have h := unN_lt (l := (xs.drop (z.toNat + gbO i)).take (gbW i)) fun x hx => hb x (List.mem_of_mem_drop (List.mem_of_mem_take hx))
  have hl : ((xs.drop (z.toNat + gbO i)).take (gbW i)).length ≤ gbW i := by rw [List.length_take]; omega
  exact Nat.lt_of_lt_of_le h (Nat.pow_le_pow_right (by omega) (by omega))
end
end Go.Proofs.YtcliejdiaohamaaGreat

set_option linter.unusedSimpArgs false
set_option linter.unusedVariables false
namespace Go.Proofs.YtcliejdiaohamaaGreat
open Go.RowKit Go.Cib
attribute [local go_sem] cell_set Later.cell Later.frozen Grw.cell Grw.frozen
set_option maxRecDepth 100000 in
set_option maxHeartbeats 8000000 in
theorem sgb_any {w : World} {n c : Nat} {z : Int} {A : Option Addr} {S : Nat → Prop} {xs : List Nat} (R : RdL ByR 1 S w A n xs) (hnc : n ≤ c) (hn : n ≤ 4000) :
    Calls Tryz.prog 49 #[.slice A n c, .int .i64 z] w fun e w' => GbR n xs z e ∧ Below w.heap.size w w' := by
  have HX := Lib.hid R.1
  have HBY := Lib.hid (by_byt R)
  have HR := Lib.hid R
  have hb0 : Below w.heap.size w (w.alloc (.cells #[.int .i64 0, .int .u64 0, .int .i64 0, .int .i64 0] 24)) := (Below.refl _ _).alloc (Nat.le_refl _) _
  have bB := BoxAt.new w #[.int .i64 0, .int .u64 0, .int .i64 0, .int .i64 0] 24
  have hs0 := World.size_alloc w (.cells #[.int .i64 0, .int .u64 0, .int .i64 0, .int .i64 0] 24)
  obtain ⟨w1, hw1⟩ : ∃ w1, w.alloc (.cells #[.int .i64 0, .int .u64 0, .int .i64 0, .int .i64 0] 24) = w1 := ⟨_, rfl⟩
  rw [hw1] at hb0 bB hs0
  have hb1 : Below w.heap.size w (w1.alloc (.cells #[.int .u64 0, .int .u64 0, .int .u64 0, .int .u64 0] 218)) := hb0.alloc hb0.size _
  have bA := BoxAt.new w1 #[.int .u64 0, .int .u64 0, .int .u64 0, .int .u64 0] 218
  have bB1 := bB.below ((Below.refl w1.heap.size w1).alloc (Nat.le_refl _) (.cells #[.int .u64 0, .int .u64 0, .int .u64 0, .int .u64 0] 218))
  obtain ⟨w2, hw2⟩ : ∃ w2, w1.alloc (.cells #[.int .u64 0, .int .u64 0, .int .u64 0, .int .u64 0] 218) = w2 := ⟨_, rfl⟩
  rw [hw2] at hb1 bA bB1
  obtain ⟨q, hq⟩ : ∃ q, w.heap.size = q := ⟨_, rfl⟩
  obtain ⟨q6, hq6⟩ : ∃ q6, w1.heap.size = q6 := ⟨_, rfl⟩
  have HQ := Lib.hid (show q6 = q + 1 by omega)
  have HWq := Lib.hid (show w.heap.size ≤ q by omega)
  have HW := Lib.hid (show w.heap.size = q from hq)
  rw [hq] at bB1
  rw [hq6] at bA
  have HB1 := Lib.hid hb1
  have BA := Lib.hid bA
  have BB := Lib.hid bB1
  clear hb0 hb1 bA bB bB1 hs0 R
  have ix0 : ∀ w, (Instr.index 219 (.agg #[.int .i64 2, .int .i64 8, .int .i64 2, .int .i64 4]) (.int .i64 0)).run Tryz.prog w = .ok (.int .i64 2) w := fun _ => by kernel_rfl
  have ix1 : ∀ w, (Instr.index 219 (.agg #[.int .i64 2, .int .i64 8, .int .i64 2, .int .i64 4]) (.int .i64 1)).run Tryz.prog w = .ok (.int .i64 8) w := fun _ => by kernel_rfl
  have ix2 : ∀ w, (Instr.index 219 (.agg #[.int .i64 2, .int .i64 8, .int .i64 2, .int .i64 4]) (.int .i64 2)).run Tryz.prog w = .ok (.int .i64 2) w := fun _ => by kernel_rfl
  have ix3 : ∀ w, (Instr.index 219 (.agg #[.int .i64 2, .int .i64 8, .int .i64 2, .int .i64 4]) (.int .i64 3)).run Tryz.prog w = .ok (.int .i64 4) w := fun _ => by kernel_rfl
  go_enter Tryz.func49, Tryz.ntmps49
  go_wp2_with fail
  clear hq hq6
  clear hw1 hw2
  go_loopw [1, 12] (fun vz vi wr => ∃ i : Nat, i ≤ 4 ∧ vi = .int .i64 i ∧ vz = .int .i64 (z + gbO i) ∧ (0 < i → 0 ≤ z ∧ z + gbO i ≤ n) ∧ Hid (BoxAt wr q6 (gbA xs z i)) ∧ Hid (BoxAt wr q #[.int .i64 0, .int .u64 0, .int .i64 0, .int .i64 0]) ∧ Hid (Below w.heap.size w wr)) (fun _ vi _ => 4 - (intOf vi).toNat)
  case atStart => exact ⟨0, by omega, rfl, by simp [gbO], fun h => absurd h (by omega), BA, BB, HB1⟩
  case round =>
    clear BA BB HB1
    obtain ⟨i, hi, rfl, rfl, hin, BA, BB, HB⟩ := hrel
    by_cases hlt : i < 4
    · have p1 : (i : Int) < 4 := by omega
      have p0 : (0 : Int) ≤ (i : Int) := by omega
      have hk : 1 ≤ gbW i ∧ gbW i ≤ 8 := by
        have : i = 0 ∨ i = 1 ∨ i = 2 ∨ i = 3 := by omega
        rcases this with rfl | rfl | rfl | rfl <;> exact ⟨by decide, by decide⟩
      have HG := Lib.hid (nget_or (z := z + gbO i) (HR.out.below ByR.stable HB.out) hnc hn hk.1 hk.2)
      clear hk
      have h4 : i = 0 ∨ i = 1 ∨ i = 2 ∨ i = 3 := by omega
      by_cases hok : 0 ≤ z ∧ z + gbO (i + 1) ≤ n
      · obtain ⟨e1, e2⟩ := gb_step HX.out hlt hin hok
        unfold NgR at HG
        rw [e1, e2] at HG
        clear e1 e2
        have hO : (gbO i : Int) + gbW i = gbO (i + 1) := by rcases h4 with rfl | rfl | rfl | rfl <;> rfl
        have hOl : gbO i + gbW i ≤ 16 ∧ gbW i ≤ 8 := by rcases h4 with rfl | rfl | rfl | rfl <;> exact ⟨by decide, by decide⟩
        have HA := Lib.hid (show ∀ V, gbF xs z i = V → (gbA xs z i).setIfInBounds i (.int .u64 (V : Int)) = gbA xs z (i + 1) from fun V hV => by subst hV; rcases h4 with rfl | rfl | rfl | rfl <;> rfl)
        obtain ⟨V, hV⟩ : ∃ V, gbF xs z i = V := ⟨_, rfl⟩
        have hwz : IntKind.i64.wrap (z + (gbO i : Int) + (gbW i : Int)) = z + (gbO (i + 1) : Int) := by rw [IntKind.wrap_i64]; omega
        rw [hV] at HG
        have HA2 := Lib.hid (HA.out V hV)
        have HWZ := Lib.hid hwz
        have HOK := Lib.hid hok
        clear HA hV hO hOl hwz hok hin
        obtain ⟨Z, hZ⟩ : ∃ Z, z + (gbO i : Int) = Z := ⟨_, rfl⟩
        have HZ := Lib.hid hZ
        rw [hZ] at HG HWZ ⊢
        clear hZ
        obtain ⟨old, hold⟩ : ∃ old, (gbA xs z i)[i]? = some old := by rcases h4 with rfl | rfl | rfl | rfl <;> exact ⟨_, rfl⟩
        have c6 := BA.out.cell i
        rw [hold] at c6
        have z6 := BA.out.frozen i
        have BA' := Lib.hid (BA.out.set i (.int .u64 (V : Int)))
        have hne : q ≠ q6 := by have := HQ.out; omega
        have hq6 : w.heap.size ≤ q6 := by have := HQ.out; have := HW.out; omega
        have HNE := Lib.hid hne
        have HQ6 := Lib.hid hq6
        clear hold hne hq6
        rcases h4 with rfl | rfl | rfl | rfl
        all_goals
          simp only [gbW, Int.cast_ofNat_Int] at HG HWZ
          try simp only [Int.cast_ofNat_Int]
          try simp only [Int.natCast_zero]
          try simp only [Int.natCast_one]
          have hwz := HWZ.out
          go_wp2_with fail
          refine HG.out.mono ?_
          rintro e w3 ⟨rfl, hw3⟩
          rw [hw3]
          clear hw3
          go_wp2_with fail
          refine ⟨⟨_, ?_, rfl, rfl, fun _ => HOK.out, ?_, ?_, ?_⟩, ?_⟩
          · simp
          · rw [← HA2.out]; exact BA'
          · exact Lib.hid (BB.out.set_other (p := ⟨q6, _, none⟩) HNE.out _)
          · exact Lib.hid (Below.setCell HB.out (p := ⟨q6, _, none⟩) HQ6.out _)
          · simp [intOf]
      · obtain ⟨e1, e2, e3⟩ := gb_fail HX.out hlt hin hok
        unfold NgR at HG
        rw [e1] at HG
        have hE : GbR n xs z (.returned (.tuple #[.agg (scC 0 0 0 0), .int .i64 (gbC n z)])) := by unfold GbR; rw [e3]
        clear e1 e3 hin hok
        obtain ⟨V, hV⟩ : ∃ V, ngV xs (z + gbO i) (gbW i) = V := ⟨_, rfl⟩
        obtain ⟨C, hC⟩ : ∃ C, gbC n z = C := ⟨_, rfl⟩
        obtain ⟨Z, hZ⟩ : ∃ Z, z + (gbO i : Int) = Z := ⟨_, rfl⟩
        rw [hV, hC] at HG
        rw [hZ] at HG ⊢
        rw [hC] at e2 hE
        have HE := Lib.hid hE
        clear hV hC hZ hE
        have k0 := BB.out.cell 0
        have k1 := BB.out.cell 1
        have k2 := BB.out.cell 2
        have k3 := BB.out.cell 3
        have z0 := BB.out.frozen 0
        have z1 := BB.out.frozen 1
        have z2 := BB.out.frozen 2
        have z3 := BB.out.frozen 3
        rcases h4 with rfl | rfl | rfl | rfl
        all_goals
          simp only [gbW, Int.cast_ofNat_Int] at HG
          try simp only [Int.cast_ofNat_Int]
          try simp only [Int.natCast_zero]
          try simp only [Int.natCast_one]
          go_wp2_with fail
          refine HG.out.mono ?_
          rintro e w3 ⟨rfl, hw3⟩
          rw [hw3]
          clear hw3
          go_wp2_with fail
          refine bodyPost_ret (v := .tuple #[.agg #[.int .i64 0, .int .u64 0, .int .i64 0, .int .i64 0], .int .i64 C]) (by simp [results, Tryz.results49, go_sem, *]) rfl ?_
          exact ⟨HE.out, Below.setCell (Below.setCell (Below.setCell (Below.setCell HB.out HWq.out _) HWq.out _) HWq.out _) HWq.out _⟩
    · obtain rfl : i = 4 := by omega
      have hr := hin (by omega)
      obtain ⟨e1, e2⟩ := gb_end HX.out hr
      have hE : GbR n xs z (.returned (.tuple #[.agg (scC (gbF xs z 0) (gbF xs z 1) (gbF xs z 2) (gbF xs z 3)), .int .i64 0])) := by unfold GbR; rw [e1, e2]
      have f0 := gbF_lt HBY.out z 0
      have f1 := gbF_lt HBY.out z 1
      have f2 := gbF_lt HBY.out z 2
      have f3 := gbF_lt HBY.out z 3
      simp only [gbW] at f0 f1 f2 f3
      have bA := BA.out
      unfold gbA at bA
      rw [if_pos (by decide), if_pos (by decide), if_pos (by decide), if_pos (by decide)] at bA
      obtain ⟨v0, h0⟩ : ∃ v, gbF xs z 0 = v := ⟨_, rfl⟩
      obtain ⟨v1, h1⟩ : ∃ v, gbF xs z 1 = v := ⟨_, rfl⟩
      obtain ⟨v2, h2⟩ : ∃ v, gbF xs z 2 = v := ⟨_, rfl⟩
      obtain ⟨v3, h3⟩ : ∃ v, gbF xs z 3 = v := ⟨_, rfl⟩
      rw [h0, h1, h2, h3] at hE bA
      rw [h0] at f0
      rw [h1] at f1
      rw [h2] at f2
      rw [h3] at f3
      have HE := Lib.hid hE
      have c0 := bA.cell 0
      have c1 := bA.cell 1
      have c2 := bA.cell 2
      have c3 := bA.cell 3
      have g0 : IntKind.i64.wrap (v0 : Int) = (v0 : Int) := by rw [IntKind.wrap_i64]; omega
      have g2 : IntKind.i64.wrap (v2 : Int) = (v2 : Int) := by rw [IntKind.wrap_i64]; omega
      have g3 : IntKind.i64.wrap (v3 : Int) = (v3 : Int) := by rw [IntKind.wrap_i64]; omega
      have k0 := BB.out.cell 0
      have k1 := BB.out.cell 1
      have k2 := BB.out.cell 2
      have k3 := BB.out.cell 3
      have z0 := BB.out.frozen 0
      have z1 := BB.out.frozen 1
      have z2 := BB.out.frozen 2
      have z3 := BB.out.frozen 3
      obtain ⟨Z, hZ⟩ : ∃ Z, z + (gbO 4 : Int) = Z := ⟨_, rfl⟩
      rw [hZ]
      clear hE bA e1 e2 h0 h1 h2 h3 hZ hr hin
      go_wp2_with fail
      refine bodyPost_ret (v := .tuple #[.agg #[.int .i64 (v0 : Int), .int .u64 (v1 : Int), .int .i64 (v2 : Int), .int .i64 (v3 : Int)], .int .i64 0]) (by simp [results, Tryz.results49, go_sem, *]) rfl ?_
      exact ⟨HE.out, Below.setCell (Below.setCell (Below.setCell (Below.setCell HB.out HWq.out _) HWq.out _) HWq.out _) HWq.out _⟩
end Go.Proofs.YtcliejdiaohamaaGreat

set_option linter.unusedSimpArgs false
set_option linter.unusedVariables false
namespace Go.Proofs.YtcliejdiaohamaaGreat
open Go.RowKit Go.Cib
attribute [local go_sem] cell_set Later.cell Later.frozen Grw.cell Grw.frozen
end Go.Proofs.YtcliejdiaohamaaGreat

set_option linter.unusedSimpArgs false
set_option linter.unusedVariables false
namespace Go.Proofs.YtcliejdiaohamaaGreat
open Go.RowKit Go.Cib
attribute [local go_sem] cell_set Later.cell Later.frozen Grw.cell Grw.frozen
end Go.Proofs.YtcliejdiaohamaaGreat

set_option linter.unusedSimpArgs false
set_option linter.unusedVariables false
namespace Go.Proofs.YtcliejdiaohamaaGreat
open Go.RowKit Go.Cib
attribute [local go_sem] cell_set Later.cell Later.frozen Grw.cell Grw.frozen
def fitB (p ct sz : Int) : Bool := decide (0 ≤ p ∧ p < 65536 ∧ 0 ≤ ct ∧ ct < 65536 ∧ 0 ≤ sz ∧ sz < 4294967296)
theorem gb_nm {xs : List Nat} {n : Nat} (hl : xs.length = n) (p : Int) (g : Nat) (ct sz : Int) (hg : g < 2 ^ 64) :
    gbC (xs ++ nmB p g ct sz).length (n : Int) = 0 ∧ gbV (xs ++ nmB p g ct sz) (n : Int) = #[.int .i64 (p % 65536), .int .u64 (g : Int), .int .i64 (ct % 65536), .int .i64 (sz % 4294967296)] := by
  have hL : (xs ++ nmB p g ct sz).length = n + 16 := by rw [List.length_append, nmB_len, hl]
  obtain ⟨e1, e2⟩ := gb_end (n := n + 16) (z := (n : Int)) hL (by omega)
  refine ⟨by rw [hL]; exact e1, ?_⟩
  rw [e2]
  have hd : ∀ k, (xs ++ nmB p g ct sz).drop (n + k) = (nmB p g ct sz).drop k := fun k => by
    rw [← hl, List.drop_append]
    rw [List.drop_of_length_le (by omega), List.nil_append]
    congr 1; omega
  have f : ∀ i, gbF (xs ++ nmB p g ct sz) (n : Int) i = unN (((nmB p g ct sz).drop (gbO i)).take (gbW i)) := fun i => by
    unfold gbF
    rw [Int.toNat_natCast, hd]
  have u : ∀ x : Int, ((u64N x : Nat) : Int) = x % 18446744073709551616 := fun x => by
    unfold u64N; rw [Int.toNat_of_nonneg (Int.emod_nonneg _ (by omega))]
  rw [f 0, f 1, f 2, f 3]
  unfold scC
  have a0 : ((nmB p g ct sz).drop (gbO 0)).take (gbW 0) = leN 2 (u64N p) := by
    show ((nmB p g ct sz).drop 0).take 2 = _
    unfold nmB
    rw [List.drop_zero, List.append_assoc, List.append_assoc, List.take_append_of_le_length (by rw [leN_len]; omega), List.take_of_length_le (by rw [leN_len]; omega)]
  have a1 : ((nmB p g ct sz).drop (gbO 1)).take (gbW 1) = leN 8 g := by
    show ((nmB p g ct sz).drop 2).take 8 = _
    unfold nmB
    rw [List.append_assoc, List.append_assoc]
    exact mid_of rfl (leN_len _ _) (leN_len _ _)
  have a2 : ((nmB p g ct sz).drop (gbO 2)).take (gbW 2) = leN 2 (u64N ct) := by
    show ((nmB p g ct sz).drop 10).take 2 = _
    unfold nmB
    exact mid_of (A := leN 2 (u64N p) ++ leN 8 g) (List.append_assoc _ _ _) (by rw [List.length_append, leN_len, leN_len]) (leN_len _ _)
  have a3 : ((nmB p g ct sz).drop (gbO 3)).take (gbW 3) = leN 4 (u64N sz) := by
    show ((nmB p g ct sz).drop 12).take 4 = _
    unfold nmB
    refine mid_of (A := leN 2 (u64N p) ++ leN 8 g ++ leN 2 (u64N ct)) (C := []) (by simp) (by rw [List.length_append, List.length_append, leN_len, leN_len, leN_len]) (leN_len _ _)
  rw [a0, a1, a2, a3, unN_leN, unN_leN, unN_leN, unN_leN, Nat.mod_eq_of_lt (show g < 2 ^ (8 * 8) from hg)]
  have e : ∀ x : Int, ((u64N x % 2 ^ (8 * 2) : Nat) : Int) = x % 65536 := fun x => by
    have := u x
    show ((u64N x % 65536 : Nat) : Int) = x % 65536
    omega
  have e4 : ((u64N sz % 2 ^ (8 * 4) : Nat) : Int) = sz % 4294967296 := by
    have := u sz
    show ((u64N sz % 4294967296 : Nat) : Int) = sz % 4294967296
    omega
  rw [e, e, e4]
attribute [local go_sem ↓] run_min_b run_max_b2
end Go.Proofs.YtcliejdiaohamaaGreat

set_option linter.unusedSimpArgs false
set_option linter.unusedVariables false
namespace Go.Proofs.YtcliejdiaohamaaGreat
open Go.RowKit Go.Cib
attribute [local go_sem] cell_set Later.cell Later.frozen Grw.cell Grw.frozen
structure Hdr where
  p : Nat
  g : Nat
  ct : Nat
  sz : Nat
structure Hdr.ok (h : Hdr) : Prop where
  p : h.p < 65536
  g : Hid (h.g < 2 ^ 64)
  ct : h.ct < 65536
  sz : Hid (h.sz < 4294967296)
def hdT (h : Hdr) : List Nat := nmB (h.p : Int) h.g (h.ct : Int) (h.sz : Int)
def hdC (E : Nat) (h : Hdr) : Array Value := #[.int .u64 (E : Int), .int .i64 (h.p : Int), .int .u64 (h.g : Int), .int .i64 (h.ct : Int), .int .i64 (h.sz : Int)]
def hd0 : Array Value := #[.int .u64 0, .int .i64 0, .int .u64 0, .int .i64 0, .int .i64 0]
def hRef (z E : Nat) : Ref := ⟨1, z, E * 1048576⟩
theorem hdT_len (h : Hdr) : (hdT h).length = 16 := nmB_len _ _ _ _
theorem nmB_byt (p : Int) (g : Nat) (ct sz : Int) : Byt (nmB p g ct sz) := fun x hx => by
  unfold nmB at hx
  rcases List.mem_append.1 hx with hx | hx
  · rcases List.mem_append.1 hx with hx | hx
    · rcases List.mem_append.1 hx with hx | hx
      · exact leN_byt _ _ x hx
      · exact leN_byt _ _ x hx
    · exact leN_byt _ _ x hx
  · exact leN_byt _ _ x hx
theorem hdT_byt (h : Hdr) : Byt (hdT h) := nmB_byt _ _ _ _
theorem hdT_gb {h : Hdr} (hk : h.ok) : gbC 16 0 = 0 ∧ gbV (hdT h) 0 = #[.int .i64 (h.p : Int), .int .u64 (h.g : Int), .int .i64 (h.ct : Int), .int .i64 (h.sz : Int)] := by
  obtain ⟨e1, e2⟩ := gb_nm (xs := []) (n := 0) rfl (h.p : Int) h.g (h.ct : Int) (h.sz : Int) hk.g.out
  have h1 := hk.p
  have h2 := hk.ct
  have h3 := hk.sz.out
  refine ⟨by decide, ?_⟩
  show gbV ([] ++ nmB _ _ _ _) ((0 : Nat) : Int) = _
  rw [e2, Int.emod_eq_of_lt (by omega) (by omega), Int.emod_eq_of_lt (by omega) (by omega), Int.emod_eq_of_lt (by omega) (by omega)]
structure VwS (n k N : Nat) (sts : List DSt) (z : Nat) (o : Nat → Option Nat) (T : Nat → Hdr) : Prop where
  len : sts.length = N
  has : ∀ d st, sts[d]? = some st → ∀ E, o d = some E → HasS k N (hRef z E) (hdT (T E)) d st
  non : ∀ d st, sts[d]? = some st → o d = none → GoodV (st.seen z) ∧ (st.dead = true ∨ st.seen z = rep 0)
  ep : ∀ d E, d < N → o d = some E → E < 1099511627776
  ok : ∀ E, (T E).ok
def hasC (o : Nat → Option Nat) (N E : Nat) : Nat := cntP (fun d => decide (o d = some E)) N
theorem hRef_ok {n z E : Nat} (hz : z < n) : (hRef z E).ok n := ⟨Nat.le_refl 1, by show (1 : Nat) ≤ 4; omega, hz⟩
theorem hRef_g {z E : Nat} (hE : E < 17592186044416) : Hid ((hRef z E).gen < 2 ^ 64) := Lib.hid (by show E * 1048576 < 2 ^ 64; omega)
theorem VwS.view {n k N z : Nat} {sts : List DSt} {o : Nat → Option Nat} {T : Nat → Hdr} (h : VwS n k N sts z o T) (hz : z < n) (hn : n ≤ 600) (hN : 1 ≤ N) (hN2 : N ≤ 255) (E : Nat) :
    ∀ d st, sts[d]? = some st → (decide (o d = some E) = true ∧ HasS k N (hRef z E) (hdT (T E)) d st) ∨ (decide (o d = some E) = false ∧ LostS k (hRef z E) st) := by
  intro d st hst
  have hd : d < N := by rw [← h.len]; exact (List.getElem?_eq_some_iff.1 hst).1
  cases ho : o d with
  | none =>
    obtain ⟨h1, h2⟩ := h.non d st hst ho
    refine .inr ⟨decide_eq_false (by simp), ?_⟩
    rcases h2 with h2 | h2
    · exact lost_dead h2 h1
    · exact lost_zero h2
  | some E' =>
    have hh := h.has d st hst E' ho
    by_cases he : E' = E
    · subst he; exact .inl ⟨decide_eq_true rfl, hh⟩
    · refine .inr ⟨decide_eq_false (fun e => he (Option.some.inj e)), ?_⟩
      have hx := putX_ok (hRef_ok (E := E') hz) hn (hRef_g (z := z) (by have := h.ep d E' hd ho; omega)) (hdT_byt (T E')) (by rw [hdT_len]; decide) hN hN2 (k := k) d
      exact lost_other hx (show kindB 1 = true by decide) (.inr (by show E' * 1048576 ≠ E * 1048576; omega)) hh.2
theorem set5_other {w : World} {q p o : Nat} (hne : ¬ q = p) (v0 v1 v2 v3 v4 : Value) : (((((w.setCell ⟨q, 0, none⟩ v0).setCell ⟨q, 1, none⟩ v1).setCell ⟨q, 2, none⟩ v2).setCell ⟨q, 3, none⟩ v3).setCell ⟨q, 4, none⟩ v4).drew.cell? ⟨p, o, none⟩ = w.cell? ⟨p, o, none⟩ := by
  have hn : ∀ a b : Nat, ¬ (q = p ∧ a = b) := fun _ _ h => hne h.1
  rw [World.cell?_drew, cell_set, if_neg (hn _ _), cell_set, if_neg (hn _ _), cell_set, if_neg (hn _ _), cell_set, if_neg (hn _ _), cell_set, if_neg (hn _ _)]
section
variable {X : Nat → Prop} {w0 w : World} {a cb bf k m n : Nat} {sts : List DSt}
def hrdV (b : Bool) (E : Nat) (h : Hdr) : Array Value := if b = true then hdC E h else hd0
set_option maxRecDepth 100000 in
set_option maxHeartbeats 8000000 in
theorem hread_any (h : SMid w0 w a cb bf k m n sts) {z E : Nat} {o : Nat → Option Nat} {T : Nat → Hdr} (V : VwS n k (k + m) sts z o T) (hz : z < n) (hE : E < 17592186044416) :
    Calls Tryz.prog 72 #[.pointer (some ⟨a, 0, none⟩), .pointer (some ⟨cb, 0, none⟩), .int .i64 (z : Int), .int .u64 ((E * 1048576 : Nat) : Int)] w fun e w' => e = .returned (.tuple #[.agg (hrdV (decide (k ≤ hasC o (k + m) E)) E (T E)), .bool (decide (k ≤ hasC o (k + m) E))]) ∧ Below w.heap.size w w' := by
  have hb0 : Below w.heap.size w (w.alloc (.cells hd0 26)) := (Below.refl _ _).alloc (Nat.le_refl _) _
  have bB := BoxAt.new w hd0 26
  have h1 := h.below hb0
  obtain ⟨w1, hw1⟩ : ∃ w1, w.alloc (.cells hd0 26) = w1 := ⟨_, rfl⟩
  obtain ⟨q, hq⟩ : ∃ q, w.heap.size = q := ⟨_, rfl⟩
  have hq0 : w.heap.size ≤ q := by omega
  rw [hw1] at hb0 bB h1
  rw [hq] at bB
  have HB0 := Lib.hid hb0
  have BB := Lib.hid bB
  have hk1 := h.k1
  have hm1 := h.m1
  have hkm := h.km
  have hgv := get_view (g := fun d => decide (o d = some E)) (xs := hdT (T E)) h1 (hRef_ok (E := E) hz) (hRef_g (z := z) hE) (hdT_byt _) (by rw [hdT_len]; omega) (V.view hz h.n2 (by omega) (by omega) E)
  unfold GotE at hgv
  rw [hdT_len] at hgv
  have hc : cntP (fun d => decide (o d = some E)) (k + m) = hasC o (k + m) E := rfl
  rw [hc] at hgv
  have HGV := Lib.hid hgv
  clear hgv hc hb0 bB h1
  have hmod : ((E * 1048576 : Nat) : Int) % 1048576 = 0 := by omega
  obtain ⟨G, hG⟩ : ∃ G, E * 1048576 = G := ⟨_, rfl⟩
  have hGE : G / 1048576 = E := by omega
  unfold hRef refC at HGV
  rw [hG] at hmod HGV ⊢
  have hbA := hdT_gb (V.ok E)
  have HT16 := Lib.hid (hdT_len (T E))
  unfold hd0 at hw1 BB
  by_cases hle : k ≤ hasC o (k + m) E
  · have e1 : decide (k ≤ hasC o (k + m) E) = true := decide_eq_true hle
    rw [e1]
    have HLE := Lib.hid hle
    clear e1 hle
    have eV : hrdV true E (T E) = hdC E (T E) := rfl
    rw [eV]
    unfold hdC
    clear eV
    obtain ⟨hp, h1⟩ : ∃ x, (T E).p = x := ⟨_, rfl⟩
    obtain ⟨hg, h2⟩ : ∃ x, (T E).g = x := ⟨_, rfl⟩
    obtain ⟨hct, h3⟩ : ∃ x, (T E).ct = x := ⟨_, rfl⟩
    obtain ⟨hsz, h4⟩ : ∃ x, (T E).sz = x := ⟨_, rfl⟩
    rw [h1, h2, h3, h4] at hbA ⊢
    clear h1 h2 h3 h4
    go_enter Tryz.func72, Tryz.ntmps72
    go_wp2_with fail
    refine HGV.out.mono ?_
    clear HGV
    rintro e w2 ⟨hb2, ⟨hlt, _⟩ | ⟨_, A, cp, rfl, hcp, hr2⟩⟩
    · exact absurd hlt (by have := HLE.out; omega)
    have HB2 := Lib.hid (HB0.out.trans (hb2.mono HB0.out.size))
    have BB2 := Lib.hid (BB.out.below hb2)
    have hsg := sgb_any (z := 0) hr2 hcp (by omega)
    unfold GbR at hsg
    rw [hbA.1, hbA.2] at hsg
    clear hb2 hr2 hcp hbA BB HB0 HT16
    go_wp2_with fail
    refine hsg.mono ?_
    clear hsg hw1 hq
    rintro e w3 ⟨rfl, hb3⟩
    have bX := BoxAt.new w3 #[.int .i64 (hp : Int), .int .u64 (hg : Int), .int .i64 (hct : Int), .int .i64 (hsz : Int)] 24
    have hb4 : Below w2.heap.size w2 (w3.alloc (.cells #[.int .i64 (hp : Int), .int .u64 (hg : Int), .int .i64 (hct : Int), .int .i64 (hsz : Int)] 24)) := hb3.alloc hb3.size _
    obtain ⟨w4, hw4⟩ : ∃ w4, w3.alloc (.cells #[.int .i64 (hp : Int), .int .u64 (hg : Int), .int .i64 (hct : Int), .int .i64 (hsz : Int)] 24) = w4 := ⟨_, rfl⟩
    obtain ⟨q12, hq12⟩ : ∃ q12, w3.heap.size = q12 := ⟨_, rfl⟩
    rw [hw4] at bX hb4
    rw [hq12] at bX
    have bB4 := BB2.out.below hb4
    have HB4 := Lib.hid (HB2.out.trans (hb4.mono HB2.out.size))
    have k0 := bB4.cell 0
    have k1 := bB4.cell 1
    have k2 := bB4.cell 2
    have k3 := bB4.cell 3
    have k4 := bB4.cell 4
    have z0 := bB4.frozen 0
    have z1 := bB4.frozen 1
    have z2 := bB4.frozen 2
    have z3 := bB4.frozen 3
    have z4 := bB4.frozen 4
    have x0 : w4.cell? ⟨q12, 0, none⟩ = some (.int .i64 (hp : Int)) := bX.cell 0
    have x1 : w4.cell? ⟨q12, 1, none⟩ = some (.int .u64 (hg : Int)) := bX.cell 1
    have x2 : w4.cell? ⟨q12, 2, none⟩ = some (.int .i64 (hct : Int)) := bX.cell 2
    have x3 : w4.cell? ⟨q12, 3, none⟩ = some (.int .i64 (hsz : Int)) := bX.cell 3
    have hne0 : ¬ q = q12 := fun e => by have := (BB2.out.below (w' := w3) hb3).lt; omega
    have hep := fun w => epoch_any (w := w) (g := G)
    rw [hGE] at hep
    clear hb3 bX hb4 bB4 BB2 HB2
    go_wp2_with fail
    have hne : ¬ q = q12 := hne0
    have d0 : w4.drew.cell? ⟨q12, 0, none⟩ = some (.int .i64 (hp : Int)) := x0
    have d1 : w4.drew.cell? ⟨q12, 1, none⟩ = some (.int .u64 (hg : Int)) := x1
    have d2 : w4.drew.cell? ⟨q12, 2, none⟩ = some (.int .i64 (hct : Int)) := x2
    have d3 : w4.drew.cell? ⟨q12, 3, none⟩ = some (.int .i64 (hsz : Int)) := x3
    refine wp_region_held_drew (S := fun w' => w'.cell? ⟨q12, 0, none⟩ = some (.int .i64 (hp : Int)) ∧ w'.cell? ⟨q12, 1, none⟩ = some (.int .u64 (hg : Int)) ∧ w'.cell? ⟨q12, 2, none⟩ = some (.int .i64 (hct : Int)) ∧ w'.cell? ⟨q12, 3, none⟩ = some (.int .i64 (hsz : Int))) (by kernel_rfl) (by with_reducible first | exact ⟨d0, d1, d2, d3⟩ | exact ⟨(set5_other hne _ _ _ _ _).trans x0, (set5_other hne _ _ _ _ _).trans x1, (set5_other hne _ _ _ _ _).trans x2, (set5_other hne _ _ _ _ _).trans x3⟩) (fun hHeld => ?_)
    refine wpAnyH_take (i := 0) (v := ?_) rfl (by kernel_rfl) (by kernel_rfl) (by kernel_rfl) (fun _ _ _ h => h) (Or.inl ⟨by first | kernel_rfl | rfl, ?_⟩) (by assumption) ?_
    rotate_left
    · (intro wq hSw; (try dsimp only at hSw); (try simp (maxSteps := 2000000) only [zz1, zz2, zz3]); go_simp); try with_reducible rfl
    try simp (maxSteps := 2000000) only [zz1, zz2, zz3, Act.put, zz4, zz5, zz6]
    refine wpAnyH_take (i := 2) (v := ?_) rfl (by kernel_rfl) (by kernel_rfl) (by kernel_rfl) (fun _ _ _ h => h) (Or.inl ⟨by first | kernel_rfl | rfl, ?_⟩) (by assumption) ?_
    rotate_left
    · (intro wq hSw; (try dsimp only at hSw); (try simp (maxSteps := 2000000) only [zz1, zz2, zz3]); go_simp); try with_reducible rfl
    try simp (maxSteps := 2000000) only [zz1, zz2, zz3, Act.put, zz4, zz5, zz6]
    refine wpAnyH_take (i := 4) (v := ?_) rfl (by kernel_rfl) (by kernel_rfl) (by kernel_rfl) (fun _ _ _ h => h) (Or.inl ⟨by first | kernel_rfl | rfl, ?_⟩) (by assumption) ?_
    rotate_left
    · (intro wq hSw; (try dsimp only at hSw); (try simp (maxSteps := 2000000) only [zz1, zz2, zz3]); go_simp); try with_reducible rfl
    try simp (maxSteps := 2000000) only [zz1, zz2, zz3, Act.put, zz4, zz5, zz6]
    refine wpAnyH_take (i := 5) (v := ?_) rfl (by kernel_rfl) (by kernel_rfl) (by kernel_rfl) (fun _ _ _ h => h) (Or.inl ⟨by first | kernel_rfl | rfl, ?_⟩) (by assumption) ?_
    rotate_left
    · (intro wq hSw; (try dsimp only at hSw); (try simp (maxSteps := 2000000) only [zz1, zz2, zz3]); go_simp); try with_reducible rfl
    try simp (maxSteps := 2000000) only [zz1, zz2, zz3, Act.put, zz4, zz5, zz6]
    refine wpAnyH_ready (rs := [1]) (by kernel_rfl) (by simp) ?_
    refine AllReadyH.cons rfl (fun K hK => ?_) AllReadyH.nil
    try simp (maxSteps := 2000000) only [zz1, zz2, zz3]
    go_simp
    go_at_call 80
    refine (hep _).mono ?_
    rintro e w9 ⟨rfl, hw9⟩
    rw [hw9]
    clear hw9
    try (go_wp2_with fail)
    refine hK.out _ _ (by with_reducible first | exact ⟨d0, d1, d2, d3⟩ | exact ⟨(set5_other hne _ _ _ _ _).trans x0, (set5_other hne _ _ _ _ _).trans x1, (set5_other hne _ _ _ _ _).trans x2, (set5_other hne _ _ _ _ _).trans x3⟩) (fun hHeld => ?_)
    clear hK K
    try simp (maxSteps := 2000000) only [zz1, zz2, zz3, Act.put, zz4, zz5, zz6]
    refine wpAnyH_take (i := 3) (v := ?_) rfl (by kernel_rfl) (by kernel_rfl) (by kernel_rfl) (fun _ _ _ h => h) (Or.inl ⟨by first | kernel_rfl | rfl, ?_⟩) (by assumption) ?_
    rotate_left
    · (intro wq hSw; (try dsimp only at hSw); (try simp (maxSteps := 2000000) only [zz1, zz2, zz3]); go_simp); try with_reducible rfl
    try simp (maxSteps := 2000000) only [zz1, zz2, zz3, Act.put, zz4, zz5, zz6]
    refine wpAnyH_ready (rs := [6]) (by kernel_rfl) (by simp) ?_
    refine AllReadyH.cons rfl (fun K hK => ?_) AllReadyH.nil
    try simp (maxSteps := 2000000) only [zz1, zz2, zz3]
    go_simp
    refine hK.out _ _ (by with_reducible first | exact ⟨d0, d1, d2, d3⟩ | exact ⟨(set5_other hne _ _ _ _ _).trans x0, (set5_other hne _ _ _ _ _).trans x1, (set5_other hne _ _ _ _ _).trans x2, (set5_other hne _ _ _ _ _).trans x3⟩) (fun hHeld => ?_)
    clear hK K
    try simp (maxSteps := 2000000) only [zz1, zz2, zz3, Act.put, zz4, zz5, zz6]
    refine wpAnyH_take (i := 7) (v := ?_) rfl (by kernel_rfl) (by kernel_rfl) (by kernel_rfl) (fun _ _ _ h => h) (Or.inl ⟨by first | kernel_rfl | rfl, ?_⟩) (by assumption) ?_
    rotate_left
    · (intro wq hSw; (try dsimp only at hSw); (try simp (maxSteps := 2000000) only [zz1, zz2, zz3]); go_simp); try with_reducible rfl
    try simp (maxSteps := 2000000) only [zz1, zz2, zz3, Act.put, zz4, zz5, zz6]
    refine wpAnyH_done (by kernel_rfl) ?_ _
    clear hHeld d0 d1 d2 d3 x0 x1 x2 x3
    go_wp2_with fail
    refine bodyPost_ret (v := .tuple #[.agg #[.int .u64 (E : Int), .int .i64 (hp : Int), .int .u64 (hg : Int), .int .i64 (hct : Int), .int .i64 (hsz : Int)], .bool true]) (by simp [results, Tryz.results72, go_sem, *]) rfl ?_
    exact ⟨rfl, (((((HB4.out.setCell (p := ⟨q, 0, none⟩) hq0 _).setCell (p := ⟨q, 1, none⟩) hq0 _).setCell (p := ⟨q, 2, none⟩) hq0 _).setCell (p := ⟨q, 3, none⟩) hq0 _).setCell (p := ⟨q, 4, none⟩) hq0 _).drew⟩
  · have e1 : decide (k ≤ hasC o (k + m) E) = false := decide_eq_false hle
    rw [e1]
    have HLE := Lib.hid hle
    clear e1 hle
    go_enter Tryz.func72, Tryz.ntmps72
    go_wp2_with fail
    refine HGV.out.mono ?_
    clear HGV
    rintro e w2 ⟨hb2, ⟨_, rfl⟩ | ⟨hge, _⟩⟩
    rotate_left
    · exact absurd hge HLE.out
    have bB4 := BB.out.below hb2
    have HB4 := Lib.hid (HB0.out.trans (hb2.mono HB0.out.size))
    have k0 := bB4.cell 0
    have k1 := bB4.cell 1
    have k2 := bB4.cell 2
    have k3 := bB4.cell 3
    have k4 := bB4.cell 4
    have z0 := bB4.frozen 0
    have z1 := bB4.frozen 1
    have z2 := bB4.frozen 2
    have z3 := bB4.frozen 3
    have z4 := bB4.frozen 4
    clear hb2 bB4
    go_wp2_with fail
    refine bodyPost_ret (v := .tuple #[.agg #[.int .u64 0, .int .i64 0, .int .u64 0, .int .i64 0, .int .i64 0], .bool false]) (by simp [results, Tryz.results72, go_sem, *]) rfl ?_
    exact ⟨rfl, ((((HB4.out.setCell (p := ⟨q, 0, none⟩) hq0 _).setCell (p := ⟨q, 1, none⟩) hq0 _).setCell (p := ⟨q, 2, none⟩) hq0 _).setCell (p := ⟨q, 3, none⟩) hq0 _).setCell (p := ⟨q, 4, none⟩) hq0 _⟩
end
end Go.Proofs.YtcliejdiaohamaaGreat

set_option linter.unusedSimpArgs false
set_option linter.unusedVariables false
namespace Go.Proofs.YtcliejdiaohamaaGreat
open Go.RowKit Go.Cib
attribute [local go_sem] cell_set Later.cell Later.frozen Grw.cell Grw.frozen
open Go.Shelf
theorem RoundIn.anyDepth2 {F : Fence} (hd : F.depth = none) {m m' : Nat} {P : Program} {l : Nat} {f : FuncId} {tmps : Array Value} {assign body : Code} {w : World} {R : Ending → World → Prop}
    (h : RoundIn F m P l f tmps assign body w R) : RoundIn F m' P l f tmps assign body w R := ⟨h.1, fun c cs _ => h.2 c cs (fun d h => by rw [hd] at h; cases h)⟩
theorem YieldAt.anyDepth2 {F : Fence} (hd : F.depth = none) {m : Nat} (m' : Nat) {P : Program} {l : Nat} {args : Array Value} {W : World} {R : Ending → World → Prop} (h : YieldAt F m P l args W R) : YieldAt F m' P l args W R := by
  obtain ⟨fn, tmps, assign, body, hy, hR⟩ := h
  exact ⟨fn, tmps, assign, body, hy, RoundIn.anyDepth2 hd hR⟩
def CellsAt (w : World) (j : Nat) : Prop := ∃ o : Obj, w.heap[j]? = some o ∧ o.isCells = true
/-- A loop's body that writes boxes of F alone, beyond base. -/
structure KpC (F : Nat → Prop) (base : Nat) (W W' : World) : Prop where
  bel : Below base W W'
  same : ∀ (j : Nat) (o : Obj), W.heap[j]? = some o → o.isCells = true → ¬ F j → W'.heap[j]? = some o
theorem KpC.refl (F : Nat → Prop) (base : Nat) (W : World) : KpC F base W W := ⟨Below.refl _ _, fun _ _ h _ _ => h⟩
theorem KpC.trans {F : Nat → Prop} {base : Nat} {A B C : World} (h : KpC F base A B) (k : KpC F base B C) : KpC F base A C := ⟨h.bel.trans k.bel, fun j o h1 h2 h3 => k.same j o (h.same j o h1 h2 h3) h2 h3⟩
theorem KpC.of_below {F : Nat → Prop} {base : Nat} {A B : World} (h : Below A.heap.size A B) (hb : base ≤ A.heap.size) : KpC F base A B := ⟨h.mono hb, fun j o h1 _ _ => (h.block j (Array.getElem?_eq_some_iff.1 h1).1).trans h1⟩
theorem KpC.loop {F : Nat → Prop} {base : Nat} {w : World} (hn : base ≤ w.heap.size) (W : World) (l : Nat) (o o' : Obj) (hl : w.heap.size ≤ l) (h : W.heap[l]? = some o) (hc : o.isCells = false) (hw : o.isWalk = false) : KpC F base W (W.putObj l o') :=
  ⟨belowK_b hn W l o o' hl h hc hw, fun j o2 h1 h2 _ => by
    have hne : j ≠ l := fun e => by subst e; rw [h] at h1; cases h1; rw [hc] at h2; cases h2
    rw [World.putObj_heap_other hne]; exact h1⟩
theorem KpC.set {F : Nat → Prop} {base : Nat} {A B : World} (h : KpC F base A B) {p : Addr} (hp : F p.block) (hb : base ≤ p.block) (v : Value) : KpC F base A (B.setCell p v) :=
  ⟨h.bel.setCell hb v, fun j o h1 h2 h3 => (Below.heap_setCell _ _ _ _ (fun e => h3 (by rw [e]; exact hp))).trans (h.same j o h1 h2 h3)⟩
theorem KpC.alloc {F : Nat → Prop} {base : Nat} {A B : World} (h : KpC F base A B) (hb : base ≤ A.heap.size) (o : Obj) : KpC F base A (B.alloc o) :=
  ⟨h.bel.alloc (Nat.le_trans hb h.bel.size) o, fun j o1 h1 h2 h3 => by
    have := h.same j o1 h1 h2 h3
    exact (Below.heap_alloc _ _ _ (Array.getElem?_eq_some_iff.1 this).1).trans this⟩
theorem KpC.box {F : Nat → Prop} {base : Nat} {W W' : World} (h : KpC F base W W') {b : Nat} {cs : Array Value} (hb : BoxAt W b cs) (hF : ¬ F b) : BoxAt W' b cs := by
  obtain ⟨t, hb⟩ := hb
  exact ⟨t, h.same _ _ hb rfl hF⟩
theorem KpC.size {F : Nat → Prop} {base : Nat} {W W' : World} (h : KpC F base W W') : W.heap.size ≤ W'.heap.size := h.bel.size
theorem CellsAt.lt {w : World} {j : Nat} (h : CellsAt w j) : j < w.heap.size := by
  obtain ⟨o, h, _⟩ := h
  exact (Array.getElem?_eq_some_iff.1 h).1
theorem RdL.cellsR {S : Nat → Prop} {w : World} {A : Option Addr} {n : Nat} {xs : List Nat} (h : RdL ByR 1 S w A n xs) : RdL ByR 1 (fun j => S j ∧ CellsAt w j) w A n xs :=
  ⟨h.1, fun hn => by
    obtain ⟨b, o, hA, hS, hlt, hc⟩ := h.2 hn
    have hl := h.1
    obtain ⟨cs, h1, h2, h3⟩ := hc 0 xs[0] (List.getElem?_eq_getElem (by omega))
    have h4 := h3 0 cs[0] (List.getElem?_eq_getElem (by omega))
    exact ⟨b, o, hA, ⟨hS, cells_of_cell h4⟩, hlt, hc⟩⟩
theorem RdL.cellsB {S : Nat → Prop} {w : World} {A : Option Addr} {n : Nat} {xs : Rws} (h : RdL RowR 1 S w A n xs) : RdL RowR 1 (fun j => S j ∧ CellsAt w j) w A n xs :=
  ⟨h.1, fun hn => by
    obtain ⟨b, o, hA, hS, hlt, hc⟩ := h.2 hn
    have hl := h.1
    obtain ⟨cs, h1, h2, h3⟩ := hc 0 xs[0] (List.getElem?_eq_getElem (by omega))
    have h4 := h3 0 cs[0] (List.getElem?_eq_getElem (by omega))
    refine ⟨b, o, hA, ⟨hS, cells_of_cell h4⟩, hlt, fun i x hx => ?_⟩
    obtain ⟨cs, h1, ⟨A2, m, c, e, hmc, h2⟩, h3⟩ := hc i x hx
    exact ⟨cs, h1, ⟨A2, m, c, e, hmc, RdL.cellsR h2⟩, h3⟩⟩
theorem KpC.rd {F : Nat → Prop} {base : Nat} {W0 W W' : World} (h : KpC F base W W') {T : Type} {R : (Nat → Prop) → World → List Value → T → Prop} (hR : Stable R) {s : Nat} {S : Nat → Prop} {A : Option Addr} {g : Nat} {xs : List T} (r : RdL R s (fun j => S j ∧ CellsAt W j) W A g xs) (hx : ∀ j, S j → ¬ F j) : RdL R s (fun j => S j ∧ CellsAt W' j) W' A g xs :=
  r.stable hR fun b ⟨hS, o, h1, h2⟩ _ => ⟨⟨hS, o, h.same b o h1 h2 (hx b hS), h2⟩, (h.same b o h1 h2 (hx b hS)).trans h1.symm⟩
attribute [local go_sem ↓] shut_loadS shut_zeroS shut_buildS shut_storeS
attribute [local go_sem] run_zeroS run_build0
set_option maxRecDepth 100000 in
set_option maxHeartbeats 8000000 in
theorem shget_bad {w : World} {A : Option Addr} {n c : Nat} (hn : n ≠ 64) : Calls Tryz.prog 149 #[.slice A n c] w fun e w' => e = .returned (.tuple #[.agg (shC sh0), .int .i64 2]) ∧ Below w.heap.size w w' := by
  have f0 : ((n : Int) != 64) = true := by simp; omega
  have b0 := BoxAt.new w (shC sh0) 130
  have hb0 : Below w.heap.size w (w.alloc (.cells (shC sh0) 130)) := (Below.refl _ _).alloc (Nat.le_refl _) _
  obtain ⟨wA, hwA⟩ : ∃ wA, w.alloc (.cells (shC sh0) 130) = wA := ⟨_, rfl⟩
  obtain ⟨p, hp⟩ : ∃ p, w.heap.size = p := ⟨_, rfl⟩
  have hpw : w.heap.size ≤ p := by omega
  rw [hwA] at b0 hb0
  rw [hp] at b0
  have hst := run_storeS (y := sh0) b0 sh0_ok.l sh0_ok.l
  have hb2 := shC_set (y := sh0) b0 sh0_ok.l sh0_ok.l
  have HB0 := Lib.hid hb0
  have HB2 := Lib.hid hb2
  clear b0 hb0 hb2
  go_enter Tryz.func149, Tryz.ntmps149
  go_wp2_with fail
  have hld := run_loadS HB2.out sh0_ok.l
  refine bodyPost_ret (v := .tuple #[.agg (shC sh0), .int .i64 2]) (results_cellS Tryz.results149 _ _ _ _ _ rfl rfl hld) rfl ?_
  exact ⟨rfl, setS_below HB0.out hpw _⟩
set_option maxRecDepth 100000 in
theorem shards_any {w : World} {va : Value} {z : Int} (hv : ∃ p, va = .pointer p) : Calls Tryz.prog 74 #[va, .int .i64 z] w fun e w' => e = .returned (.func (.func 147) #[] #[.pointer (some ⟨w.heap.size, 0, none⟩), .pointer (some ⟨w.heap.size + 1, 0, none⟩)]) ∧ w' = (w.alloc (.cells #[va] 27)).alloc (.cells #[.int .i64 z] 3) := by
  obtain ⟨p, rfl⟩ := hv
  go_enter Tryz.func74, Tryz.ntmps74
  go_wp2_with fail
  go_ret
  exact ⟨by simp, rfl⟩
end Go.Proofs.YtcliejdiaohamaaGreat
