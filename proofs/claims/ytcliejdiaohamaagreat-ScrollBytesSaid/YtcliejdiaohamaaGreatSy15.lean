/-
  A scroll's name as bytes, by the reference.
  A scroll's name read out of bytes, whatever is asked.
  scroll.GetBytes.
  ref16.GetBytes.
  What a region's operations keep may be sharpened on the way.
  ScrollBytes, walked.
  A geometry among the arguments; bounds of whole numbers.
  A base and a blob among the arguments.
  A scroll among the arguments, its number bounded.
-/
import Derived.Test.YtcliejdiaohamaaGreatSy14
import Derived.Test.YtcliejdiaohamaaGreatSy13
import Derived.Test.YtcliejdiaohamaaGreatSy3
import Derived.Test.YtcliejdiaohamaaGreatSy2
import Derived.Test.YtcliejdiaohamaaGreatSy4
import Derived.Test.YtcliejdiaohamaaGreatSy7
set_option linter.unusedSimpArgs false
set_option linter.unusedVariables false
namespace Go.Proofs.YtcliejdiaohamaaGreat
open Go.RowKit Go.Cib
attribute [local go_sem] cell_set Later.cell Later.frozen Grw.cell Grw.frozen
set_option maxRecDepth 100000 in
set_option maxHeartbeats 8000000 in
theorem rspb_any {w : World} {p ct sz : Int} {g : Nat} {n c : Nat} {A : Option Addr} {S : Nat → Prop} {xs : List Nat} (R : RdL ByR 1 S w A n xs) (hn : n ≤ 3900) (hg : Hid (g < 2 ^ 64)) :
    Calls Tryz.prog 51 #[.slice A n c, .agg (scC p (g : Int) ct sz)] w fun e w' => ∃ A' c', e = .returned (.slice A' (n + 16) c') ∧ n + 16 ≤ c' ∧ RdL ByR 1 (fun j => w.heap.size ≤ j) w' A' (n + 16) (xs ++ nmB p g ct sz) ∧ Below w.heap.size w w' := by
  have hb0 : Below w.heap.size w (w.alloc (.cells (scC p (g : Int) ct sz) 24)) := (Below.refl _ _).alloc (Nat.le_refl _) _
  have bB := BoxAt.new w (scC p (g : Int) ct sz) 24
  obtain ⟨w1, hw1⟩ : ∃ w1, w.alloc (.cells (scC p (g : Int) ct sz) 24) = w1 := ⟨_, rfl⟩
  obtain ⟨q, hq⟩ : ∃ q, w.heap.size = q := ⟨_, rfl⟩
  rw [hw1] at hb0 bB
  rw [hq] at bB
  have HB0 := Lib.hid hb0
  have BB := Lib.hid bB
  have HR := Lib.hid (R.below ByR.stable hb0)
  have fp := u64N_wrap p
  have fc := u64N_wrap ct
  have fs := u64N_wrap sz
  have hpl := Lib.hid (u64N_lt p)
  have hcl := Lib.hid (u64N_lt ct)
  have hsl := Lib.hid (u64N_lt sz)
  unfold nmB
  obtain ⟨P, hP⟩ : ∃ P, u64N p = P := ⟨_, rfl⟩
  obtain ⟨C, hC⟩ : ∃ C, u64N ct = C := ⟨_, rfl⟩
  obtain ⟨Z, hZ⟩ : ∃ Z, u64N sz = Z := ⟨_, rfl⟩
  rw [hP] at fp hpl ⊢
  rw [hC] at fc hcl ⊢
  rw [hZ] at fs hsl ⊢
  clear hb0 bB R hP hC hZ
  unfold scC at hw1 ⊢
  go_enter Tryz.func51, Tryz.ntmps51
  go_wp2_with fail
  have hd : Below w1.heap.size w1 w1.drew := (Below.refl _ _).drew
  have HSF : Hid (∀ w', Below w1.heap.size w1 w' → w'.cell? ⟨q, 0, none⟩ = some (.int .i64 p) ∧ w'.cell? ⟨q, 1, none⟩ = some (.int .u64 (g : Int)) ∧ w'.cell? ⟨q, 2, none⟩ = some (.int .i64 ct) ∧ w'.cell? ⟨q, 3, none⟩ = some (.int .i64 sz)) := Lib.hid fun w' hb => ⟨(BB.out.below hb).cell 0, (BB.out.below hb).cell 1, (BB.out.below hb).cell 2, (BB.out.below hb).cell 3⟩
  clear hw1 hq
  refine wp_region_held_drew (S := fun w' => w'.cell? ⟨q, 0, none⟩ = some (.int .i64 p) ∧ w'.cell? ⟨q, 1, none⟩ = some (.int .u64 (g : Int)) ∧ w'.cell? ⟨q, 2, none⟩ = some (.int .i64 ct) ∧ w'.cell? ⟨q, 3, none⟩ = some (.int .i64 sz)) (by kernel_rfl) (by first | exact HSF.out _ hd | exact HSF.out _ hb2 | exact HSF.out _ hb3) (fun hHeld => ?_)
  refine wpAnyH_take (i := 0) (v := ?_) rfl (by kernel_rfl) (by kernel_rfl) (by kernel_rfl) (fun _ _ _ h => h) (Or.inl ⟨by first | kernel_rfl | rfl, ?_⟩) (by assumption) ?_
  rotate_left
  · (intro wq hSw; (try dsimp only at hSw); (try simp (maxSteps := 2000000) only [zz1, zz2, zz3]); go_simp); try with_reducible rfl
  try simp (maxSteps := 2000000) only [zz1, zz2, zz3, Act.put, zz4, zz5, zz6]
  refine wpAnyH_take (i := 1) (v := ?_) rfl (by kernel_rfl) (by kernel_rfl) (by kernel_rfl) (fun _ _ _ h => h) (Or.inl ⟨by first | kernel_rfl | rfl, ?_⟩) (by assumption) ?_
  rotate_left
  · (intro wq hSw; (try dsimp only at hSw); (try simp (maxSteps := 2000000) only [zz1, zz2, zz3]); go_simp); try with_reducible rfl
  try simp (maxSteps := 2000000) only [zz1, zz2, zz3, Act.put, zz4, zz5, zz6]
  refine wpAnyH_take (i := 2) (v := ?_) rfl (by kernel_rfl) (by kernel_rfl) (by kernel_rfl) (fun _ _ _ h => h) (Or.inl ⟨by first | kernel_rfl | rfl, ?_⟩) (by assumption) ?_
  rotate_left
  · (intro wq hSw; (try dsimp only at hSw); (try simp (maxSteps := 2000000) only [zz1, zz2, zz3]); go_simp); try with_reducible rfl
  try simp (maxSteps := 2000000) only [zz1, zz2, zz3, Act.put, zz4, zz5, zz6]
  refine wpAnyH_take (i := 3) (v := ?_) rfl (by kernel_rfl) (by kernel_rfl) (by kernel_rfl) (fun _ _ _ h => h) (Or.inl ⟨by first | kernel_rfl | rfl, ?_⟩) (by assumption) ?_
  rotate_left
  · (intro wq hSw; (try dsimp only at hSw); (try simp (maxSteps := 2000000) only [zz1, zz2, zz3]); go_simp); try with_reducible rfl
  try simp (maxSteps := 2000000) only [zz1, zz2, zz3, Act.put, zz4, zz5, zz6]
  refine wpAnyH_take (i := 5) (v := ?_) rfl (by kernel_rfl) (by kernel_rfl) (by kernel_rfl) (fun _ _ _ h => h) (Or.inl ⟨by first | kernel_rfl | rfl, ?_⟩) (by assumption) ?_
  rotate_left
  · (intro wq hSw; (try dsimp only at hSw); (try simp (maxSteps := 2000000) only [zz1, zz2, zz3]); go_simp); try with_reducible rfl
  try simp (maxSteps := 2000000) only [zz1, zz2, zz3, Act.put, zz4, zz5, zz6]
  refine wpAnyH_take (i := 6) (v := ?_) rfl (by kernel_rfl) (by kernel_rfl) (by kernel_rfl) (fun _ _ _ h => h) (Or.inl ⟨by first | kernel_rfl | rfl, ?_⟩) (by assumption) ?_
  rotate_left
  · (intro wq hSw; (try dsimp only at hSw); (try simp (maxSteps := 2000000) only [zz1, zz2, zz3]); go_simp); try with_reducible rfl
  try simp (maxSteps := 2000000) only [zz1, zz2, zz3, Act.put, zz4, zz5, zz6]
  refine wpAnyH_ready (rs := [4]) (by kernel_rfl) (by simp) ?_
  refine AllReadyH.cons rfl (fun K hK => ?_) AllReadyH.nil
  try simp (maxSteps := 2000000) only [zz1, zz2, zz3]
  go_simp
  go_at_call 124
  have hpu := rput_any (c := c) (k := 2) (v := P) (Lib.hid (HR.out.below ByR.stable hd)) (by omega) (by omega) hpl.out
  refine hpu.mono ?_
  clear hpu
  rintro e w2 ⟨A2, c2, rfl, hc9, hr2, hb⟩
  have hb2 : Below w1.heap.size w1 w2 := hd.trans (hb.mono hd.size)
  have HR2 := Lib.hid hr2
  clear hb hr2 hc9
  try (go_wp2_with fail)
  refine hK.out _ _ (by first | exact HSF.out _ hd | exact HSF.out _ hb2 | exact HSF.out _ hb3) (fun hHeld => ?_)
  clear hK K
  try simp (maxSteps := 2000000) only [zz1, zz2, zz3, Act.put, zz4, zz5, zz6]
  refine wpAnyH_ready (rs := [7]) (by kernel_rfl) (by simp) ?_
  refine AllReadyH.cons rfl (fun K hK => ?_) AllReadyH.nil
  try simp (maxSteps := 2000000) only [zz1, zz2, zz3]
  go_simp
  go_at_call 124
  have hpu := rput_any (c := c2) (k := 8) (v := g) (Lib.hid HR2.out) (by omega) (by omega) (by have := hg.out; omega)
  refine hpu.mono ?_
  clear hpu
  rintro e w3 ⟨A3, c3, rfl, hc9, hr3, hb⟩
  have hb3 : Below w1.heap.size w1 w3 := hb2.trans (hb.mono hb2.size)
  have HR3 := Lib.hid hr3
  clear hb hr3 hc9
  try (go_wp2_with fail)
  refine hK.out _ _ (by first | exact HSF.out _ hd | exact HSF.out _ hb2 | exact HSF.out _ hb3) (fun hHeld => ?_)
  clear hK K
  try simp (maxSteps := 2000000) only [zz1, zz2, zz3, Act.put, zz4, zz5, zz6]
  refine wpAnyH_take (i := 8) (v := ?_) rfl (by kernel_rfl) (by kernel_rfl) (by kernel_rfl) (fun _ _ _ h => h) (Or.inl ⟨by first | kernel_rfl | rfl, ?_⟩) (by assumption) ?_
  rotate_left
  · (intro wq hSw; (try dsimp only at hSw); (try simp (maxSteps := 2000000) only [zz1, zz2, zz3]); go_simp); try with_reducible rfl
  try simp (maxSteps := 2000000) only [zz1, zz2, zz3, Act.put, zz4, zz5, zz6]
  refine wpAnyH_done (by kernel_rfl) ?_ _
  clear hHeld
  have hd3 : Below w1.heap.size w1 w3.drew := hb3.drew
  have HR3d := Lib.hid (HR3.out.below ByR.stable (w' := w3.drew) (Below.refl _ _).drew)
  go_wp2_with fail
  refine wp_region_held_drew (S := fun w' => w'.cell? ⟨q, 0, none⟩ = some (.int .i64 p) ∧ w'.cell? ⟨q, 1, none⟩ = some (.int .u64 (g : Int)) ∧ w'.cell? ⟨q, 2, none⟩ = some (.int .i64 ct) ∧ w'.cell? ⟨q, 3, none⟩ = some (.int .i64 sz)) (by kernel_rfl) (by first | exact HSF.out _ hd3 | exact HSF.out _ hb4 | exact HSF.out _ hb5) (fun hHeld => ?_)
  refine wpAnyH_take (i := 0) (v := ?_) rfl (by kernel_rfl) (by kernel_rfl) (by kernel_rfl) (fun _ _ _ h => h) (Or.inl ⟨by first | kernel_rfl | rfl, ?_⟩) (by assumption) ?_
  rotate_left
  · (intro wq hSw; (try dsimp only at hSw); (try simp (maxSteps := 2000000) only [zz1, zz2, zz3]); go_simp); try with_reducible rfl
  try simp (maxSteps := 2000000) only [zz1, zz2, zz3, Act.put, zz4, zz5, zz6]
  refine wpAnyH_take (i := 1) (v := ?_) rfl (by kernel_rfl) (by kernel_rfl) (by kernel_rfl) (fun _ _ _ h => h) (Or.inl ⟨by first | kernel_rfl | rfl, ?_⟩) (by assumption) ?_
  rotate_left
  · (intro wq hSw; (try dsimp only at hSw); (try simp (maxSteps := 2000000) only [zz1, zz2, zz3]); go_simp); try with_reducible rfl
  try simp (maxSteps := 2000000) only [zz1, zz2, zz3, Act.put, zz4, zz5, zz6]
  refine wpAnyH_take (i := 2) (v := ?_) rfl (by kernel_rfl) (by kernel_rfl) (by kernel_rfl) (fun _ _ _ h => h) (Or.inl ⟨by first | kernel_rfl | rfl, ?_⟩) (by assumption) ?_
  rotate_left
  · (intro wq hSw; (try dsimp only at hSw); (try simp (maxSteps := 2000000) only [zz1, zz2, zz3]); go_simp); try with_reducible rfl
  try simp (maxSteps := 2000000) only [zz1, zz2, zz3, Act.put, zz4, zz5, zz6]
  refine wpAnyH_take (i := 3) (v := ?_) rfl (by kernel_rfl) (by kernel_rfl) (by kernel_rfl) (fun _ _ _ h => h) (Or.inl ⟨by first | kernel_rfl | rfl, ?_⟩) (by assumption) ?_
  rotate_left
  · (intro wq hSw; (try dsimp only at hSw); (try simp (maxSteps := 2000000) only [zz1, zz2, zz3]); go_simp); try with_reducible rfl
  try simp (maxSteps := 2000000) only [zz1, zz2, zz3, Act.put, zz4, zz5, zz6]
  refine wpAnyH_take (i := 5) (v := ?_) rfl (by kernel_rfl) (by kernel_rfl) (by kernel_rfl) (fun _ _ _ h => h) (Or.inl ⟨by first | kernel_rfl | rfl, ?_⟩) (by assumption) ?_
  rotate_left
  · (intro wq hSw; (try dsimp only at hSw); (try simp (maxSteps := 2000000) only [zz1, zz2, zz3]); go_simp); try with_reducible rfl
  try simp (maxSteps := 2000000) only [zz1, zz2, zz3, Act.put, zz4, zz5, zz6]
  refine wpAnyH_take (i := 6) (v := ?_) rfl (by kernel_rfl) (by kernel_rfl) (by kernel_rfl) (fun _ _ _ h => h) (Or.inl ⟨by first | kernel_rfl | rfl, ?_⟩) (by assumption) ?_
  rotate_left
  · (intro wq hSw; (try dsimp only at hSw); (try simp (maxSteps := 2000000) only [zz1, zz2, zz3]); go_simp); try with_reducible rfl
  try simp (maxSteps := 2000000) only [zz1, zz2, zz3, Act.put, zz4, zz5, zz6]
  refine wpAnyH_take (i := 7) (v := ?_) rfl (by kernel_rfl) (by kernel_rfl) (by kernel_rfl) (fun _ _ _ h => h) (Or.inl ⟨by first | kernel_rfl | rfl, ?_⟩) (by assumption) ?_
  rotate_left
  · (intro wq hSw; (try dsimp only at hSw); (try simp (maxSteps := 2000000) only [zz1, zz2, zz3]); go_simp); try with_reducible rfl
  try simp (maxSteps := 2000000) only [zz1, zz2, zz3, Act.put, zz4, zz5, zz6]
  refine wpAnyH_ready (rs := [4]) (by kernel_rfl) (by simp) ?_
  refine AllReadyH.cons rfl (fun K hK => ?_) AllReadyH.nil
  try simp (maxSteps := 2000000) only [zz1, zz2, zz3]
  go_simp
  go_at_call 124
  have hpu := rput_any (c := c3) (k := 2) (v := C) (Lib.hid HR3d.out) (by omega) (by omega) hcl.out
  refine hpu.mono ?_
  clear hpu
  rintro e w4 ⟨A4, c4, rfl, hc9, hr4, hb⟩
  have hb4 : Below w1.heap.size w1 w4 := hd3.trans (hb.mono hd3.size)
  have HR4 := Lib.hid hr4
  clear hb hr4 hc9
  try (go_wp2_with fail)
  refine hK.out _ _ (by first | exact HSF.out _ hd3 | exact HSF.out _ hb4 | exact HSF.out _ hb5) (fun hHeld => ?_)
  clear hK K
  try simp (maxSteps := 2000000) only [zz1, zz2, zz3, Act.put, zz4, zz5, zz6]
  refine wpAnyH_ready (rs := [8]) (by kernel_rfl) (by simp) ?_
  refine AllReadyH.cons rfl (fun K hK => ?_) AllReadyH.nil
  try simp (maxSteps := 2000000) only [zz1, zz2, zz3]
  go_simp
  go_at_call 124
  have hpu := rput_any (c := c4) (k := 4) (v := Z) (Lib.hid HR4.out) (by omega) (by omega) hsl.out
  refine hpu.mono ?_
  clear hpu
  rintro e w5 ⟨A5, c5, rfl, hc9, hr5, hb⟩
  have hb5 : Below w1.heap.size w1 w5 := hb4.trans (hb.mono hb4.size)
  have HS5 := Lib.hid hb4.size
  have HR5 := Lib.hid (And.intro hr5 hc9)
  clear hb hr5 hc9
  try (go_wp2_with fail)
  refine hK.out _ _ (by first | exact HSF.out _ hd3 | exact HSF.out _ hb4 | exact HSF.out _ hb5) (fun hHeld => ?_)
  clear hK K
  try simp (maxSteps := 2000000) only [zz1, zz2, zz3, Act.put, zz4, zz5, zz6]
  refine wpAnyH_take (i := 9) (v := ?_) rfl (by kernel_rfl) (by kernel_rfl) (by kernel_rfl) (fun _ _ _ h => h) (Or.inl ⟨by first | kernel_rfl | rfl, ?_⟩) (by assumption) ?_
  rotate_left
  · (intro wq hSw; (try dsimp only at hSw); (try simp (maxSteps := 2000000) only [zz1, zz2, zz3]); go_simp); try with_reducible rfl
  try simp (maxSteps := 2000000) only [zz1, zz2, zz3, Act.put, zz4, zz5, zz6]
  refine wpAnyH_done (by kernel_rfl) ?_ _
  clear hHeld
  have HB5 := Lib.hid (HB0.out.trans (hb5.mono HB0.out.size))
  go_wp2_with fail
  go_ret
  have h := HR5.out
  rw [show n + 2 + 8 + 2 + 4 = n + 16 by omega, show xs ++ leN 2 P ++ leN 8 g ++ leN 2 C ++ leN 4 Z = xs ++ (leN 2 P ++ leN 8 g ++ leN 2 C ++ leN 4 Z) by simp only [List.append_assoc]] at h
  rw [show n + 2 + 8 + 2 + 4 = n + 16 by omega]
  exact ⟨A5, c5, rfl, h.2, h.1.weaken ByR.stable (fun j hj => Nat.le_trans (Nat.le_trans HB0.out.size HS5.out) hj), HB5.out⟩
end Go.Proofs.YtcliejdiaohamaaGreat

set_option linter.unusedSimpArgs false
set_option linter.unusedVariables false
namespace Go.Proofs.YtcliejdiaohamaaGreat
open Go.RowKit Go.Cib
attribute [local go_sem] cell_set Later.cell Later.frozen Grw.cell Grw.frozen
def gbO : Nat → Nat
  | 0 => 0
  | 1 => 2
  | 2 => 10
  | 3 => 12
  | _ => 16
def gbW : Nat → Nat
  | 1 => 8
  | 3 => 4
  | _ => 2
/-- A field of the name. -/
def gbF (xs : List Nat) (z : Int) (i : Nat) : Nat := unN ((xs.drop (z.toNat + gbO i)).take (gbW i))
/-- The code that it answers. -/
def gbC (n : Nat) (z : Int) : Int := if z < 0 ∨ z > n then 2 else if (16 : Int) > (n : Int) - z then 5 else 0
def gbV (xs : List Nat) (z : Int) : Array Value := if gbC xs.length z = 0 then scC (gbF xs z 0) (gbF xs z 1) (gbF xs z 2) (gbF xs z 3) else scC 0 0 0 0
def GbR (n : Nat) (xs : List Nat) (z : Int) (e : Ending) : Prop := e = .returned (.tuple #[.agg (gbV xs z), .int .i64 (gbC n z)])
def gbA (xs : List Nat) (z : Int) (i : Nat) : Array Value := #[.int .u64 ((if 0 < i then gbF xs z 0 else 0 : Nat) : Int), .int .u64 ((if 1 < i then gbF xs z 1 else 0 : Nat) : Int), .int .u64 ((if 2 < i then gbF xs z 2 else 0 : Nat) : Int), .int .u64 ((if 3 < i then gbF xs z 3 else 0 : Nat) : Int)]
section
variable {n : Nat} {xs : List Nat} {z : Int}
theorem gb_step (hl : xs.length = n) {i : Nat} (hi : i < 4) (h : 0 < i → 0 ≤ z ∧ z + gbO i ≤ n) (hok : 0 ≤ z ∧ z + gbO (i + 1) ≤ n) : ngE n (z + gbO i) (gbW i) = 0 ∧ ngV xs (z + gbO i) (gbW i) = gbF xs z i := by
  obtain ⟨a, rfl⟩ : ∃ a : Nat, z = a := ⟨z.toNat, by omega⟩
  have e : gbO (i + 1) = gbO i + gbW i := by
    have : i = 0 ∨ i = 1 ∨ i = 2 ∨ i = 3 := by omega
    rcases this with rfl | rfl | rfl | rfl <;> rfl
  have := ng_in hl (a := a + gbO i) (k := gbW i) (by omega)
  rw [show ((a : Int) + (gbO i : Int)) = ((a + gbO i : Nat) : Int) by push_cast; rfl]
  exact this
theorem gb_fail (hl : xs.length = n) {i : Nat} (hi : i < 4) (h : 0 < i → 0 ≤ z ∧ z + gbO i ≤ n) (hok : ¬ (0 ≤ z ∧ z + gbO (i + 1) ≤ n)) : ngE n (z + gbO i) (gbW i) = gbC n z ∧ gbC n z ≠ 0 ∧ gbV xs z = scC 0 0 0 0 := by
  have e : gbO (i + 1) = gbO i + gbW i ∧ gbO (i + 1) ≤ 16 ∧ (i = 0 → gbO i = 0) ∧ 1 ≤ gbW i := by
    have : i = 0 ∨ i = 1 ∨ i = 2 ∨ i = 3 := by omega
    rcases this with rfl | rfl | rfl | rfl <;> exact ⟨rfl, by decide, by decide, by decide⟩
  have hC : gbC n z ≠ 0 := by
    unfold gbC
    split
    · decide
    · rw [if_pos (by omega)]; decide
  refine ⟨?_, hC, by unfold gbV; rw [hl, if_neg hC]⟩
  unfold ngE gbC
  rcases Nat.eq_zero_or_pos i with h0 | h0
  · have := e.2.2.1 h0
    rw [this]
    by_cases hz : z < 0 ∨ z > n
    · rw [if_pos (by omega), if_pos hz]
    · rw [if_neg (by omega), if_pos (by omega), if_neg hz, if_pos (by omega)]
  · have := h h0
    rw [if_neg (by omega), if_pos (by omega), if_neg (by omega), if_pos (by omega)]
theorem gb_end (hl : xs.length = n) (h : 0 ≤ z ∧ z + 16 ≤ n) : gbC n z = 0 ∧ gbV xs z = scC (gbF xs z 0) (gbF xs z 1) (gbF xs z 2) (gbF xs z 3) := by
  have hC : gbC n z = 0 := by
    unfold gbC
    rw [if_neg (by omega), if_neg (by omega)]
  exact ⟨hC, by unfold gbV; rw [hl, if_pos hC]⟩
theorem gbF_lt (hb : Byt xs) (z : Int) (i : Nat) : gbF xs z i < 2 ^ (8 * gbW i) := by
  have h := unN_lt (l := (xs.drop (z.toNat + gbO i)).take (gbW i)) fun x hx => hb x (List.mem_of_mem_drop (List.mem_of_mem_take hx))
  have hl : ((xs.drop (z.toNat + gbO i)).take (gbW i)).length ≤ gbW i := by rw [List.length_take]; omega
  exact Nat.lt_of_lt_of_le h (Nat.pow_le_pow_right (by omega) (by omega))
end
end Go.Proofs.YtcliejdiaohamaaGreat

set_option linter.unusedSimpArgs false
set_option linter.unusedVariables false
namespace Go.Proofs.YtcliejdiaohamaaGreat
open Go.RowKit Go.Cib
attribute [local go_sem] cell_set Later.cell Later.frozen Grw.cell Grw.frozen
set_option maxRecDepth 100000 in
set_option maxHeartbeats 8000000 in
theorem sgb_any {w : World} {n c : Nat} {z : Int} {A : Option Addr} {S : Nat → Prop} {xs : List Nat} (R : RdL ByR 1 S w A n xs) (hnc : n ≤ c) (hn : n ≤ 4000) :
    Calls Tryz.prog 49 #[.slice A n c, .int .i64 z] w fun e w' => GbR n xs z e ∧ Below w.heap.size w w' := by
  have HX := Lib.hid R.1
  have HBY := Lib.hid (by_byt R)
  have HR := Lib.hid R
  have hb0 : Below w.heap.size w (w.alloc (.cells #[.int .i64 0, .int .u64 0, .int .i64 0, .int .i64 0] 24)) := (Below.refl _ _).alloc (Nat.le_refl _) _
  have bB := BoxAt.new w #[.int .i64 0, .int .u64 0, .int .i64 0, .int .i64 0] 24
  have hs0 := World.size_alloc w (.cells #[.int .i64 0, .int .u64 0, .int .i64 0, .int .i64 0] 24)
  obtain ⟨w1, hw1⟩ : ∃ w1, w.alloc (.cells #[.int .i64 0, .int .u64 0, .int .i64 0, .int .i64 0] 24) = w1 := ⟨_, rfl⟩
  rw [hw1] at hb0 bB hs0
  have hb1 : Below w.heap.size w (w1.alloc (.cells #[.int .u64 0, .int .u64 0, .int .u64 0, .int .u64 0] 218)) := hb0.alloc hb0.size _
  have bA := BoxAt.new w1 #[.int .u64 0, .int .u64 0, .int .u64 0, .int .u64 0] 218
  have bB1 := bB.below ((Below.refl w1.heap.size w1).alloc (Nat.le_refl _) (.cells #[.int .u64 0, .int .u64 0, .int .u64 0, .int .u64 0] 218))
  obtain ⟨w2, hw2⟩ : ∃ w2, w1.alloc (.cells #[.int .u64 0, .int .u64 0, .int .u64 0, .int .u64 0] 218) = w2 := ⟨_, rfl⟩
  rw [hw2] at hb1 bA bB1
  obtain ⟨q, hq⟩ : ∃ q, w.heap.size = q := ⟨_, rfl⟩
  obtain ⟨q6, hq6⟩ : ∃ q6, w1.heap.size = q6 := ⟨_, rfl⟩
  have HQ := Lib.hid (show q6 = q + 1 by omega)
  have HWq := Lib.hid (show w.heap.size ≤ q by omega)
  have HW := Lib.hid (show w.heap.size = q from hq)
  rw [hq] at bB1
  rw [hq6] at bA
  have HB1 := Lib.hid hb1
  have BA := Lib.hid bA
  have BB := Lib.hid bB1
  clear hb0 hb1 bA bB bB1 hs0 R
  have ix0 : ∀ w, (Instr.index 219 (.agg #[.int .i64 2, .int .i64 8, .int .i64 2, .int .i64 4]) (.int .i64 0)).run Tryz.prog w = .ok (.int .i64 2) w := fun _ => by kernel_rfl
  have ix1 : ∀ w, (Instr.index 219 (.agg #[.int .i64 2, .int .i64 8, .int .i64 2, .int .i64 4]) (.int .i64 1)).run Tryz.prog w = .ok (.int .i64 8) w := fun _ => by kernel_rfl
  have ix2 : ∀ w, (Instr.index 219 (.agg #[.int .i64 2, .int .i64 8, .int .i64 2, .int .i64 4]) (.int .i64 2)).run Tryz.prog w = .ok (.int .i64 2) w := fun _ => by kernel_rfl
  have ix3 : ∀ w, (Instr.index 219 (.agg #[.int .i64 2, .int .i64 8, .int .i64 2, .int .i64 4]) (.int .i64 3)).run Tryz.prog w = .ok (.int .i64 4) w := fun _ => by kernel_rfl
  go_enter Tryz.func49, Tryz.ntmps49
  go_wp2_with fail
  clear hq hq6
  clear hw1 hw2
  go_loopw [1, 12] (fun vz vi wr => ∃ i : Nat, i ≤ 4 ∧ vi = .int .i64 i ∧ vz = .int .i64 (z + gbO i) ∧ (0 < i → 0 ≤ z ∧ z + gbO i ≤ n) ∧ Hid (BoxAt wr q6 (gbA xs z i)) ∧ Hid (BoxAt wr q #[.int .i64 0, .int .u64 0, .int .i64 0, .int .i64 0]) ∧ Hid (Below w.heap.size w wr)) (fun _ vi _ => 4 - (intOf vi).toNat)
  case atStart => exact ⟨0, by omega, rfl, by simp [gbO], fun h => absurd h (by omega), BA, BB, HB1⟩
  case round =>
    clear BA BB HB1
    obtain ⟨i, hi, rfl, rfl, hin, BA, BB, HB⟩ := hrel
    by_cases hlt : i < 4
    · have p1 : (i : Int) < 4 := by omega
      have p0 : (0 : Int) ≤ (i : Int) := by omega
      have hk : 1 ≤ gbW i ∧ gbW i ≤ 8 := by
        have : i = 0 ∨ i = 1 ∨ i = 2 ∨ i = 3 := by omega
        rcases this with rfl | rfl | rfl | rfl <;> exact ⟨by decide, by decide⟩
      have HG := Lib.hid (nget_or (z := z + gbO i) (HR.out.below ByR.stable HB.out) hnc hn hk.1 hk.2)
      clear hk
      have h4 : i = 0 ∨ i = 1 ∨ i = 2 ∨ i = 3 := by omega
      by_cases hok : 0 ≤ z ∧ z + gbO (i + 1) ≤ n
      · obtain ⟨e1, e2⟩ := gb_step HX.out hlt hin hok
        unfold NgR at HG
        rw [e1, e2] at HG
        clear e1 e2
        have hO : (gbO i : Int) + gbW i = gbO (i + 1) := by rcases h4 with rfl | rfl | rfl | rfl <;> rfl
        have hOl : gbO i + gbW i ≤ 16 ∧ gbW i ≤ 8 := by rcases h4 with rfl | rfl | rfl | rfl <;> exact ⟨by decide, by decide⟩
        have HA := Lib.hid (show ∀ V, gbF xs z i = V → (gbA xs z i).setIfInBounds i (.int .u64 (V : Int)) = gbA xs z (i + 1) from fun V hV => by subst hV; rcases h4 with rfl | rfl | rfl | rfl <;> rfl)
        obtain ⟨V, hV⟩ : ∃ V, gbF xs z i = V := ⟨_, rfl⟩
        have hwz : IntKind.i64.wrap (z + (gbO i : Int) + (gbW i : Int)) = z + (gbO (i + 1) : Int) := by rw [IntKind.wrap_i64]; omega
        rw [hV] at HG
        have HA2 := Lib.hid (HA.out V hV)
        have HWZ := Lib.hid hwz
        have HOK := Lib.hid hok
        clear HA hV hO hOl hwz hok hin
        obtain ⟨Z, hZ⟩ : ∃ Z, z + (gbO i : Int) = Z := ⟨_, rfl⟩
        have HZ := Lib.hid hZ
        rw [hZ] at HG HWZ ⊢
        clear hZ
        obtain ⟨old, hold⟩ : ∃ old, (gbA xs z i)[i]? = some old := by rcases h4 with rfl | rfl | rfl | rfl <;> exact ⟨_, rfl⟩
        have c6 := BA.out.cell i
        rw [hold] at c6
        have z6 := BA.out.frozen i
        have BA' := Lib.hid (BA.out.set i (.int .u64 (V : Int)))
        have hne : q ≠ q6 := by have := HQ.out; omega
        have hq6 : w.heap.size ≤ q6 := by have := HQ.out; have := HW.out; omega
        have HNE := Lib.hid hne
        have HQ6 := Lib.hid hq6
        clear hold hne hq6
        rcases h4 with rfl | rfl | rfl | rfl
        all_goals
          simp only [gbW, Int.cast_ofNat_Int] at HG HWZ
          try simp only [Int.cast_ofNat_Int]
          try simp only [Int.natCast_zero]
          try simp only [Int.natCast_one]
          have hwz := HWZ.out
          go_wp2_with fail
          refine HG.out.mono ?_
          rintro e w3 ⟨rfl, hw3⟩
          rw [hw3]
          clear hw3
          go_wp2_with fail
          refine ⟨⟨_, ?_, rfl, rfl, fun _ => HOK.out, ?_, ?_, ?_⟩, ?_⟩
          · simp
          · rw [← HA2.out]; exact BA'
          · exact Lib.hid (BB.out.set_other (p := ⟨q6, _, none⟩) HNE.out _)
          · exact Lib.hid (Below.setCell HB.out (p := ⟨q6, _, none⟩) HQ6.out _)
          · simp [intOf]
      · obtain ⟨e1, e2, e3⟩ := gb_fail HX.out hlt hin hok
        unfold NgR at HG
        rw [e1] at HG
        have hE : GbR n xs z (.returned (.tuple #[.agg (scC 0 0 0 0), .int .i64 (gbC n z)])) := by unfold GbR; rw [e3]
        clear e1 e3 hin hok
        obtain ⟨V, hV⟩ : ∃ V, ngV xs (z + gbO i) (gbW i) = V := ⟨_, rfl⟩
        obtain ⟨C, hC⟩ : ∃ C, gbC n z = C := ⟨_, rfl⟩
        obtain ⟨Z, hZ⟩ : ∃ Z, z + (gbO i : Int) = Z := ⟨_, rfl⟩
        rw [hV, hC] at HG
        rw [hZ] at HG ⊢
        rw [hC] at e2 hE
        have HE := Lib.hid hE
        clear hV hC hZ hE
        have k0 := BB.out.cell 0
        have k1 := BB.out.cell 1
        have k2 := BB.out.cell 2
        have k3 := BB.out.cell 3
        have z0 := BB.out.frozen 0
        have z1 := BB.out.frozen 1
        have z2 := BB.out.frozen 2
        have z3 := BB.out.frozen 3
        rcases h4 with rfl | rfl | rfl | rfl
        all_goals
          simp only [gbW, Int.cast_ofNat_Int] at HG
          try simp only [Int.cast_ofNat_Int]
          try simp only [Int.natCast_zero]
          try simp only [Int.natCast_one]
          go_wp2_with fail
          refine HG.out.mono ?_
          rintro e w3 ⟨rfl, hw3⟩
          rw [hw3]
          clear hw3
          go_wp2_with fail
          refine bodyPost_ret (v := .tuple #[.agg #[.int .i64 0, .int .u64 0, .int .i64 0, .int .i64 0], .int .i64 C]) (by simp [results, Tryz.results49, go_sem, *]) rfl ?_
          exact ⟨HE.out, Below.setCell (Below.setCell (Below.setCell (Below.setCell HB.out HWq.out _) HWq.out _) HWq.out _) HWq.out _⟩
    · obtain rfl : i = 4 := by omega
      have hr := hin (by omega)
      obtain ⟨e1, e2⟩ := gb_end HX.out hr
      have hE : GbR n xs z (.returned (.tuple #[.agg (scC (gbF xs z 0) (gbF xs z 1) (gbF xs z 2) (gbF xs z 3)), .int .i64 0])) := by unfold GbR; rw [e1, e2]
      have f0 := gbF_lt HBY.out z 0
      have f1 := gbF_lt HBY.out z 1
      have f2 := gbF_lt HBY.out z 2
      have f3 := gbF_lt HBY.out z 3
      simp only [gbW] at f0 f1 f2 f3
      have bA := BA.out
      unfold gbA at bA
      rw [if_pos (by decide), if_pos (by decide), if_pos (by decide), if_pos (by decide)] at bA
      obtain ⟨v0, h0⟩ : ∃ v, gbF xs z 0 = v := ⟨_, rfl⟩
      obtain ⟨v1, h1⟩ : ∃ v, gbF xs z 1 = v := ⟨_, rfl⟩
      obtain ⟨v2, h2⟩ : ∃ v, gbF xs z 2 = v := ⟨_, rfl⟩
      obtain ⟨v3, h3⟩ : ∃ v, gbF xs z 3 = v := ⟨_, rfl⟩
      rw [h0, h1, h2, h3] at hE bA
      rw [h0] at f0
      rw [h1] at f1
      rw [h2] at f2
      rw [h3] at f3
      have HE := Lib.hid hE
      have c0 := bA.cell 0
      have c1 := bA.cell 1
      have c2 := bA.cell 2
      have c3 := bA.cell 3
      have g0 : IntKind.i64.wrap (v0 : Int) = (v0 : Int) := by rw [IntKind.wrap_i64]; omega
      have g2 : IntKind.i64.wrap (v2 : Int) = (v2 : Int) := by rw [IntKind.wrap_i64]; omega
      have g3 : IntKind.i64.wrap (v3 : Int) = (v3 : Int) := by rw [IntKind.wrap_i64]; omega
      have k0 := BB.out.cell 0
      have k1 := BB.out.cell 1
      have k2 := BB.out.cell 2
      have k3 := BB.out.cell 3
      have z0 := BB.out.frozen 0
      have z1 := BB.out.frozen 1
      have z2 := BB.out.frozen 2
      have z3 := BB.out.frozen 3
      obtain ⟨Z, hZ⟩ : ∃ Z, z + (gbO 4 : Int) = Z := ⟨_, rfl⟩
      rw [hZ]
      clear hE bA e1 e2 h0 h1 h2 h3 hZ hr hin
      go_wp2_with fail
      refine bodyPost_ret (v := .tuple #[.agg #[.int .i64 (v0 : Int), .int .u64 (v1 : Int), .int .i64 (v2 : Int), .int .i64 (v3 : Int)], .int .i64 0]) (by simp [results, Tryz.results49, go_sem, *]) rfl ?_
      exact ⟨HE.out, Below.setCell (Below.setCell (Below.setCell (Below.setCell HB.out HWq.out _) HWq.out _) HWq.out _) HWq.out _⟩
end Go.Proofs.YtcliejdiaohamaaGreat

set_option linter.unusedSimpArgs false
set_option linter.unusedVariables false
namespace Go.Proofs.YtcliejdiaohamaaGreat
open Go.RowKit Go.Cib
attribute [local go_sem] cell_set Later.cell Later.frozen Grw.cell Grw.frozen
set_option maxRecDepth 100000 in
set_option maxHeartbeats 8000000 in
theorem rsgb_any {w : World} {n c : Nat} {z : Int} {A : Option Addr} {S : Nat → Prop} {xs : List Nat} (R : RdL ByR 1 S w A n xs) (hnc : n ≤ c) (hn : n ≤ 4000) :
    Calls Tryz.prog 50 #[.slice A n c, .int .i64 z] w fun e w' => GbR n xs z e ∧ Below w.heap.size w w' := by
  have HX := Lib.hid R.1
  have HBY := Lib.hid (by_byt R)
  have HR := Lib.hid R
  have hb0 : Below w.heap.size w (w.alloc (.cells #[.int .i64 0, .int .u64 0, .int .i64 0, .int .i64 0] 24)) := (Below.refl _ _).alloc (Nat.le_refl _) _
  have bB := BoxAt.new w #[.int .i64 0, .int .u64 0, .int .i64 0, .int .i64 0] 24
  have hs0 := World.size_alloc w (.cells #[.int .i64 0, .int .u64 0, .int .i64 0, .int .i64 0] 24)
  obtain ⟨w1, hw1⟩ : ∃ w1, w.alloc (.cells #[.int .i64 0, .int .u64 0, .int .i64 0, .int .i64 0] 24) = w1 := ⟨_, rfl⟩
  rw [hw1] at hb0 bB hs0
  have hb1 : Below w.heap.size w (w1.alloc (.cells #[.int .u64 0, .int .u64 0, .int .u64 0, .int .u64 0] 22)) := hb0.alloc hb0.size _
  have bA := BoxAt.new w1 #[.int .u64 0, .int .u64 0, .int .u64 0, .int .u64 0] 22
  have bB1 := bB.below ((Below.refl w1.heap.size w1).alloc (Nat.le_refl _) (.cells #[.int .u64 0, .int .u64 0, .int .u64 0, .int .u64 0] 22))
  have hs1 := World.size_alloc w1 (.cells #[.int .u64 0, .int .u64 0, .int .u64 0, .int .u64 0] 22)
  obtain ⟨w2, hw2⟩ : ∃ w2, w1.alloc (.cells #[.int .u64 0, .int .u64 0, .int .u64 0, .int .u64 0] 22) = w2 := ⟨_, rfl⟩
  rw [hw2] at hb1 bA bB1 hs1
  have hb2 : Below w.heap.size w (w2.alloc (.cells #[.int .i64 2, .int .i64 8, .int .i64 2, .int .i64 4] 3)) := hb1.alloc hb1.size _
  have bC := BoxAt.new w2 #[.int .i64 2, .int .i64 8, .int .i64 2, .int .i64 4] 3
  have bA2 := bA.below ((Below.refl w2.heap.size w2).alloc (Nat.le_refl _) (.cells #[.int .i64 2, .int .i64 8, .int .i64 2, .int .i64 4] 3))
  have bB2 := bB1.below ((Below.refl w2.heap.size w2).alloc (Nat.le_refl _) (.cells #[.int .i64 2, .int .i64 8, .int .i64 2, .int .i64 4] 3))
  obtain ⟨w3, hw3⟩ : ∃ w3, w2.alloc (.cells #[.int .i64 2, .int .i64 8, .int .i64 2, .int .i64 4] 3) = w3 := ⟨_, rfl⟩
  rw [hw3] at hb2 bC bA2 bB2
  obtain ⟨q, hq⟩ : ∃ q, w.heap.size = q := ⟨_, rfl⟩
  obtain ⟨q6, hq6⟩ : ∃ q6, w1.heap.size = q6 := ⟨_, rfl⟩
  obtain ⟨q7, hq7⟩ : ∃ q7, w2.heap.size = q7 := ⟨_, rfl⟩
  have HQ := Lib.hid (show q6 = q + 1 ∧ q7 = q + 2 by omega)
  have HWq := Lib.hid (show w.heap.size ≤ q by omega)
  have HW := Lib.hid (show w.heap.size = q from hq)
  rw [hq] at bB2
  rw [hq6] at bA2
  rw [hq7] at bC
  have HB1 := Lib.hid hb2
  have BA := Lib.hid bA2
  have BB := Lib.hid bB2
  have BC := Lib.hid bC
  clear hb0 hb1 hb2 bA bB bB1 bA2 bB2 bC hs0 hs1 R
  go_enter Tryz.func50, Tryz.ntmps50
  go_wp2_with fail
  clear hq hq6 hq7 hw1 hw2 hw3
  go_loopw [1, 8] (fun vz vi wr => ∃ i : Nat, i ≤ 4 ∧ vi = .int .i64 i ∧ vz = .int .i64 (z + gbO i) ∧ (0 < i → 0 ≤ z ∧ z + gbO i ≤ n) ∧ Hid (BoxAt wr q6 (gbA xs z i)) ∧ Hid (BoxAt wr q #[.int .i64 0, .int .u64 0, .int .i64 0, .int .i64 0]) ∧ Hid (BoxAt wr q7 #[.int .i64 2, .int .i64 8, .int .i64 2, .int .i64 4]) ∧ Hid (Below w.heap.size w wr)) (fun _ vi _ => 4 - (intOf vi).toNat)
  case atStart => exact ⟨0, by omega, rfl, by simp [gbO], fun h => absurd h (by omega), BA, BB, BC, HB1⟩
  case round =>
    clear BA BB BC HB1
    obtain ⟨i, hi, rfl, rfl, hin, BA, BB, BC, HB⟩ := hrel
    by_cases hlt : i < 4
    · have p1 : (i : Int) < 4 := by omega
      have p0 : (0 : Int) ≤ (i : Int) := by omega
      have hk : 1 ≤ gbW i ∧ gbW i ≤ 8 := by
        have : i = 0 ∨ i = 1 ∨ i = 2 ∨ i = 3 := by omega
        rcases this with rfl | rfl | rfl | rfl <;> exact ⟨by decide, by decide⟩
      have HG := Lib.hid (rget_or (z := z + gbO i) (HR.out.below ByR.stable HB.out) hnc hn hk.1 hk.2)
      have c7 : wr.cell? ⟨q7, i, none⟩ = some (.int .i64 (gbW i : Int)) := by
        rw [BC.out.cell i]
        have : i = 0 ∨ i = 1 ∨ i = 2 ∨ i = 3 := by omega
        rcases this with rfl | rfl | rfl | rfl <;> rfl
      clear hk
      have h4 : i = 0 ∨ i = 1 ∨ i = 2 ∨ i = 3 := by omega
      by_cases hok : 0 ≤ z ∧ z + gbO (i + 1) ≤ n
      · obtain ⟨e1, e2⟩ := gb_step HX.out hlt hin hok
        unfold NgR at HG
        rw [e1, e2] at HG
        clear e1 e2
        have hO : (gbO i : Int) + gbW i = gbO (i + 1) := by rcases h4 with rfl | rfl | rfl | rfl <;> rfl
        have hOl : gbO i + gbW i ≤ 16 ∧ gbW i ≤ 8 := by rcases h4 with rfl | rfl | rfl | rfl <;> exact ⟨by decide, by decide⟩
        have HA := Lib.hid (show ∀ V, gbF xs z i = V → (gbA xs z i).setIfInBounds i (.int .u64 (V : Int)) = gbA xs z (i + 1) from fun V hV => by subst hV; rcases h4 with rfl | rfl | rfl | rfl <;> rfl)
        obtain ⟨V, hV⟩ : ∃ V, gbF xs z i = V := ⟨_, rfl⟩
        have hwz : IntKind.i64.wrap (z + (gbO i : Int) + (gbW i : Int)) = z + (gbO (i + 1) : Int) := by rw [IntKind.wrap_i64]; omega
        rw [hV] at HG
        have HA2 := Lib.hid (HA.out V hV)
        have HWZ := Lib.hid hwz
        have HOK := Lib.hid hok
        clear HA hV hO hOl hwz hok hin
        obtain ⟨Z, hZ⟩ : ∃ Z, z + (gbO i : Int) = Z := ⟨_, rfl⟩
        have HZ := Lib.hid hZ
        rw [hZ] at HG HWZ ⊢
        clear hZ
        obtain ⟨old, hold⟩ : ∃ old, (gbA xs z i)[i]? = some old := by rcases h4 with rfl | rfl | rfl | rfl <;> exact ⟨_, rfl⟩
        have c6 := BA.out.cell i
        rw [hold] at c6
        have z6 := BA.out.frozen i
        have BA' := Lib.hid (BA.out.set i (.int .u64 (V : Int)))
        have hne : q ≠ q6 := by have := HQ.out; omega
        have HNE7 := Lib.hid (show q7 ≠ q6 by have := HQ.out; omega)
        have hn67 : ¬ q6 = q7 := fun e => HNE7.out e.symm
        have hq6 : w.heap.size ≤ q6 := by have := HQ.out; have := HW.out; omega
        have HNE := Lib.hid hne
        have HQ6 := Lib.hid hq6
        clear hold hne hq6
        rcases h4 with rfl | rfl | rfl | rfl
        all_goals
          simp only [gbW, Int.cast_ofNat_Int] at HG HWZ c7
          try simp only [Int.cast_ofNat_Int]
          try simp only [Int.natCast_zero]
          try simp only [Int.natCast_one]
          have hwz := HWZ.out
          go_wp2_with fail
          refine HG.out.mono ?_
          rintro e w9 ⟨rfl, hw9⟩
          rw [hw9]
          clear hw9
          go_wp2_with fail
          refine ⟨⟨_, ?_, rfl, rfl, fun _ => HOK.out, ?_, ?_, ?_, ?_⟩, ?_⟩
          · simp
          · rw [← HA2.out]; exact BA'
          · exact Lib.hid (BB.out.set_other (p := ⟨q6, _, none⟩) HNE.out _)
          · exact Lib.hid (BC.out.set_other (p := ⟨q6, _, none⟩) HNE7.out _)
          · exact Lib.hid (Below.setCell HB.out (p := ⟨q6, _, none⟩) HQ6.out _)
          · simp [intOf]
      · obtain ⟨e1, e2, e3⟩ := gb_fail HX.out hlt hin hok
        unfold NgR at HG
        rw [e1] at HG
        have hE : GbR n xs z (.returned (.tuple #[.agg (scC 0 0 0 0), .int .i64 (gbC n z)])) := by unfold GbR; rw [e3]
        clear e1 e3 hin hok
        obtain ⟨V, hV⟩ : ∃ V, ngV xs (z + gbO i) (gbW i) = V := ⟨_, rfl⟩
        obtain ⟨C, hC⟩ : ∃ C, gbC n z = C := ⟨_, rfl⟩
        obtain ⟨Z, hZ⟩ : ∃ Z, z + (gbO i : Int) = Z := ⟨_, rfl⟩
        rw [hV, hC] at HG
        rw [hZ] at HG ⊢
        rw [hC] at e2 hE
        have HE := Lib.hid hE
        clear hV hC hZ hE
        have k0 := BB.out.cell 0
        have k1 := BB.out.cell 1
        have k2 := BB.out.cell 2
        have k3 := BB.out.cell 3
        have z0 := BB.out.frozen 0
        have z1 := BB.out.frozen 1
        have z2 := BB.out.frozen 2
        have z3 := BB.out.frozen 3
        rcases h4 with rfl | rfl | rfl | rfl
        all_goals
          simp only [gbW, Int.cast_ofNat_Int] at HG c7
          try simp only [Int.cast_ofNat_Int]
          try simp only [Int.natCast_zero]
          try simp only [Int.natCast_one]
          go_wp2_with fail
          refine HG.out.mono ?_
          rintro e w9 ⟨rfl, hw9⟩
          rw [hw9]
          clear hw9
          go_wp2_with fail
          refine bodyPost_ret (v := .tuple #[.agg #[.int .i64 0, .int .u64 0, .int .i64 0, .int .i64 0], .int .i64 C]) (by simp [results, Tryz.results50, go_sem, *]) rfl ?_
          exact ⟨HE.out, Below.setCell (Below.setCell (Below.setCell (Below.setCell HB.out HWq.out _) HWq.out _) HWq.out _) HWq.out _⟩
    · obtain rfl : i = 4 := by omega
      have hr := hin (by omega)
      obtain ⟨e1, e2⟩ := gb_end HX.out hr
      have hE : GbR n xs z (.returned (.tuple #[.agg (scC (gbF xs z 0) (gbF xs z 1) (gbF xs z 2) (gbF xs z 3)), .int .i64 0])) := by unfold GbR; rw [e1, e2]
      have f0 := gbF_lt HBY.out z 0
      have f1 := gbF_lt HBY.out z 1
      have f2 := gbF_lt HBY.out z 2
      have f3 := gbF_lt HBY.out z 3
      simp only [gbW] at f0 f1 f2 f3
      have bA := BA.out
      unfold gbA at bA
      rw [if_pos (by decide), if_pos (by decide), if_pos (by decide), if_pos (by decide)] at bA
      obtain ⟨v0, h0⟩ : ∃ v, gbF xs z 0 = v := ⟨_, rfl⟩
      obtain ⟨v1, h1⟩ : ∃ v, gbF xs z 1 = v := ⟨_, rfl⟩
      obtain ⟨v2, h2⟩ : ∃ v, gbF xs z 2 = v := ⟨_, rfl⟩
      obtain ⟨v3, h3⟩ : ∃ v, gbF xs z 3 = v := ⟨_, rfl⟩
      rw [h0, h1, h2, h3] at hE bA
      rw [h0] at f0
      rw [h1] at f1
      rw [h2] at f2
      rw [h3] at f3
      have HE := Lib.hid hE
      have c0 := bA.cell 0
      have c1 := bA.cell 1
      have c2 := bA.cell 2
      have c3 := bA.cell 3
      have g0 : IntKind.i64.wrap (v0 : Int) = (v0 : Int) := by rw [IntKind.wrap_i64]; omega
      have g2 : IntKind.i64.wrap (v2 : Int) = (v2 : Int) := by rw [IntKind.wrap_i64]; omega
      have g3 : IntKind.i64.wrap (v3 : Int) = (v3 : Int) := by rw [IntKind.wrap_i64]; omega
      have k0 := BB.out.cell 0
      have k1 := BB.out.cell 1
      have k2 := BB.out.cell 2
      have k3 := BB.out.cell 3
      have z0 := BB.out.frozen 0
      have z1 := BB.out.frozen 1
      have z2 := BB.out.frozen 2
      have z3 := BB.out.frozen 3
      obtain ⟨Z, hZ⟩ : ∃ Z, z + (gbO 4 : Int) = Z := ⟨_, rfl⟩
      rw [hZ]
      clear hE bA e1 e2 h0 h1 h2 h3 hZ hr hin
      go_wp2_with fail
      refine wp_region_L (S := fun w' => w'.cell? ⟨q6, 0, none⟩ = some (.int .u64 (v0 : Int)) ∧ w'.cell? ⟨q6, 1, none⟩ = some (.int .u64 (v1 : Int)) ∧ w'.cell? ⟨q6, 2, none⟩ = some (.int .u64 (v2 : Int)) ∧ w'.cell? ⟨q6, 3, none⟩ = some (.int .u64 (v3 : Int)) ∧ (w'.cell? ⟨q, 0, none⟩ = some (.int .i64 0) ∧ w'.cell? ⟨q, 1, none⟩ = some (.int .u64 0) ∧ w'.cell? ⟨q, 2, none⟩ = some (.int .i64 0) ∧ w'.cell? ⟨q, 3, none⟩ = some (.int .i64 0))) [16, 17] (by kernel_rfl) (by exact ⟨c0, c1, c2, c3, k0, k1, k2, k3⟩) (fun hHeld => ?_)
      refine wpAnyL_take (i := 0) (v := ?_) rfl (by kernel_rfl) (by kernel_rfl) (by kernel_rfl) (by kernel_rfl) (fun _ _ _ h => h) (Or.inl ⟨by first | kernel_rfl | rfl, ?_⟩) (by assumption) ?_
      rotate_left
      · (intro wq0 hSw; (try dsimp only at hSw); (try simp (maxSteps := 2000000) only [zz1, zz2, zz3]); go_simp); try with_reducible rfl
      try simp (maxSteps := 2000000) only [zz1, zz2, zz3, Act.put, zz4, zz5, zz6]
      refine wpAnyL_take (i := 1) (v := ?_) rfl (by kernel_rfl) (by kernel_rfl) (by kernel_rfl) (by kernel_rfl) (fun _ _ _ h => h) (Or.inl ⟨by first | kernel_rfl | rfl, ?_⟩) (by assumption) ?_
      rotate_left
      · (intro wq0 hSw; (try dsimp only at hSw); (try simp (maxSteps := 2000000) only [zz1, zz2, zz3]); go_simp); try with_reducible rfl
      try simp (maxSteps := 2000000) only [zz1, zz2, zz3, Act.put, zz4, zz5, zz6]
      refine wpAnyL_take (i := 2) (v := ?_) rfl (by kernel_rfl) (by kernel_rfl) (by kernel_rfl) (by kernel_rfl) (fun _ _ _ h => h) (Or.inl ⟨by first | kernel_rfl | rfl, ?_⟩) (by assumption) ?_
      rotate_left
      · (intro wq0 hSw; (try dsimp only at hSw); (try simp (maxSteps := 2000000) only [zz1, zz2, zz3]); go_simp); try with_reducible rfl
      try simp (maxSteps := 2000000) only [zz1, zz2, zz3, Act.put, zz4, zz5, zz6]
      refine wpAnyL_take (i := 3) (v := ?_) rfl (by kernel_rfl) (by kernel_rfl) (by kernel_rfl) (by kernel_rfl) (fun _ _ _ h => h) (Or.inl ⟨by first | kernel_rfl | rfl, ?_⟩) (by assumption) ?_
      rotate_left
      · (intro wq0 hSw; (try dsimp only at hSw); (try simp (maxSteps := 2000000) only [zz1, zz2, zz3]); go_simp); try with_reducible rfl
      try simp (maxSteps := 2000000) only [zz1, zz2, zz3, Act.put, zz4, zz5, zz6]
      refine wpAnyL_take (i := 4) (v := ?_) rfl (by kernel_rfl) (by kernel_rfl) (by kernel_rfl) (by kernel_rfl) (fun _ _ _ h => h) (Or.inl ⟨by first | kernel_rfl | rfl, ?_⟩) (by assumption) ?_
      rotate_left
      · (intro wq0 hSw; (try dsimp only at hSw); (try simp (maxSteps := 2000000) only [zz1, zz2, zz3]); go_simp); try with_reducible rfl
      try simp (maxSteps := 2000000) only [zz1, zz2, zz3, Act.put, zz4, zz5, zz6]
      refine wpAnyL_take (i := 5) (v := ?_) rfl (by kernel_rfl) (by kernel_rfl) (by kernel_rfl) (by kernel_rfl) (fun _ _ _ h => h) (Or.inl ⟨by first | kernel_rfl | rfl, ?_⟩) (by assumption) ?_
      rotate_left
      · (intro wq0 hSw; (try dsimp only at hSw); (try simp (maxSteps := 2000000) only [zz1, zz2, zz3]); go_simp); try with_reducible rfl
      try simp (maxSteps := 2000000) only [zz1, zz2, zz3, Act.put, zz4, zz5, zz6]
      refine wpAnyL_take (i := 6) (v := ?_) rfl (by kernel_rfl) (by kernel_rfl) (by kernel_rfl) (by kernel_rfl) (fun _ _ _ h => h) (Or.inl ⟨by first | kernel_rfl | rfl, ?_⟩) (by assumption) ?_
      rotate_left
      · (intro wq0 hSw; (try dsimp only at hSw); (try simp (maxSteps := 2000000) only [zz1, zz2, zz3]); go_simp); try with_reducible rfl
      try simp (maxSteps := 2000000) only [zz1, zz2, zz3, Act.put, zz4, zz5, zz6]
      refine wpAnyL_take (i := 7) (v := ?_) rfl (by kernel_rfl) (by kernel_rfl) (by kernel_rfl) (by kernel_rfl) (fun _ _ _ h => h) (Or.inl ⟨by first | kernel_rfl | rfl, ?_⟩) (by assumption) ?_
      rotate_left
      · (intro wq0 hSw; (try dsimp only at hSw); (try simp (maxSteps := 2000000) only [zz1, zz2, zz3]); go_simp); try with_reducible rfl
      try simp (maxSteps := 2000000) only [zz1, zz2, zz3, Act.put, zz4, zz5, zz6]
      refine wpAnyL_take (i := 8) (v := ?_) rfl (by kernel_rfl) (by kernel_rfl) (by kernel_rfl) (by kernel_rfl) (fun _ _ _ h => h) (Or.inl ⟨by first | kernel_rfl | rfl, ?_⟩) (by assumption) ?_
      rotate_left
      · (intro wq0 hSw; (try dsimp only at hSw); (try simp (maxSteps := 2000000) only [zz1, zz2, zz3]); go_simp); try with_reducible rfl
      try simp (maxSteps := 2000000) only [zz1, zz2, zz3, Act.put, zz4, zz5, zz6]
      refine wpAnyL_take (i := 9) (v := ?_) rfl (by kernel_rfl) (by kernel_rfl) (by kernel_rfl) (by kernel_rfl) (fun _ _ _ h => h) (Or.inl ⟨by first | kernel_rfl | rfl, ?_⟩) (by assumption) ?_
      rotate_left
      · (intro wq0 hSw; (try dsimp only at hSw); (try simp (maxSteps := 2000000) only [zz1, zz2, zz3]); go_simp); try with_reducible rfl
      try simp (maxSteps := 2000000) only [zz1, zz2, zz3, Act.put, zz4, zz5, zz6]
      refine wpAnyL_take (i := 10) (v := ?_) rfl (by kernel_rfl) (by kernel_rfl) (by kernel_rfl) (by kernel_rfl) (fun _ _ _ h => h) (Or.inl ⟨by first | kernel_rfl | rfl, ?_⟩) (by assumption) ?_
      rotate_left
      · (intro wq0 hSw; (try dsimp only at hSw); (try simp (maxSteps := 2000000) only [zz1, zz2, zz3]); go_simp); try with_reducible rfl
      try simp (maxSteps := 2000000) only [zz1, zz2, zz3, Act.put, zz4, zz5, zz6]
      refine wpAnyL_take (i := 11) (v := ?_) rfl (by kernel_rfl) (by kernel_rfl) (by kernel_rfl) (by kernel_rfl) (fun _ _ _ h => h) (Or.inl ⟨by first | kernel_rfl | rfl, ?_⟩) (by assumption) ?_
      rotate_left
      · (intro wq0 hSw; (try dsimp only at hSw); (try simp (maxSteps := 2000000) only [zz1, zz2, zz3]); go_simp); try with_reducible rfl
      try simp (maxSteps := 2000000) only [zz1, zz2, zz3, Act.put, zz4, zz5, zz6]
      refine wpAnyL_take (i := 12) (v := ?_) rfl (by kernel_rfl) (by kernel_rfl) (by kernel_rfl) (by kernel_rfl) (fun _ _ _ h => h) (Or.inl ⟨by first | kernel_rfl | rfl, ?_⟩) (by assumption) ?_
      rotate_left
      · (intro wq0 hSw; (try dsimp only at hSw); (try simp (maxSteps := 2000000) only [zz1, zz2, zz3]); go_simp); try with_reducible rfl
      try simp (maxSteps := 2000000) only [zz1, zz2, zz3, Act.put, zz4, zz5, zz6]
      refine wpAnyL_take (i := 13) (v := ?_) rfl (by kernel_rfl) (by kernel_rfl) (by kernel_rfl) (by kernel_rfl) (fun _ _ _ h => h) (Or.inl ⟨by first | kernel_rfl | rfl, ?_⟩) (by assumption) ?_
      rotate_left
      · (intro wq0 hSw; (try dsimp only at hSw); (try simp (maxSteps := 2000000) only [zz1, zz2, zz3]); go_simp); try with_reducible rfl
      try simp (maxSteps := 2000000) only [zz1, zz2, zz3, Act.put, zz4, zz5, zz6]
      refine wpAnyL_take (i := 14) (v := ?_) rfl (by kernel_rfl) (by kernel_rfl) (by kernel_rfl) (by kernel_rfl) (fun _ _ _ h => h) (Or.inl ⟨by first | kernel_rfl | rfl, ?_⟩) (by assumption) ?_
      rotate_left
      · (intro wq0 hSw; (try dsimp only at hSw); (try simp (maxSteps := 2000000) only [zz1, zz2, zz3]); go_simp); try with_reducible rfl
      try simp (maxSteps := 2000000) only [zz1, zz2, zz3, Act.put, zz4, zz5, zz6]
      refine wpAnyL_take (i := 15) (v := ?_) rfl (by kernel_rfl) (by kernel_rfl) (by kernel_rfl) (by kernel_rfl) (fun _ _ _ h => h) (Or.inl ⟨by first | kernel_rfl | rfl, ?_⟩) (by assumption) ?_
      rotate_left
      · (intro wq0 hSw; (try dsimp only at hSw); (try simp (maxSteps := 2000000) only [zz1, zz2, zz3]); go_simp); try with_reducible rfl
      try simp (maxSteps := 2000000) only [zz1, zz2, zz3, Act.put, zz4, zz5, zz6]
      refine wpAnyL_ready (rs := [16]) (by kernel_rfl) (by simp) ?_
      refine AllReadyL.last rfl (by decide) (fun K hK => ?_) AllReadyL.nil
      try simp (maxSteps := 2000000) only [zz1, zz2, zz3]
      go_simp
      refine hK.out _ _ ?_
      clear hK K
      try simp (maxSteps := 2000000) only [zz1, zz2, zz3, Act.put, zz4, zz5, zz6]
      refine wpAnyL_ready (rs := [17]) (by kernel_rfl) (by simp) ?_
      refine AllReadyL.last rfl (by decide) (fun K hK => ?_) AllReadyL.nil
      try simp (maxSteps := 2000000) only [zz1, zz2, zz3]
      go_simp
      refine hK.out _ _ ?_
      clear hK K
      try simp (maxSteps := 2000000) only [zz1, zz2, zz3, Act.put, zz4, zz5, zz6]
      refine wpAnyL_done (by kernel_rfl) ?_ _
      clear hHeld
      go_wp2_with fail
      refine bodyPost_ret (v := .tuple #[.agg #[.int .i64 (v0 : Int), .int .u64 (v1 : Int), .int .i64 (v2 : Int), .int .i64 (v3 : Int)], .int .i64 0]) (by simp [results, Tryz.results50, go_sem, *]) rfl ?_
      exact ⟨HE.out, (Below.setCell (Below.setCell (Below.setCell (Below.setCell HB.out HWq.out _) HWq.out _) HWq.out _) HWq.out _).drew⟩
end Go.Proofs.YtcliejdiaohamaaGreat

set_option linter.unusedSimpArgs false
set_option linter.unusedVariables false
namespace Go.Proofs.YtcliejdiaohamaaGreat
open Go.RowKit Go.Cib
attribute [local go_sem] cell_set Later.cell Later.frozen Grw.cell Grw.frozen
theorem wpAnyH_nar {P : Program} {md : Region.Mode} {ops : Array Oper} {Q : Exit → Act → World → Prop} {S S' : World → Prop} (hS : ∀ w, S' w → S w) : ∀ (fuel : Nat) (listed : Array Bool) (a : Act) (w : World), wpAnyH P md ops Q S' fuel listed a w → wpAnyH P md ops Q S fuel listed a w
  | 0, _, _, _, h => h
  | fuel + 1, _, _, _, h => ⟨h.1, fun i hi => wpOp_mono (fun a' w' h' => ⟨hS _ h'.1, wpAnyH_nar hS fuel _ a' w' h'.2⟩) (h.2 i hi)⟩
end Go.Proofs.YtcliejdiaohamaaGreat

set_option linter.unusedSimpArgs false
set_option linter.unusedVariables false
namespace Go.Proofs.YtcliejdiaohamaaGreat
open Go.RowKit Go.Cib
attribute [local go_sem] cell_set Later.cell Later.frozen Grw.cell Grw.frozen
theorem gbV_ex (xs : List Nat) (z : Int) : ∃ a b c d : Int, gbV xs z = #[.int .i64 a, .int .u64 b, .int .i64 c, .int .i64 d] := by
  unfold gbV scC
  split
  · exact ⟨_, _, _, _, rfl⟩
  · exact ⟨_, _, _, _, rfl⟩
def fitB (p ct sz : Int) : Bool := decide (0 ≤ p ∧ p < 65536 ∧ 0 ≤ ct ∧ ct < 65536 ∧ 0 ≤ sz ∧ sz < 4294967296)
theorem gb_nm {xs : List Nat} {n : Nat} (hl : xs.length = n) (p : Int) (g : Nat) (ct sz : Int) (hg : g < 2 ^ 64) :
    gbC (xs ++ nmB p g ct sz).length (n : Int) = 0 ∧ gbV (xs ++ nmB p g ct sz) (n : Int) = #[.int .i64 (p % 65536), .int .u64 (g : Int), .int .i64 (ct % 65536), .int .i64 (sz % 4294967296)] := by
  have hL : (xs ++ nmB p g ct sz).length = n + 16 := by rw [List.length_append, nmB_len, hl]
  obtain ⟨e1, e2⟩ := gb_end (n := n + 16) (z := (n : Int)) hL (by omega)
  refine ⟨by rw [hL]; exact e1, ?_⟩
  rw [e2]
  have hd : ∀ k, (xs ++ nmB p g ct sz).drop (n + k) = (nmB p g ct sz).drop k := fun k => by
    rw [← hl, List.drop_append]
    rw [List.drop_of_length_le (by omega), List.nil_append]
    congr 1; omega
  have f : ∀ i, gbF (xs ++ nmB p g ct sz) (n : Int) i = unN (((nmB p g ct sz).drop (gbO i)).take (gbW i)) := fun i => by
    unfold gbF
    rw [Int.toNat_natCast, hd]
  have u : ∀ x : Int, ((u64N x : Nat) : Int) = x % 18446744073709551616 := fun x => by
    unfold u64N; rw [Int.toNat_of_nonneg (Int.emod_nonneg _ (by omega))]
  rw [f 0, f 1, f 2, f 3]
  unfold scC
  have a0 : ((nmB p g ct sz).drop (gbO 0)).take (gbW 0) = leN 2 (u64N p) := by
    show ((nmB p g ct sz).drop 0).take 2 = _
    unfold nmB
    rw [List.drop_zero, List.append_assoc, List.append_assoc, List.take_append_of_le_length (by rw [leN_len]; omega), List.take_of_length_le (by rw [leN_len]; omega)]
  have a1 : ((nmB p g ct sz).drop (gbO 1)).take (gbW 1) = leN 8 g := by
    show ((nmB p g ct sz).drop 2).take 8 = _
    unfold nmB
    rw [List.append_assoc, List.append_assoc]
    exact mid_of rfl (leN_len _ _) (leN_len _ _)
  have a2 : ((nmB p g ct sz).drop (gbO 2)).take (gbW 2) = leN 2 (u64N ct) := by
    show ((nmB p g ct sz).drop 10).take 2 = _
    unfold nmB
    exact mid_of (A := leN 2 (u64N p) ++ leN 8 g) (List.append_assoc _ _ _) (by rw [List.length_append, leN_len, leN_len]) (leN_len _ _)
  have a3 : ((nmB p g ct sz).drop (gbO 3)).take (gbW 3) = leN 4 (u64N sz) := by
    show ((nmB p g ct sz).drop 12).take 4 = _
    unfold nmB
    refine mid_of (A := leN 2 (u64N p) ++ leN 8 g ++ leN 2 (u64N ct)) (C := []) (by simp) (by rw [List.length_append, List.length_append, leN_len, leN_len, leN_len]) (leN_len _ _)
  rw [a0, a1, a2, a3, unN_leN, unN_leN, unN_leN, unN_leN, Nat.mod_eq_of_lt (show g < 2 ^ (8 * 8) from hg)]
  have e : ∀ x : Int, ((u64N x % 2 ^ (8 * 2) : Nat) : Int) = x % 65536 := fun x => by
    have := u x
    show ((u64N x % 65536 : Nat) : Int) = x % 65536
    omega
  have e4 : ((u64N sz % 2 ^ (8 * 4) : Nat) : Int) = sz % 4294967296 := by
    have := u sz
    show ((u64N sz % 4294967296 : Nat) : Int) = sz % 4294967296
    omega
  rw [e, e, e4]
attribute [local go_sem ↓] run_min_b run_max_b2
set_option maxRecDepth 100000 in
set_option maxHeartbeats 64000000 in
theorem scby_any {w : World} {p ct sz : Int} {g : Nat} {z : Int} {A1 : Option Addr} {n1 c1 : Nat} {xs : List Nat} (hg : Hid (g < 2 ^ 64)) (R1 : Hid (RdL ByR 1 (fun _ => True) w A1 n1 xs)) (hc1 : n1 ≤ c1) :
    Calls Tryz.prog 9 #[.agg (scC p (g : Int) ct sz), .slice A1 n1 c1, .int .i64 z] w fun e w' => e = .returned (.bool true) ∧ Below w.heap.size w w' := by
  have hb0 : Below w.heap.size w (w.alloc (.cells (scC p (g : Int) ct sz) 24)) := (Below.refl _ _).alloc (Nat.le_refl _) _
  have bB := BoxAt.new w (scC p (g : Int) ct sz) 24
  obtain ⟨wA, hwA⟩ : ∃ wA, w.alloc (.cells (scC p (g : Int) ct sz) 24) = wA := ⟨_, rfl⟩
  obtain ⟨q, hq⟩ : ∃ q, w.heap.size = q := ⟨_, rfl⟩
  rw [hwA] at hb0 bB
  rw [hq] at bB
  have HB0 := Lib.hid hb0
  have BB := Lib.hid bB
  have HR1 := Lib.hid (R1.out.below ByR.stable hb0)
  have c0 := bB.cell 0
  have c2 := bB.cell 1
  have c3 := bB.cell 2
  have c4 := bB.cell 3
  clear hb0 bB R1
  have p1 : (0 : Int) ≤ (n1 : Int) := Int.natCast_nonneg _
  unfold scC at hwA c0 c2 c3 c4 ⊢
  go_enter Tryz.func9, Tryz.ntmps9
  by_cases g0 : (n1 : Int) > 2000
  · have HR1' := HR1
    go_wp2_with fail
    refine rolls_any.mono ?_
    rintro e wz ⟨rfl, hbz⟩
    go_wp2_with fail
    go_ret
    exact ⟨rfl, HB0.out.trans (hbz.mono HB0.out.size)⟩
  have hp := spb_any (w := wA) (c := c1) (p := p) (ct := ct) (sz := sz) HR1.out (by omega) hg
  unfold scC at hp
  go_wp2_with fail
  refine hp.mono ?_
  clear hp hwA hq c0 c2 c3 c4
  rintro e w2 ⟨A2, d2, rfl, hd2, hr2, hb2⟩
  have HR2 := Lib.hid hr2
  have HB2 := Lib.hid (HB0.out.trans (hb2.mono HB0.out.size))
  have BB2 := Lib.hid (BB.out.below hb2)
  have HR12 := Lib.hid (HR1.out.below ByR.stable hb2)
  have HD2 := Lib.hid hd2
  clear hr2 hb2 hd2 HR1 BB HB0
  have hgb := sgb_any (w := w2) (c := c1) (z := z) HR12.out hc1 (by omega)
  unfold GbR at hgb
  obtain ⟨a1, a2, a3, a4, hv⟩ := gbV_ex xs z
  obtain ⟨C, hC⟩ : ∃ C, gbC n1 z = C := ⟨_, rfl⟩
  rw [hv, hC] at hgb
  go_wp2_with fail
  refine hgb.mono ?_
  clear hgb
  rintro e w3 ⟨rfl, hb3⟩
  have bX := BoxAt.new w3 #[.int .i64 a1, .int .u64 a2, .int .i64 a3, .int .i64 a4] 24
  have hb4 : Below w2.heap.size w2 (w3.alloc (.cells #[.int .i64 a1, .int .u64 a2, .int .i64 a3, .int .i64 a4] 24)) := hb3.alloc hb3.size _
  obtain ⟨w4, hw4⟩ : ∃ w4, w3.alloc (.cells #[.int .i64 a1, .int .u64 a2, .int .i64 a3, .int .i64 a4] 24) = w4 := ⟨_, rfl⟩
  obtain ⟨q8, hq8⟩ : ∃ q8, w3.heap.size = q8 := ⟨_, rfl⟩
  rw [hw4] at bX hb4
  rw [hq8] at bX
  have BX := Lib.hid bX
  have HB4 := Lib.hid hb4
  have hrb := rsgb_any (w := w4) (c := c1) (z := z) (HR12.out.below ByR.stable hb4) hc1 (by omega)
  unfold GbR at hrb
  rw [hv, hC] at hrb
  clear hb3 bX hb4 hC hv
  go_wp2_with fail
  refine hrb.mono ?_
  clear hrb hw4 hq8
  rintro e w5 ⟨rfl, hb5⟩
  have bY := BoxAt.new w5 #[.int .i64 a1, .int .u64 a2, .int .i64 a3, .int .i64 a4] 24
  have hb6 : Below w4.heap.size w4 (w5.alloc (.cells #[.int .i64 a1, .int .u64 a2, .int .i64 a3, .int .i64 a4] 24)) := hb5.alloc hb5.size _
  obtain ⟨w6, hw6⟩ : ∃ w6, w5.alloc (.cells #[.int .i64 a1, .int .u64 a2, .int .i64 a3, .int .i64 a4] 24) = w6 := ⟨_, rfl⟩
  obtain ⟨q10, hq10⟩ : ∃ q10, w5.heap.size = q10 := ⟨_, rfl⟩
  rw [hw6] at bY hb6
  rw [hq10] at bY
  have hb26 : Below w2.heap.size w2 w6 := HB4.out.trans (hb6.mono HB4.out.size)
  have BY := Lib.hid bY
  have BX6 := Lib.hid (BX.out.below hb6)
  have BB6 := Lib.hid (BB2.out.below hb26)
  have HB6 := Lib.hid (HB2.out.trans (hb26.mono HB2.out.size))
  have HR26 := Lib.hid (HR2.out.below ByR.stable hb26)
  have HR16 := Lib.hid (HR12.out.below ByR.stable hb26)
  clear hb5 bY hb6 hb26 BX BB2 HB2 HR2 HR12 HB4
  obtain ⟨T, hT⟩ : ∃ T, textB (xs ++ nmB p g ct sz) = T := ⟨_, rfl⟩
  have HT := Lib.hid hT
  have HSF : Hid (∀ w', Below w6.heap.size w6 w' → (convert 80 9 (.slice A2 (n1 + 16) d2)).run Tryz.prog w' = .ok (.string T) w' ∧ (w'.cell? ⟨q, 0, none⟩ = some (.int .i64 p) ∧ w'.cell? ⟨q, 1, none⟩ = some (.int .u64 (g : Int)) ∧ w'.cell? ⟨q, 2, none⟩ = some (.int .i64 ct) ∧ w'.cell? ⟨q, 3, none⟩ = some (.int .i64 sz)) ∧ (w'.cell? ⟨q8, 0, none⟩ = some (.int .i64 a1) ∧ w'.cell? ⟨q8, 1, none⟩ = some (.int .u64 a2) ∧ w'.cell? ⟨q8, 2, none⟩ = some (.int .i64 a3) ∧ w'.cell? ⟨q8, 3, none⟩ = some (.int .i64 a4)) ∧ (w'.cell? ⟨q10, 0, none⟩ = some (.int .i64 a1) ∧ w'.cell? ⟨q10, 1, none⟩ = some (.int .u64 a2) ∧ w'.cell? ⟨q10, 2, none⟩ = some (.int .i64 a3) ∧ w'.cell? ⟨q10, 3, none⟩ = some (.int .i64 a4))) := Lib.hid fun w' hb => by
    rw [← hT]
    exact ⟨text_run (HR26.out.below ByR.stable hb), ⟨(BB6.out.below hb).cell 0, (BB6.out.below hb).cell 1, (BB6.out.below hb).cell 2, (BB6.out.below hb).cell 3⟩, ⟨(BX6.out.below hb).cell 0, (BX6.out.below hb).cell 1, (BX6.out.below hb).cell 2, (BX6.out.below hb).cell 3⟩, ⟨(BY.out.below hb).cell 0, (BY.out.below hb).cell 1, (BY.out.below hb).cell 2, (BY.out.below hb).cell 3⟩⟩
  have hd6 : Below w6.heap.size w6 w6.drew := (Below.refl _ _).drew
  clear hT
  go_wp2_with fail
  clear hw6 hq10
  refine wp_region_held_drew (S := fun w' => (convert 80 9 (.slice A2 (n1 + 16) d2)).run Tryz.prog w' = .ok (.string T) w' ∧ (w'.cell? ⟨q, 0, none⟩ = some (.int .i64 p) ∧ w'.cell? ⟨q, 1, none⟩ = some (.int .u64 (g : Int)) ∧ w'.cell? ⟨q, 2, none⟩ = some (.int .i64 ct) ∧ w'.cell? ⟨q, 3, none⟩ = some (.int .i64 sz)) ∧ (w'.cell? ⟨q8, 0, none⟩ = some (.int .i64 a1) ∧ w'.cell? ⟨q8, 1, none⟩ = some (.int .u64 a2) ∧ w'.cell? ⟨q8, 2, none⟩ = some (.int .i64 a3) ∧ w'.cell? ⟨q8, 3, none⟩ = some (.int .i64 a4)) ∧ (w'.cell? ⟨q10, 0, none⟩ = some (.int .i64 a1) ∧ w'.cell? ⟨q10, 1, none⟩ = some (.int .u64 a2) ∧ w'.cell? ⟨q10, 2, none⟩ = some (.int .i64 a3) ∧ w'.cell? ⟨q10, 3, none⟩ = some (.int .i64 a4))) (by kernel_rfl) (by first | exact HSF.out _ hd6 | exact HSF.out _ hb7) (fun hHeld => ?_)
  refine wpAnyH_take (i := 0) (v := ?_) rfl (by kernel_rfl) (by kernel_rfl) (by kernel_rfl) (fun _ _ _ h => h) (Or.inl ⟨by first | kernel_rfl | rfl, ?_⟩) (by assumption) ?_
  rotate_left
  · (intro wq hSw; (try dsimp only at hSw); (try simp (maxSteps := 2000000) only [zz1, zz2, zz3]); go_simp); try with_reducible rfl
  try simp (maxSteps := 2000000) only [zz1, zz2, zz3, Act.put, zz4, zz5, zz6]
  refine wpAnyH_take (i := 1) (v := ?_) rfl (by kernel_rfl) (by kernel_rfl) (by kernel_rfl) (fun _ _ _ h => h) (Or.inl ⟨by first | kernel_rfl | rfl, ?_⟩) (by assumption) ?_
  rotate_left
  · (intro wq hSw; (try dsimp only at hSw); (try simp (maxSteps := 2000000) only [zz1, zz2, zz3]); go_simp); try with_reducible rfl
  try simp (maxSteps := 2000000) only [zz1, zz2, zz3, Act.put, zz4, zz5, zz6]
  refine wpAnyH_take (i := 2) (v := ?_) rfl (by kernel_rfl) (by kernel_rfl) (by kernel_rfl) (fun _ _ _ h => h) (Or.inl ⟨by first | kernel_rfl | rfl, ?_⟩) (by assumption) ?_
  rotate_left
  · (intro wq hSw; (try dsimp only at hSw); (try simp (maxSteps := 2000000) only [zz1, zz2, zz3]); go_simp); try with_reducible rfl
  try simp (maxSteps := 2000000) only [zz1, zz2, zz3, Act.put, zz4, zz5, zz6]
  refine wpAnyH_take (i := 3) (v := ?_) rfl (by kernel_rfl) (by kernel_rfl) (by kernel_rfl) (fun _ _ _ h => h) (Or.inl ⟨by first | kernel_rfl | rfl, ?_⟩) (by assumption) ?_
  rotate_left
  · (intro wq hSw; (try dsimp only at hSw); (try simp (maxSteps := 2000000) only [zz1, zz2, zz3]); go_simp); try with_reducible rfl
  try simp (maxSteps := 2000000) only [zz1, zz2, zz3, Act.put, zz4, zz5, zz6]
  refine wpAnyH_ready (rs := [4]) (by kernel_rfl) (by simp) ?_
  refine AllReadyH.cons rfl (fun K hK => ?_) AllReadyH.nil
  try simp (maxSteps := 2000000) only [zz1, zz2, zz3]
  go_simp
  go_at_call 51
  have hpp := rspb_any (w := w6.drew) (c := c1) (p := p) (ct := ct) (sz := sz) (HR16.out.below ByR.stable hd6) (by omega) hg
  unfold scC at hpp
  refine hpp.mono ?_
  clear hpp
  rintro e w7 ⟨A7, d7, rfl, hd7, hr7, hb⟩
  have hb7 : Below w6.heap.size w6 w7 := hd6.trans (hb.mono hd6.size)
  have hcv : (convert 80 9 (.slice A7 (n1 + 16) d7)).run Tryz.prog w7 = .ok (.string T) w7 := by
    rw [← HT.out]
    exact text_run hr7
  have hs7 := And.intro hcv (HSF.out _ hb7)
  have HB7 := Lib.hid hb7
  have HB7' := Lib.hid (HB6.out.trans (hb7.mono HB6.out.size))
  clear hb hr7 hcv
  try (go_wp2_with fail)
  refine hK.out _ _ (by first | exact HSF.out _ hd6 | exact HSF.out _ hb7) (fun hHeld => ?_)
  clear hK K
  try simp (maxSteps := 2000000) only [zz1, zz2, zz3, Act.put, zz4, zz5, zz6]
  refine wpAnyH_nar (S' := fun w' => (convert 80 9 (.slice A7 (n1 + 16) d7)).run Tryz.prog w' = .ok (.string T) w' ∧ (convert 80 9 (.slice A2 (n1 + 16) d2)).run Tryz.prog w' = .ok (.string T) w' ∧ (w'.cell? ⟨q, 0, none⟩ = some (.int .i64 p) ∧ w'.cell? ⟨q, 1, none⟩ = some (.int .u64 (g : Int)) ∧ w'.cell? ⟨q, 2, none⟩ = some (.int .i64 ct) ∧ w'.cell? ⟨q, 3, none⟩ = some (.int .i64 sz)) ∧ (w'.cell? ⟨q8, 0, none⟩ = some (.int .i64 a1) ∧ w'.cell? ⟨q8, 1, none⟩ = some (.int .u64 a2) ∧ w'.cell? ⟨q8, 2, none⟩ = some (.int .i64 a3) ∧ w'.cell? ⟨q8, 3, none⟩ = some (.int .i64 a4)) ∧ (w'.cell? ⟨q10, 0, none⟩ = some (.int .i64 a1) ∧ w'.cell? ⟨q10, 1, none⟩ = some (.int .u64 a2) ∧ w'.cell? ⟨q10, 2, none⟩ = some (.int .i64 a3) ∧ w'.cell? ⟨q10, 3, none⟩ = some (.int .i64 a4))) (fun w' h => h.2) _ _ _ _ ?_
  refine wpAnyH_take (i := 5) (v := ?_) rfl (by kernel_rfl) (by kernel_rfl) (by kernel_rfl) (fun _ _ _ h => h) (Or.inl ⟨by first | kernel_rfl | rfl, ?_⟩) (by assumption) ?_
  rotate_left
  · (intro wq hSw; (try dsimp only at hSw); (try simp (maxSteps := 2000000) only [zz1, zz2, zz3]); go_simp); try with_reducible rfl
  try simp (maxSteps := 2000000) only [zz1, zz2, zz3, Act.put, zz4, zz5, zz6]
  refine wpAnyH_take (i := 6) (v := ?_) rfl (by kernel_rfl) (by kernel_rfl) (by kernel_rfl) (fun _ _ _ h => h) (Or.inl ⟨by first | kernel_rfl | rfl, ?_⟩) (by assumption) ?_
  rotate_left
  · (intro wq hSw; (try dsimp only at hSw); (try simp (maxSteps := 2000000) only [zz1, zz2, zz3]); go_simp); try with_reducible rfl
  try simp (maxSteps := 2000000) only [zz1, zz2, zz3, Act.put, zz4, zz5, zz6]
  refine wpAnyH_take (i := 7) (v := ?_) rfl (by kernel_rfl) (by kernel_rfl) (by kernel_rfl) (fun _ _ _ h => h) (Or.inl ⟨by first | kernel_rfl | rfl, ?_⟩) (by assumption) ?_
  rotate_left
  · (intro wq hSw; (try dsimp only at hSw); (try simp (maxSteps := 2000000) only [zz1, zz2, zz3]); go_simp); try with_reducible rfl
  try simp (maxSteps := 2000000) only [zz1, zz2, zz3, Act.put, zz4, zz5, zz6]
  refine wpAnyH_take (i := 8) (v := ?_) rfl (by kernel_rfl) (by kernel_rfl) (by kernel_rfl) (fun _ _ _ h => h) (Or.inl ⟨by first | kernel_rfl | rfl, ?_⟩) (by assumption) ?_
  rotate_left
  · (intro wq hSw; (try dsimp only at hSw); (try simp (maxSteps := 2000000) only [zz1, zz2, zz3]); go_simp); try with_reducible rfl
  try simp (maxSteps := 2000000) only [zz1, zz2, zz3, Act.put, zz4, zz5, zz6]
  refine wpAnyH_take (i := 9) (v := ?_) rfl (by kernel_rfl) (by kernel_rfl) (by kernel_rfl) (fun _ _ _ h => h) (Or.inl ⟨by first | kernel_rfl | rfl, ?_⟩) (by assumption) ?_
  rotate_left
  · (intro wq hSw; (try dsimp only at hSw); (try simp (maxSteps := 2000000) only [zz1, zz2, zz3]); go_simp); try with_reducible rfl
  try simp (maxSteps := 2000000) only [zz1, zz2, zz3, Act.put, zz4, zz5, zz6]
  refine wpAnyH_take (i := 10) (v := ?_) rfl (by kernel_rfl) (by kernel_rfl) (by kernel_rfl) (fun _ _ _ h => h) (Or.inl ⟨by first | kernel_rfl | rfl, ?_⟩) (by assumption) ?_
  rotate_left
  · (intro wq hSw; (try dsimp only at hSw); (try simp (maxSteps := 2000000) only [zz1, zz2, zz3]); go_simp); try with_reducible rfl
  try simp (maxSteps := 2000000) only [zz1, zz2, zz3, Act.put, zz4, zz5, zz6]
  refine wpAnyH_take (i := 11) (v := ?_) rfl (by kernel_rfl) (by kernel_rfl) (by kernel_rfl) (fun _ _ _ h => h) (Or.inl ⟨by first | kernel_rfl | rfl, ?_⟩) (by assumption) ?_
  rotate_left
  · (intro wq hSw; (try dsimp only at hSw); (try simp (maxSteps := 2000000) only [zz1, zz2, zz3]); go_simp); try with_reducible rfl
  try simp (maxSteps := 2000000) only [zz1, zz2, zz3, Act.put, zz4, zz5, zz6]
  refine wpAnyH_take (i := 12) (v := ?_) rfl (by kernel_rfl) (by kernel_rfl) (by kernel_rfl) (fun _ _ _ h => h) (Or.inl ⟨by first | kernel_rfl | rfl, ?_⟩) (by assumption) ?_
  rotate_left
  · (intro wq hSw; (try dsimp only at hSw); (try simp (maxSteps := 2000000) only [zz1, zz2, zz3]); go_simp); try with_reducible rfl
  try simp (maxSteps := 2000000) only [zz1, zz2, zz3, Act.put, zz4, zz5, zz6]
  refine wpAnyH_take (i := 13) (v := ?_) rfl (by kernel_rfl) (by kernel_rfl) (by kernel_rfl) (fun _ _ _ h => h) (Or.inl ⟨by first | kernel_rfl | rfl, ?_⟩) (by assumption) ?_
  rotate_left
  · (intro wq hSw; (try dsimp only at hSw); (try simp (maxSteps := 2000000) only [zz1, zz2, zz3]); go_simp); try with_reducible rfl
  try simp (maxSteps := 2000000) only [zz1, zz2, zz3, Act.put, zz4, zz5, zz6]
  refine wpAnyH_take (i := 14) (v := ?_) rfl (by kernel_rfl) (by kernel_rfl) (by kernel_rfl) (fun _ _ _ h => h) (Or.inl ⟨by first | kernel_rfl | rfl, ?_⟩) (by assumption) ?_
  rotate_left
  · (intro wq hSw; (try dsimp only at hSw); (try simp (maxSteps := 2000000) only [zz1, zz2, zz3]); go_simp); try with_reducible rfl
  try simp (maxSteps := 2000000) only [zz1, zz2, zz3, Act.put, zz4, zz5, zz6]
  refine wpAnyH_take (i := 15) (v := ?_) rfl (by kernel_rfl) (by kernel_rfl) (by kernel_rfl) (fun _ _ _ h => h) (Or.inl ⟨by first | kernel_rfl | rfl, ?_⟩) (by assumption) ?_
  rotate_left
  · (intro wq hSw; (try dsimp only at hSw); (try simp (maxSteps := 2000000) only [zz1, zz2, zz3]); go_simp); try with_reducible rfl
  try simp (maxSteps := 2000000) only [zz1, zz2, zz3, Act.put, zz4, zz5, zz6]
  refine wpAnyH_take (i := 16) (v := ?_) rfl (by kernel_rfl) (by kernel_rfl) (by kernel_rfl) (fun _ _ _ h => h) (Or.inl ⟨by first | kernel_rfl | rfl, ?_⟩) (by assumption) ?_
  rotate_left
  · (intro wq hSw; (try dsimp only at hSw); (try simp (maxSteps := 2000000) only [zz1, zz2, zz3]); go_simp); try with_reducible rfl
  try simp (maxSteps := 2000000) only [zz1, zz2, zz3, Act.put, zz4, zz5, zz6]
  refine wpAnyH_done (by kernel_rfl) ?_ _
  clear hHeld hs7
  have HR27 := Lib.hid (HR26.out.below ByR.stable HB7.out)
  obtain ⟨e1, e2⟩ := gb_nm (n := n1) HR16.out.1 p g ct sz hg.out
  rw [HR26.out.1] at e1
  have hgb2 := sgb_any (w := w7) (c := d2) (z := (n1 : Int)) HR27.out HD2.out (by omega)
  unfold GbR at hgb2
  rw [e1, e2] at hgb2
  have HGB2 := Lib.hid hgb2
  have BB7 := Lib.hid (BB6.out.below HB7.out)
  clear hgb2 HR27 e1 e2 hd6 BX6 BY BB6 HR26 HR16 HSF
  obtain ⟨p', hp'⟩ : ∃ x, p % 65536 = x := ⟨_, rfl⟩
  obtain ⟨ct', hct'⟩ : ∃ x, ct % 65536 = x := ⟨_, rfl⟩
  obtain ⟨sz', hsz'⟩ : ∃ x, sz % 4294967296 = x := ⟨_, rfl⟩
  rw [hp', hct', hsz'] at HGB2
  have key : (fitB p ct sz = true ∧ p' = p ∧ ct' = ct ∧ sz' = sz ∧ decide (p ≥ 0) = true ∧ decide (p < 65536) = true ∧ decide (ct ≥ 0) = true ∧ decide (ct < 65536) = true ∧ decide (sz ≥ 0) = true ∧ decide (sz < 4294967296) = true) ∨ (fitB p ct sz = false ∧ (decide (p ≥ 0) && (decide (p < 65536) && (decide (ct ≥ 0) && (decide (ct < 65536) && (decide (sz ≥ 0) && decide (sz < 4294967296)))))) = false ∧ ((p' == p) && ((ct' == ct) && (sz' == sz))) = false) := by
    by_cases h : 0 ≤ p ∧ p < 65536 ∧ 0 ≤ ct ∧ ct < 65536 ∧ 0 ≤ sz ∧ sz < 4294967296
    · exact .inl ⟨decide_eq_true h, by omega, by omega, by omega, decide_eq_true (by omega), decide_eq_true (by omega), decide_eq_true (by omega), decide_eq_true (by omega), decide_eq_true (by omega), decide_eq_true (by omega)⟩
    · refine .inr ⟨decide_eq_false h, ?_, ?_⟩
      · simp only [Bool.and_eq_false_iff, decide_eq_false_iff_not]
        omega
      · simp only [Bool.and_eq_false_iff, beq_eq_false_iff_ne, ne_eq]
        omega
  clear hp' hct' hsz'
  have bcs : ∀ b : Bool, b = true ∨ b = false := fun b => by cases b <;> simp
  rcases key with ⟨hf, rfl, rfl, rfl, f1, f2, f3, f4, f5, f6⟩ | ⟨hf, hF, hE⟩
  · go_wp2_with fail
    refine HGB2.out.mono ?_
    clear HGB2
    rintro e w8 ⟨rfl, hb8⟩
    have bZ := BoxAt.new w8 #[.int .i64 p', .int .u64 (g : Int), .int .i64 ct', .int .i64 sz'] 24
    have hb9 : Below w7.heap.size w7 (w8.alloc (.cells #[.int .i64 p', .int .u64 (g : Int), .int .i64 ct', .int .i64 sz'] 24)) := hb8.alloc hb8.size _
    obtain ⟨w9, hw9⟩ : ∃ w9, w8.alloc (.cells #[.int .i64 p', .int .u64 (g : Int), .int .i64 ct', .int .i64 sz'] 24) = w9 := ⟨_, rfl⟩
    obtain ⟨q12, hq12⟩ : ∃ q12, w8.heap.size = q12 := ⟨_, rfl⟩
    rw [hw9] at bZ hb9
    rw [hq12] at bZ
    have bq := BB7.out.below hb9
    unfold scC at bq
    have k0 := bq.cell 0
    have k1 := bq.cell 1
    have k2 := bq.cell 2
    have k3 := bq.cell 3
    have z0 := bZ.cell 0
    have z1 := bZ.cell 1
    have z2 := bZ.cell 2
    have z3 := bZ.cell 3
    have HB9 := Lib.hid (HB7'.out.trans (hb9.mono HB7'.out.size))
    clear hb8 bZ hb9 bq
    go_wp2_with fail
    refine rolls_any.mono ?_
    rintro e wz ⟨rfl, hbz⟩
    go_wp2_with fail
    go_ret
    exact ⟨rfl, HB9.out.trans (hbz.mono HB9.out.size)⟩
  · go_wp2_with fail
    refine HGB2.out.mono ?_
    clear HGB2
    rintro e w8 ⟨rfl, hb8⟩
    have bZ := BoxAt.new w8 #[.int .i64 p', .int .u64 (g : Int), .int .i64 ct', .int .i64 sz'] 24
    have hb9 : Below w7.heap.size w7 (w8.alloc (.cells #[.int .i64 p', .int .u64 (g : Int), .int .i64 ct', .int .i64 sz'] 24)) := hb8.alloc hb8.size _
    obtain ⟨w9, hw9⟩ : ∃ w9, w8.alloc (.cells #[.int .i64 p', .int .u64 (g : Int), .int .i64 ct', .int .i64 sz'] 24) = w9 := ⟨_, rfl⟩
    obtain ⟨q12, hq12⟩ : ∃ q12, w8.heap.size = q12 := ⟨_, rfl⟩
    rw [hw9] at bZ hb9
    rw [hq12] at bZ
    have bq := BB7.out.below hb9
    unfold scC at bq
    have k0 := bq.cell 0
    have k1 := bq.cell 1
    have k2 := bq.cell 2
    have k3 := bq.cell 3
    have z0 := bZ.cell 0
    have z1 := bZ.cell 1
    have z2 := bZ.cell 2
    have z3 := bZ.cell 3
    have HB9 := Lib.hid (HB7'.out.trans (hb9.mono HB7'.out.size))
    have HF := Lib.hid hF
    have HE := Lib.hid hE
    clear hb8 bZ hb9 bq hF hE hf
    rcases bcs (decide (p ≥ 0)) with d1 | d1
    rotate_left
    · go_wp2_with fail
      all_goals first
        | (refine rolls_any.mono ?_; rintro e wz ⟨rfl, hbz⟩; go_wp2_with fail; go_ret; exact ⟨rfl, HB9.out.trans (hbz.mono HB9.out.size)⟩)
        | (exfalso; have h9 := HE.out; simp_all)
    rcases bcs (decide (p < 65536)) with d2 | d2
    rotate_left
    · go_wp2_with fail
      all_goals first
        | (refine rolls_any.mono ?_; rintro e wz ⟨rfl, hbz⟩; go_wp2_with fail; go_ret; exact ⟨rfl, HB9.out.trans (hbz.mono HB9.out.size)⟩)
        | (exfalso; have h9 := HE.out; simp_all)
    rcases bcs (decide (ct ≥ 0)) with d3 | d3
    rotate_left
    · go_wp2_with fail
      all_goals first
        | (refine rolls_any.mono ?_; rintro e wz ⟨rfl, hbz⟩; go_wp2_with fail; go_ret; exact ⟨rfl, HB9.out.trans (hbz.mono HB9.out.size)⟩)
        | (exfalso; have h9 := HE.out; simp_all)
    rcases bcs (decide (ct < 65536)) with d4 | d4
    rotate_left
    · go_wp2_with fail
      all_goals first
        | (refine rolls_any.mono ?_; rintro e wz ⟨rfl, hbz⟩; go_wp2_with fail; go_ret; exact ⟨rfl, HB9.out.trans (hbz.mono HB9.out.size)⟩)
        | (exfalso; have h9 := HE.out; simp_all)
    rcases bcs (decide (sz ≥ 0)) with d5 | d5
    rotate_left
    · go_wp2_with fail
      all_goals first
        | (refine rolls_any.mono ?_; rintro e wz ⟨rfl, hbz⟩; go_wp2_with fail; go_ret; exact ⟨rfl, HB9.out.trans (hbz.mono HB9.out.size)⟩)
        | (exfalso; have h9 := HE.out; simp_all)
    rcases bcs (decide (sz < 4294967296)) with d6 | d6
    rotate_left
    · go_wp2_with fail
      all_goals first
        | (refine rolls_any.mono ?_; rintro e wz ⟨rfl, hbz⟩; go_wp2_with fail; go_ret; exact ⟨rfl, HB9.out.trans (hbz.mono HB9.out.size)⟩)
        | (exfalso; have h9 := HE.out; simp_all)
    exfalso
    have h9 := HF.out
    rw [d1, d2, d3, d4, d5, d6] at h9
    exact absurd h9 (by decide)
end Go.Proofs.YtcliejdiaohamaaGreat

set_option linter.unusedSimpArgs false
set_option linter.unusedVariables false
namespace Go.Proofs.YtcliejdiaohamaaGreat
open Go.RowKit Go.Cib
attribute [local go_sem] cell_set Later.cell Later.frozen Grw.cell Grw.frozen
open Go.ChangeShapes Go.WideShapes Go.ChangeAt Go.Deep
theorem opens_by : Opens Tryz.prog 5 ByR 1 :=
  ⟨by kernel_rfl, by omega, fun H enc w base spare held fuel cs x _ hx => by
    obtain ⟨n, rfl, _, hw⟩ := DataW.trod_int Tryz.underlying5 hx
    have h2 : 0 ≤ n ∧ n ≤ 255 := by
      simp [Lit.wf, IntKind.min, IntKind.max, IntKind.signed, IntKind.bits] at hw
      omega
    exact ⟨n.toNat, by omega, by rw [show ((n.toNat : Nat) : Int) = n by omega]⟩⟩
theorem u64_bounds {z : Int} (h : (Lit.int .u64 z).wf = true) : 0 ≤ z ∧ z < 18446744073709551616 := by
  simp [Lit.wf, IntKind.min, IntKind.max, IntKind.bits, IntKind.signed] at h
  omega
end Go.Proofs.YtcliejdiaohamaaGreat

set_option linter.unusedSimpArgs false
set_option linter.unusedVariables false
namespace Go.Proofs.YtcliejdiaohamaaGreat
open Go.RowKit Go.Cib
attribute [local go_sem] cell_set Later.cell Later.frozen Grw.cell Grw.frozen
open Go.ChangeShapes Go.WideShapes Go.ChangeAt Go.Deep
end Go.Proofs.YtcliejdiaohamaaGreat

set_option linter.unusedSimpArgs false
set_option linter.unusedVariables false
namespace Go.Proofs.YtcliejdiaohamaaGreat
open Go.RowKit Go.Cib
attribute [local go_sem] cell_set Later.cell Later.frozen Grw.cell Grw.frozen
open Go.ChangeShapes Go.WideShapes Go.ChangeAt Go.Deep
set_option maxRecDepth 100000 in
theorem open_scrollg {H : Type} {enc : TypeId × Value → H} {w : World} {base b0 : Nat} {spare : Nat → Bool} {held : Bool} {r : Reach} {v : Value} {d : DataW H} {ps : List MemPlace}
    (hval : Value.okWide Tryz.prog w r b0 24 v) (h : DataW.Trod enc Tryz.prog w base spare held 24 v d ps) : ∃ (k : Int) (m : Nat) (f c : Int), v = .agg (scC k (m : Int) f c) ∧ Hid (m < 2 ^ 64) := by
  obtain ⟨cs, rfl, hsz⟩ := okWide_struct Tryz.underlying24 hval
  obtain ⟨fuel, hx⟩ := h
  have h5 : cs.size = 4 := hsz.trans (by kernel_rfl)
  have hl : (Value.agg cs).cells.toList.length = 4 := by simpa [Value.cells] using h5
  obtain ⟨xs, n, _, _, hlen, hxl, hf⟩ := DataW.trod_struct Tryz.underlying24 hx
  have e0 : (Value.agg cs).cells.toList = cs.toList := rfl
  rw [e0] at hf hl
  match hc : cs.toList, hl with
  | [c0, c1, c2, c3], _ =>
    rw [hc] at hf
    have f0 := hf 0 _ rfl
    have f1 := hf 1 _ rfl
    have f2 := hf 2 _ rfl
    have f3 := hf 3 _ rfl
    have k1 : Tryz.prog.cellsOf 3 = 1 := by kernel_rfl
    have k2 : Tryz.prog.cellsOf 22 = 1 := by kernel_rfl
    have hx3 : xs.length = 4 := hxl
    simp only [List.getElem_toArray, List.getElem_cons_zero, List.getElem_cons_succ, k1, k2, List.drop_zero, List.drop_succ_cons, List.take_succ_cons, List.take_zero] at f0 f1 f2 f3
    rw [List.getElem?_eq_getElem (by omega)] at f0 f1 f2 f3
    obtain ⟨s, e1, _, _⟩ := DataW.trod_int Tryz.underlying3 f0
    obtain ⟨t, e2, _, ht⟩ := DataW.trod_int Tryz.underlying22 f1
    obtain ⟨u, e3, _, _⟩ := DataW.trod_int Tryz.underlying3 f2
    obtain ⟨x, e4, _, _⟩ := DataW.trod_int Tryz.underlying3 f3
    have htb := u64_bounds ht
    simp only [List.cons.injEq, and_true] at e1 e2 e3 e4
    subst e1; subst e2; subst e3; subst e4
    refine ⟨s, t.toNat, u, x, ?_, Lib.hid (by omega)⟩
    rw [Int.toNat_of_nonneg htb.1, show cs = cs.toList.toArray by simp, hc]
    rfl
end Go.Proofs.YtcliejdiaohamaaGreat
