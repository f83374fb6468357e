/-
  A stripe's shard, if there is one.
  A stripe's whole shards.
-/
import Derived.Test.YtihnlhfngmbglaaGreatLt9
set_option linter.unusedSimpArgs false
set_option linter.unusedVariables false
namespace Go.Proofs.YtihnlhfngmbglaaGreat
open Go.RowKit Go.Cib
attribute [local go_sem] cell_set Later.cell Later.frozen Grw.cell Grw.frozen
section
theorem decS_ok {xs : List Nat} (hl : xs.length = 64) (hb : Byt xs) : (decS xs).ok := by
  have h : ∀ a k, a + k ≤ 64 → unN ((xs.drop a).take k) < 2 ^ (8 * k) := fun a k hak => by
    have h := unN_lt (l := (xs.drop a).take k) fun x hx => hb x (List.mem_of_mem_drop (List.mem_of_mem_take hx))
    rwa [show ((xs.drop a).take k).length = k by rw [List.length_take, List.length_drop, hl]; omega] at h
  exact ⟨h 0 1 (by omega), h 1 1 (by omega), h 2 2 (by omega), h 4 8 (by omega), h 12 2 (by omega), by show ((xs.drop 16).take 44).length = 44; rw [List.length_take, List.length_drop, hl]; omega, fun x hx => hb x (List.mem_of_mem_drop (List.mem_of_mem_take hx))⟩
def rdX (xs : List Nat) (k : Nat) (r : Ref) (i : Nat) : Option Shd := if okSum xs ∧ frmB xs = true ∧ isB (decS xs) r i = true ∧ (decS xs).size ≤ k * 44 then some (decS xs) else none
def rdS (st : DSt) (k : Nat) (r : Ref) (i : Nat) : Option Shd := if st.dead = true then none else rdX (secN st r.place) k r i
attribute [local go_sem ↓] shut_loadS shut_zeroS shut_buildS shut_storeS
attribute [local go_sem] run_zeroS run_build0
section
variable {U C : Nat → Prop} {w : World} {a n s cb b k m : Nat} {v : Value} {Fs : Nat → Nat → Prop} {ps : List Nat} {sts : List DSt} {r : Ref}
set_option maxRecDepth 100000 in
set_option maxHeartbeats 4000000 in
theorem room_any (h : CodAt w cb b k m) : Calls Tryz.prog 93 #[.pointer (some ⟨cb, 0, none⟩)] w fun e w' => e = .returned (.int .i64 ((k * 44 : Nat) : Int)) ∧ w' = w := by
  have hk := ck_any h
  have q0 : (k : Int) ≤ 255 := by have := h.km; omega
  clear h
  go_enter Tryz.func93, Tryz.ntmps93
  go_wp2_with fail
  refine hk.mono ?_
  rintro e w5 ⟨rfl, hw5⟩
  rw [hw5]
  clear hw5 hk
  go_wp2_with fail
  go_ret
  exact ⟨by push_cast; rfl, rfl⟩
def ReadE (w : World) (R : Option Shd) (e : Ending) (w' : World) : Prop := Below w.heap.size w w' ∧ ∃ y B, e = .returned (.tuple #[.agg (shC y), .bool B]) ∧ y.ok ∧ ((B = true ∧ R = some y) ∨ (B = false ∧ R = none))
set_option maxRecDepth 100000 in
set_option maxHeartbeats 8000000 in
theorem sread_any (hS : BoxAt w s (setC a cb r)) (h : Hid (ArrB U w a v Fs ps n sts)) (HC : CodAt w cb b k m) (hlen : sts.length = k + m) (hz : r.place < n) (i : Nat) {st : DSt} (hst : sts[homeN sts.length r.place i]? = some st) (hb : StB st r.place) (h64 : (secN st r.place).length = 64) :
    Calls Tryz.prog 139 #[.pointer (some ⟨s, 0, none⟩), .int .i64 (i : Int)] w fun e w' => ReadE w (rdS st k r i) e w' := by
  have hkm := HC.km
  have hk1 := HC.k1
  go_enter Tryz.func139, Tryz.ntmps139
  go_wp2_with fail
  have b0 := BoxAt.new w (shC sh0) 193
  have hb0 : Below w.heap.size w (w.alloc (.cells (shC sh0) 193)) := (Below.refl _ _).alloc (Nat.le_refl _) _
  obtain ⟨wA, hwA⟩ : ∃ wA, w.alloc (.cells (shC sh0) 193) = wA := ⟨_, rfl⟩
  rw [hwA] at b0 hb0 ⊢
  clear hwA
  obtain ⟨p, hp⟩ : ∃ p, w.heap.size = p := ⟨_, rfl⟩
  rw [hp] at b0 ⊢
  have hd : Below w.heap.size w wA.drew := hb0.drew
  have hSd : BoxAt wA.drew s (setC a cb r) := hS.below hd
  have s0 : wA.drew.cell? ⟨s, 0, none⟩ = some (.pointer (some ⟨a, 0, none⟩)) ∧ wA.drew.cell? ⟨s, 3, none⟩ = some (.int .i64 (r.place : Int)) := ⟨hSd.cell 0, hSd.cell 3⟩
  have hH := shome_any hSd (Lib.hid (h.out.below hd)) (by omega) (by omega) i
  have hrd := fun w' (hb' : Below w.heap.size w w') => aread2 (w := w') (Lib.hid (h.out.below hb')) _ hst r.place hz hb
  have bPd : BoxAt wA.drew p (shC sh0) := b0.keep rfl
  have HCH := Lib.hid HC
  obtain ⟨d, hde⟩ : ∃ d, homeN sts.length r.place i = d := ⟨_, rfl⟩
  rw [hde] at hH hrd
  have HLEN := Lib.hid hlen
  clear h HC hst b0 hde hlen
  refine wp_region_held_drew (S := fun w' => w'.cell? ⟨s, 0, none⟩ = some (.pointer (some ⟨a, 0, none⟩)) ∧ w'.cell? ⟨s, 3, none⟩ = some (.int .i64 (r.place : Int))) (by kernel_rfl) (by first | exact s0 | exact s5 | exact s6) (fun hHeld => ?_)
  refine wpAnyH_take (i := 0) (v := ?_) rfl (by kernel_rfl) (by kernel_rfl) (by kernel_rfl) (fun _ _ _ h => h) (Or.inl ⟨by first | kernel_rfl | rfl, ?_⟩) (by assumption) ?_
  rotate_left
  · (intro wq hSw; (try dsimp only at hSw); (try simp (maxSteps := 2000000) only [zz1, zz2, zz3]); go_simp); try with_reducible rfl
  try simp (maxSteps := 2000000) only [zz1, zz2, zz3, Act.put, zz4, zz5, zz6]
  refine wpAnyH_take (i := 1) (v := ?_) rfl (by kernel_rfl) (by kernel_rfl) (by kernel_rfl) (fun _ _ _ h => h) (Or.inl ⟨by first | kernel_rfl | rfl, ?_⟩) (by assumption) ?_
  rotate_left
  · (intro wq hSw; (try dsimp only at hSw); (try simp (maxSteps := 2000000) only [zz1, zz2, zz3]); go_simp); try with_reducible rfl
  try simp (maxSteps := 2000000) only [zz1, zz2, zz3, Act.put, zz4, zz5, zz6]
  refine wpAnyH_take (i := 2) (v := ?_) rfl (by kernel_rfl) (by kernel_rfl) (by kernel_rfl) (fun _ _ _ h => h) (Or.inl ⟨by first | kernel_rfl | rfl, ?_⟩) (by assumption) ?_
  rotate_left
  · (intro wq hSw; (try dsimp only at hSw); (try simp (maxSteps := 2000000) only [zz1, zz2, zz3]); go_simp); try with_reducible rfl
  try simp (maxSteps := 2000000) only [zz1, zz2, zz3, Act.put, zz4, zz5, zz6]
  refine wpAnyH_take (i := 3) (v := ?_) rfl (by kernel_rfl) (by kernel_rfl) (by kernel_rfl) (fun _ _ _ h => h) (Or.inl ⟨by first | kernel_rfl | rfl, ?_⟩) (by assumption) ?_
  rotate_left
  · (intro wq hSw; (try dsimp only at hSw); (try simp (maxSteps := 2000000) only [zz1, zz2, zz3]); go_simp); try with_reducible rfl
  try simp (maxSteps := 2000000) only [zz1, zz2, zz3, Act.put, zz4, zz5, zz6]
  refine wpAnyH_take (i := 4) (v := ?_) rfl (by kernel_rfl) (by kernel_rfl) (by kernel_rfl) (fun _ _ _ h => h) (Or.inl ⟨by first | kernel_rfl | rfl, ?_⟩) (by assumption) ?_
  rotate_left
  · (intro wq hSw; (try dsimp only at hSw); (try simp (maxSteps := 2000000) only [zz1, zz2, zz3]); go_simp); try with_reducible rfl
  try simp (maxSteps := 2000000) only [zz1, zz2, zz3, Act.put, zz4, zz5, zz6]
  refine wpAnyH_take (i := 5) (v := ?_) rfl (by kernel_rfl) (by kernel_rfl) (by kernel_rfl) (fun _ _ _ h => h) (Or.inl ⟨by first | kernel_rfl | rfl, ?_⟩) (by assumption) ?_
  rotate_left
  · (intro wq hSw; (try dsimp only at hSw); (try simp (maxSteps := 2000000) only [zz1, zz2, zz3]); go_simp); try with_reducible rfl
  try simp (maxSteps := 2000000) only [zz1, zz2, zz3, Act.put, zz4, zz5, zz6]
  refine wpAnyH_take (i := 7) (v := ?_) rfl (by kernel_rfl) (by kernel_rfl) (by kernel_rfl) (fun _ _ _ h => h) (Or.inl ⟨by first | kernel_rfl | rfl, ?_⟩) (by assumption) ?_
  rotate_left
  · (intro wq hSw; (try dsimp only at hSw); (try simp (maxSteps := 2000000) only [zz1, zz2, zz3]); go_simp); try with_reducible rfl
  try simp (maxSteps := 2000000) only [zz1, zz2, zz3, Act.put, zz4, zz5, zz6]
  refine wpAnyH_take (i := 8) (v := ?_) rfl (by kernel_rfl) (by kernel_rfl) (by kernel_rfl) (fun _ _ _ h => h) (Or.inl ⟨by first | kernel_rfl | rfl, ?_⟩) (by assumption) ?_
  rotate_left
  · (intro wq hSw; (try dsimp only at hSw); (try simp (maxSteps := 2000000) only [zz1, zz2, zz3]); go_simp); try with_reducible rfl
  try simp (maxSteps := 2000000) only [zz1, zz2, zz3, Act.put, zz4, zz5, zz6]
  refine wpAnyH_take (i := 9) (v := ?_) rfl (by kernel_rfl) (by kernel_rfl) (by kernel_rfl) (fun _ _ _ h => h) (Or.inl ⟨by first | kernel_rfl | rfl, ?_⟩) (by assumption) ?_
  rotate_left
  · (intro wq hSw; (try dsimp only at hSw); (try simp (maxSteps := 2000000) only [zz1, zz2, zz3]); go_simp); try with_reducible rfl
  try simp (maxSteps := 2000000) only [zz1, zz2, zz3, Act.put, zz4, zz5, zz6]
  refine wpAnyH_take (i := 10) (v := ?_) rfl (by kernel_rfl) (by kernel_rfl) (by kernel_rfl) (fun _ _ _ h => h) (Or.inl ⟨by first | kernel_rfl | rfl, ?_⟩) (by assumption) ?_
  rotate_left
  · (intro wq hSw; (try dsimp only at hSw); (try simp (maxSteps := 2000000) only [zz1, zz2, zz3]); go_simp); try with_reducible rfl
  try simp (maxSteps := 2000000) only [zz1, zz2, zz3, Act.put, zz4, zz5, zz6]
  refine wpAnyH_take (i := 11) (v := ?_) rfl (by kernel_rfl) (by kernel_rfl) (by kernel_rfl) (fun _ _ _ h => h) (Or.inl ⟨by first | kernel_rfl | rfl, ?_⟩) (by assumption) ?_
  rotate_left
  · (intro wq hSw; (try dsimp only at hSw); (try simp (maxSteps := 2000000) only [zz1, zz2, zz3]); go_simp); try with_reducible rfl
  try simp (maxSteps := 2000000) only [zz1, zz2, zz3, Act.put, zz4, zz5, zz6]
  refine wpAnyH_ready (rs := [6]) (by kernel_rfl) (by simp) ?_
  refine AllReadyH.cons rfl (fun K hK => ?_) AllReadyH.nil
  try simp (maxSteps := 2000000) only [zz1, zz2, zz3]
  go_simp
  go_at_call 169
  refine hH.mono ?_
  clear hH
  rintro e w5 ⟨rfl, hb5⟩
  have hS5 := hSd.below hb5
  have bP5 := bPd.below hb5
  have s5 : w5.cell? ⟨s, 0, none⟩ = some (.pointer (some ⟨a, 0, none⟩)) ∧ w5.cell? ⟨s, 3, none⟩ = some (.int .i64 (r.place : Int)) := ⟨hS5.cell 0, hS5.cell 3⟩
  have hw5 : Below w.heap.size w w5 := hd.trans (hb5.mono hd.size)
  try (go_wp2_with fail)
  refine hK.out _ _ (by first | exact s0 | exact s5 | exact s6) (fun hHeld => ?_)
  clear hK K
  try simp (maxSteps := 2000000) only [zz1, zz2, zz3, Act.put, zz4, zz5, zz6]
  refine wpAnyH_ready (rs := [12]) (by kernel_rfl) (by simp) ?_
  refine AllReadyH.cons rfl (fun K hK => ?_) AllReadyH.nil
  try simp (maxSteps := 2000000) only [zz1, zz2, zz3]
  go_simp
  go_at_call 168
  refine (hrd _ hw5).mono ?_
  clear hrd
  rintro e w6 ⟨hb6, hres⟩
  have hS6 := hS5.below hb6
  have bP6 := bP5.below hb6
  have s6 : w6.cell? ⟨s, 0, none⟩ = some (.pointer (some ⟨a, 0, none⟩)) ∧ w6.cell? ⟨s, 3, none⟩ = some (.int .i64 (r.place : Int)) := ⟨hS6.cell 0, hS6.cell 3⟩
  have hw6 : Below w.heap.size w w6 := hw5.trans (hb6.mono hw5.size)
  obtain ⟨AR, mR, eR, hres2⟩ : ∃ A m E, e = .returned (.tuple #[.slice A m m, .int .i64 E]) ∧ ((st.dead = true ∧ E = 90 ∧ m = 0) ∨ (st.dead = false ∧ E = 0 ∧ m = 64 ∧ RdL ByR 1 (w5.heap.size ≤ ·) w6 A 64 (secN st r.place))) := by
    rcases hres with ⟨h1, rfl⟩ | ⟨h1, A, rfl, h2⟩
    · exact ⟨none, 0, 90, rfl, .inl ⟨h1, rfl, rfl⟩⟩
    · exact ⟨A, 64, 0, rfl, .inr ⟨h1, rfl, rfl, h2⟩⟩
  obtain ⟨rfl, hres3⟩ := hres2
  have HRES := Lib.hid hres3
  clear hres hres3
  try (go_wp2_with fail)
  refine hK.out _ _ (by first | exact s0 | exact s5 | exact s6) (fun hHeld => ?_)
  clear hK K
  try simp (maxSteps := 2000000) only [zz1, zz2, zz3, Act.put, zz4, zz5, zz6]
  refine wpAnyH_take (i := 13) (v := ?_) rfl (by kernel_rfl) (by kernel_rfl) (by kernel_rfl) (fun _ _ _ h => h) (Or.inl ⟨by first | kernel_rfl | rfl, ?_⟩) (by assumption) ?_
  rotate_left
  · (intro wq hSw; (try dsimp only at hSw); (try simp (maxSteps := 2000000) only [zz1, zz2, zz3]); go_simp); try with_reducible rfl
  try simp (maxSteps := 2000000) only [zz1, zz2, zz3, Act.put, zz4, zz5, zz6]
  refine wpAnyH_take (i := 14) (v := ?_) rfl (by kernel_rfl) (by kernel_rfl) (by kernel_rfl) (fun _ _ _ h => h) (Or.inl ⟨by first | kernel_rfl | rfl, ?_⟩) (by assumption) ?_
  rotate_left
  · (intro wq hSw; (try dsimp only at hSw); (try simp (maxSteps := 2000000) only [zz1, zz2, zz3]); go_simp); try with_reducible rfl
  try simp (maxSteps := 2000000) only [zz1, zz2, zz3, Act.put, zz4, zz5, zz6]
  refine wpAnyH_take (i := 15) (v := ?_) rfl (by kernel_rfl) (by kernel_rfl) (by kernel_rfl) (fun _ _ _ h => h) (Or.inl ⟨by first | kernel_rfl | rfl, ?_⟩) (by assumption) ?_
  rotate_left
  · (intro wq hSw; (try dsimp only at hSw); (try simp (maxSteps := 2000000) only [zz1, zz2, zz3]); go_simp); try with_reducible rfl
  try simp (maxSteps := 2000000) only [zz1, zz2, zz3, Act.put, zz4, zz5, zz6]
  refine wpAnyH_take (i := 16) (v := ?_) rfl (by kernel_rfl) (by kernel_rfl) (by kernel_rfl) (fun _ _ _ h => h) (Or.inl ⟨by first | kernel_rfl | rfl, ?_⟩) (by assumption) ?_
  rotate_left
  · (intro wq hSw; (try dsimp only at hSw); (try simp (maxSteps := 2000000) only [zz1, zz2, zz3]); go_simp); try with_reducible rfl
  try simp (maxSteps := 2000000) only [zz1, zz2, zz3, Act.put, zz4, zz5, zz6]
  refine wpAnyH_take (i := 17) (v := ?_) rfl (by kernel_rfl) (by kernel_rfl) (by kernel_rfl) (fun _ _ _ h => h) (Or.inl ⟨by first | kernel_rfl | rfl, ?_⟩) (by assumption) ?_
  rotate_left
  · (intro wq hSw; (try dsimp only at hSw); (try simp (maxSteps := 2000000) only [zz1, zz2, zz3]); go_simp); try with_reducible rfl
  try simp (maxSteps := 2000000) only [zz1, zz2, zz3, Act.put, zz4, zz5, zz6]
  refine wpAnyH_done (by kernel_rfl) ?_ _
  have HS6 := Lib.hid hS6
  have HW6 := Lib.hid hw6
  have lP6 := bP6.lt
  have hpw : w.heap.size ≤ p := by omega
  clear s0 s5 s6 hSd hS5 bPd bP5 hb5 hw5 hHeld hS6 hw6 hd hb0
  rcases HRES.out with ⟨hdd, rfl, rfl⟩ | ⟨hdd, rfl, rfl, hr6⟩
  · have HRD := Lib.hid (show rdS st k r i = none by unfold rdS; rw [if_pos hdd])
    have hst := run_storeS (y := sh0) bP6 sh0_ok.l sh0_ok.l
    have hb2 := shC_set (y := sh0) bP6 sh0_ok.l sh0_ok.l
    clear HRES hdd
    go_wp2_with fail
    have hld := run_loadS hb2 sh0_ok.l
    refine bodyPost_ret (v := .tuple #[.agg (shC sh0), .bool false]) (results_cellS Tryz.results139 _ _ _ _ _ rfl rfl hld) rfl ?_
    exact ⟨setS_below HW6.out hpw _, sh0, false, rfl, sh0_ok, .inr ⟨rfl, HRD.out⟩⟩
  · have hbx := by_byt hr6
    have hgt := shget_any hr6 (Nat.le_refl _)
    have HBX := Lib.hid hbx
    have HDD := Lib.hid hdd
    clear HRES hdd hr6 hbx
    go_wp2_with fail
    refine hgt.mono ?_
    clear hgt
    rintro e w7 ⟨hb7, hres⟩
    obtain ⟨y, E, he, hy, hcase⟩ : ∃ y E, e = .returned (.tuple #[.agg (shC y), .int .i64 E]) ∧ y.ok ∧ ((E ≠ 0 ∧ rdX (secN st r.place) k r i = none) ∨ (E = 0 ∧ rdX (secN st r.place) k r i = if isB y r i = true ∧ y.size ≤ k * 44 then some y else none)) := by
      rcases hres with ⟨h1, rfl⟩ | ⟨h1, h2, rfl⟩ | ⟨h1, h2, rfl⟩
      · exact ⟨sh0, 4, rfl, sh0_ok, .inl ⟨by decide, by unfold rdX; rw [if_neg (fun h => h1 h.1)]⟩⟩
      · exact ⟨sh0, 3, rfl, sh0_ok, .inl ⟨by decide, by unfold rdX; rw [if_neg (fun h => by rw [h2] at h; exact absurd h.2.1 (by decide))]⟩⟩
      · refine ⟨decS (secN st r.place), 0, rfl, decS_ok h64 HBX.out, .inr ⟨rfl, ?_⟩⟩
        unfold rdX
        by_cases h3 : isB (decS (secN st r.place)) r i = true ∧ (decS (secN st r.place)).size ≤ k * 44
        · rw [if_pos ⟨h1, h2, h3⟩, if_pos h3]
        · rw [if_neg (fun h => h3 h.2.2), if_neg h3]
    subst he
    have HRX := Lib.hid (show rdS st k r i = rdX (secN st r.place) k r i by unfold rdS; rw [if_neg (by rw [HDD.out]; simp)])
    have HY := Lib.hid hy
    have hyl := hy.l
    have HCASE := Lib.hid hcase
    have bP7 := bP6.below hb7
    have bS7 := HS6.out.below hb7
    have hw7 : Below w.heap.size w w7 := HW6.out.trans (hb7.mono HW6.out.size)
    have hst := run_storeS (y := y) (BoxAt.new w7 (shC sh0) 193) sh0_ok.l hyl
    have bQ := shC_set (y := y) (BoxAt.new w7 (shC sh0) 193) sh0_ok.l hyl
    have lP := bP7.lt
    have lS := bS7.lt
    have bP8 := (bP7.alloc (.cells (shC sh0) 193)).keep (setCells_other _ w7.heap.size 0 p (shV y) (by omega))
    have bS8 := (bS7.alloc (.cells (shC sh0) 193)).keep (setCells_other _ w7.heap.size 0 s (shV y) (by omega))
    have hw8 := setS_below (hw7.alloc hw7.size (.cells (shC sh0) 193)) (p := w7.heap.size) hw7.size (shV y)
    obtain ⟨W8, hW8⟩ : ∃ W, (w7.alloc (.cells (shC sh0) 193)).setCells w7.heap.size 0 (shV y) = W := ⟨_, rfl⟩
    rw [hW8] at hst bQ bP8 bS8 hw8
    obtain ⟨q, hq⟩ : ∃ q, w7.heap.size = q := ⟨_, rfl⟩
    rw [hq] at hst bQ
    have hpq : p ≠ q := by omega
    have hsq : s ≠ q := by omega
    clear hres hcase hy hb7 bP6 bP7 bS7 hw7
    go_wp2_with fail
    have f1 : ∀ w', BoxAt w' q (shC y) → (shutLoad 193 ⟨q, 0, none⟩).run Tryz.prog w' = .ok (.agg (shC y)) w' := fun w' h => run_loadS h hyl
    have f2 : ∀ w', BoxAt w' q (shC y) → w'.cell? ⟨q, 4, none⟩ = some (.int .u16 (y.size : Int)) := fun w' h => (h.cell 4).trans (shC_4 y)
    have g1 : ∀ w', BoxAt w' s (setC a cb r) → w'.cell? ⟨s, 1, none⟩ = some (.pointer (some ⟨cb, 0, none⟩)) := fun w' h => h.cell 1
    have g2 : ∀ w', BoxAt w' s (setC a cb r) → w'.cell? ⟨s, 2, none⟩ = some (.int .u8 (r.kind : Int)) := fun w' h => h.cell 2
    have g3 : ∀ w', BoxAt w' s (setC a cb r) → w'.cell? ⟨s, 3, none⟩ = some (.int .i64 (r.place : Int)) := fun w' h => h.cell 3
    have g4 : ∀ w', BoxAt w' s (setC a cb r) → w'.cell? ⟨s, 4, none⟩ = some (.int .u64 (r.gen : Int)) := fun w' h => h.cell 4
    have bPd : BoxAt W8.drew p (shC sh0) := bP8.keep rfl
    have bQd : BoxAt W8.drew q (shC y) := bQ.keep rfl
    have bSd : BoxAt W8.drew s (setC a cb r) := bS8.keep rfl
    have hw8d : Below w.heap.size w W8.drew := hw8.drew
    have s8 : BoxAt W8.drew q (shC y) ∧ BoxAt W8.drew s (setC a cb r) := ⟨bQd, bSd⟩
    have hps : p ≠ s := by
      intro e
      rw [e] at bPd
      have h1 := bPd.cell 0
      have h2 := bSd.cell 0
      rw [h1, shC_0] at h2
      cases h2
    clear hst bP8 bQ bS8 hW8 hw8 lP lS hq
    rcases HCASE.out with ⟨hE, hnone⟩ | ⟨rfl, hsome⟩
    · have e0 : (E == 0) = false := by simpa using hE
      have HRD := Lib.hid (show rdS st k r i = none by rw [HRX.out, hnone])
      have hst := run_storeS (y := y) bPd sh0_ok.l hyl
      have hb2 := shC_set (y := y) bPd sh0_ok.l hyl
      have bQ2 := bQd.keep (setCells_other _ p 0 q (shV y) hpq.symm)
      have bS2 := bSd.keep (setCells_other _ p 0 s (shV y) hps.symm)
      obtain ⟨W9, hW9⟩ : ∃ W, W8.drew.setCells p 0 (shV y) = W := ⟨_, rfl⟩
      have hw9 := setS_below hw8d hpw (shV y)
      rw [hW9] at hst hb2 bQ2 bS2 hw9
      have s9 : BoxAt W9 q (shC y) ∧ BoxAt W9 s (setC a cb r) := ⟨bQ2, bS2⟩
      clear HCASE hE hnone hW9 bQ2 bS2 bPd bQd bSd hw8d
      refine wp_region_held_drew (S := fun w' => BoxAt w' q (shC y) ∧ BoxAt w' s (setC a cb r)) (by kernel_rfl) (by first | exact s8 | exact s9) (fun hHeld => ?_)
      refine wpAnyH_take (i := 0) (v := ?_) rfl (by kernel_rfl) (by kernel_rfl) (by kernel_rfl) (fun _ _ _ h => h) (Or.inl ⟨by first | kernel_rfl | rfl, ?_⟩) (by assumption) ?_
      rotate_left
      · (intro wq hSw; (try dsimp only at hSw); (try simp (maxSteps := 2000000) only [zz1, zz2, zz3]); go_simp); try with_reducible rfl
      try simp (maxSteps := 2000000) only [zz1, zz2, zz3, Act.put, zz4, zz5, zz6]
      refine wpAnyH_take (i := 1) (v := ?_) rfl (by kernel_rfl) (by kernel_rfl) (by kernel_rfl) (fun _ _ _ h => h) (Or.inl ⟨by first | kernel_rfl | rfl, ?_⟩) (by assumption) ?_
      rotate_left
      · (intro wq hSw; (try dsimp only at hSw); (try simp (maxSteps := 2000000) only [zz1, zz2, zz3]); go_simp); try with_reducible rfl
      try simp (maxSteps := 2000000) only [zz1, zz2, zz3, Act.put, zz4, zz5, zz6]
      refine wpAnyH_take (i := 2) (v := ?_) rfl (by kernel_rfl) (by kernel_rfl) (by kernel_rfl) (fun _ _ _ h => h) (Or.inl ⟨by first | kernel_rfl | rfl, ?_⟩) (by assumption) ?_
      rotate_left
      · (intro wq hSw; (try dsimp only at hSw); (try simp (maxSteps := 2000000) only [zz1, zz2, zz3]); go_simp); try with_reducible rfl
      try simp (maxSteps := 2000000) only [zz1, zz2, zz3, Act.put, zz4, zz5, zz6]
      refine wpAnyH_take (i := 3) (v := ?_) rfl (by kernel_rfl) (by kernel_rfl) (by kernel_rfl) (fun _ _ _ h => h) (Or.inl ⟨by first | kernel_rfl | rfl, ?_⟩) (by assumption) ?_
      rotate_left
      · (intro wq hSw; (try dsimp only at hSw); (try simp (maxSteps := 2000000) only [zz1, zz2, zz3]); go_simp); try with_reducible rfl
      try simp (maxSteps := 2000000) only [zz1, zz2, zz3, Act.put, zz4, zz5, zz6]
      refine wpAnyH_take (i := 4) (v := undef) rfl (by kernel_rfl) (by kernel_rfl) (by kernel_rfl) (fun _ _ _ h => h) (Or.inr ⟨by first | kernel_rfl | rfl, rfl⟩) (by assumption) ?_
      try simp (maxSteps := 2000000) only [zz1, zz2, zz3, Act.put, zz4, zz5, zz6]
      refine wpAnyH_take (i := 5) (v := undef) rfl (by kernel_rfl) (by kernel_rfl) (by kernel_rfl) (fun _ _ _ h => h) (Or.inr ⟨by first | kernel_rfl | rfl, rfl⟩) (by assumption) ?_
      try simp (maxSteps := 2000000) only [zz1, zz2, zz3, Act.put, zz4, zz5, zz6]
      refine wpAnyH_take (i := 6) (v := undef) rfl (by kernel_rfl) (by kernel_rfl) (by kernel_rfl) (fun _ _ _ h => h) (Or.inr ⟨by first | kernel_rfl | rfl, rfl⟩) (by assumption) ?_
      try simp (maxSteps := 2000000) only [zz1, zz2, zz3, Act.put, zz4, zz5, zz6]
      refine wpAnyH_take (i := 7) (v := undef) rfl (by kernel_rfl) (by kernel_rfl) (by kernel_rfl) (fun _ _ _ h => h) (Or.inr ⟨by first | kernel_rfl | rfl, rfl⟩) (by assumption) ?_
      try simp (maxSteps := 2000000) only [zz1, zz2, zz3, Act.put, zz4, zz5, zz6]
      refine wpAnyH_take (i := 8) (v := undef) rfl (by kernel_rfl) (by kernel_rfl) (by kernel_rfl) (fun _ _ _ h => h) (Or.inr ⟨by first | kernel_rfl | rfl, rfl⟩) (by assumption) ?_
      try simp (maxSteps := 2000000) only [zz1, zz2, zz3, Act.put, zz4, zz5, zz6]
      refine wpAnyH_take (i := 9) (v := undef) rfl (by kernel_rfl) (by kernel_rfl) (by kernel_rfl) (fun _ _ _ h => h) (Or.inr ⟨by first | kernel_rfl | rfl, rfl⟩) (by assumption) ?_
      try simp (maxSteps := 2000000) only [zz1, zz2, zz3, Act.put, zz4, zz5, zz6]
      refine wpAnyH_take (i := 10) (v := undef) rfl (by kernel_rfl) (by kernel_rfl) (by kernel_rfl) (fun _ _ _ h => h) (Or.inr ⟨by first | kernel_rfl | rfl, rfl⟩) (by assumption) ?_
      try simp (maxSteps := 2000000) only [zz1, zz2, zz3, Act.put, zz4, zz5, zz6]
      refine wpAnyH_take (i := 11) (v := ?_) rfl (by kernel_rfl) (by kernel_rfl) (by kernel_rfl) (fun _ _ _ h => h) (Or.inl ⟨by first | kernel_rfl | rfl, ?_⟩) (by assumption) ?_
      rotate_left
      · (intro wq hSw; (try dsimp only at hSw); (try simp (maxSteps := 2000000) only [zz1, zz2, zz3]); go_simp); try with_reducible rfl
      try simp (maxSteps := 2000000) only [zz1, zz2, zz3, Act.put, zz4, zz5, zz6]
      refine wpAnyH_take (i := 12) (v := ?_) rfl (by kernel_rfl) (by kernel_rfl) (by kernel_rfl) (fun _ _ _ h => h) (Or.inl ⟨by first | kernel_rfl | rfl, ?_⟩) (by assumption) ?_
      rotate_left
      · (intro wq hSw; (try dsimp only at hSw); (try simp (maxSteps := 2000000) only [zz1, zz2, zz3]); go_simp); try with_reducible rfl
      try simp (maxSteps := 2000000) only [zz1, zz2, zz3, Act.put, zz4, zz5, zz6]
      refine wpAnyH_take (i := 13) (v := undef) rfl (by kernel_rfl) (by kernel_rfl) (by kernel_rfl) (fun _ _ _ h => h) (Or.inr ⟨by first | kernel_rfl | rfl, rfl⟩) (by assumption) ?_
      try simp (maxSteps := 2000000) only [zz1, zz2, zz3, Act.put, zz4, zz5, zz6]
      refine wpAnyH_take (i := 14) (v := undef) rfl (by kernel_rfl) (by kernel_rfl) (by kernel_rfl) (fun _ _ _ h => h) (Or.inr ⟨by first | kernel_rfl | rfl, rfl⟩) (by assumption) ?_
      try simp (maxSteps := 2000000) only [zz1, zz2, zz3, Act.put, zz4, zz5, zz6]
      refine wpAnyH_take (i := 15) (v := undef) rfl (by kernel_rfl) (by kernel_rfl) (by kernel_rfl) (fun _ _ _ h => h) (Or.inr ⟨by first | kernel_rfl | rfl, rfl⟩) (by assumption) ?_
      try simp (maxSteps := 2000000) only [zz1, zz2, zz3, Act.put, zz4, zz5, zz6]
      refine wpAnyH_take (i := 16) (v := undef) rfl (by kernel_rfl) (by kernel_rfl) (by kernel_rfl) (fun _ _ _ h => h) (Or.inr ⟨by first | kernel_rfl | rfl, rfl⟩) (by assumption) ?_
      try simp (maxSteps := 2000000) only [zz1, zz2, zz3, Act.put, zz4, zz5, zz6]
      refine wpAnyH_take (i := 17) (v := undef) rfl (by kernel_rfl) (by kernel_rfl) (by kernel_rfl) (fun _ _ _ h => h) (Or.inr ⟨by first | kernel_rfl | rfl, rfl⟩) (by assumption) ?_
      try simp (maxSteps := 2000000) only [zz1, zz2, zz3, Act.put, zz4, zz5, zz6]
      refine wpAnyH_take (i := 18) (v := undef) rfl (by kernel_rfl) (by kernel_rfl) (by kernel_rfl) (fun _ _ _ h => h) (Or.inr ⟨by first | kernel_rfl | rfl, rfl⟩) (by assumption) ?_
      try simp (maxSteps := 2000000) only [zz1, zz2, zz3, Act.put, zz4, zz5, zz6]
      refine wpAnyH_take (i := 19) (v := undef) rfl (by kernel_rfl) (by kernel_rfl) (by kernel_rfl) (fun _ _ _ h => h) (Or.inr ⟨by first | kernel_rfl | rfl, rfl⟩) (by assumption) ?_
      try simp (maxSteps := 2000000) only [zz1, zz2, zz3, Act.put, zz4, zz5, zz6]
      refine wpAnyH_take (i := 20) (v := undef) rfl (by kernel_rfl) (by kernel_rfl) (by kernel_rfl) (fun _ _ _ h => h) (Or.inr ⟨by first | kernel_rfl | rfl, rfl⟩) (by assumption) ?_
      try simp (maxSteps := 2000000) only [zz1, zz2, zz3, Act.put, zz4, zz5, zz6]
      refine wpAnyH_take (i := 21) (v := undef) rfl (by kernel_rfl) (by kernel_rfl) (by kernel_rfl) (fun _ _ _ h => h) (Or.inr ⟨by first | kernel_rfl | rfl, rfl⟩) (by assumption) ?_
      try simp (maxSteps := 2000000) only [zz1, zz2, zz3, Act.put, zz4, zz5, zz6]
      refine wpAnyH_take (i := 22) (v := ?_) rfl (by kernel_rfl) (by kernel_rfl) (by kernel_rfl) (fun _ _ _ h => h) (Or.inl ⟨by first | kernel_rfl | rfl, ?_⟩) (by assumption) ?_
      rotate_left
      · (intro wq hSw; (try dsimp only at hSw); (try simp (maxSteps := 2000000) only [zz1, zz2, zz3]); go_simp); try with_reducible rfl
      try simp (maxSteps := 2000000) only [zz1, zz2, zz3, Act.put, zz4, zz5, zz6]
      refine wpAnyH_ready (rs := [23]) (by kernel_rfl) (by simp) ?_
      refine AllReadyH.cons rfl (fun K hK => ?_) AllReadyH.nil
      try simp (maxSteps := 2000000) only [zz1, zz2, zz3]
      go_simp
      refine hK.out _ _ (by first | exact s8 | exact s9) (fun hHeld => ?_)
      clear hK K
      try simp (maxSteps := 2000000) only [zz1, zz2, zz3, Act.put, zz4, zz5, zz6]
      refine wpAnyH_take (i := 24) (v := ?_) rfl (by kernel_rfl) (by kernel_rfl) (by kernel_rfl) (fun _ _ _ h => h) (Or.inl ⟨by first | kernel_rfl | rfl, ?_⟩) (by assumption) ?_
      rotate_left
      · (intro wq hSw; (try dsimp only at hSw); (try simp (maxSteps := 2000000) only [zz1, zz2, zz3]); go_simp); try with_reducible rfl
      try simp (maxSteps := 2000000) only [zz1, zz2, zz3, Act.put, zz4, zz5, zz6]
      refine wpAnyH_done (by kernel_rfl) ?_ _
      go_wp2_with fail
      have hld := run_loadS hb2 hyl
      refine bodyPost_ret (v := .tuple #[.agg (shC y), .bool false]) (results_cellS Tryz.results139 _ _ _ _ _ rfl rfl hld) rfl ?_
      exact ⟨hw9, y, false, rfl, HY.out, .inr ⟨rfl, HRD.out⟩⟩
    · have his := shis_any (w := W8.drew) (r := r) (i := i) HY.out
      unfold refC at his
      obtain ⟨B, hB⟩ : ∃ B, isB y r i = B := ⟨_, rfl⟩
      rw [hB] at his hsome
      clear HCASE
      cases B with
      | false =>
        have HRD := Lib.hid (show rdS st k r i = none by rw [HRX.out, hsome, if_neg (by simp)])
        have hsz : True := trivial
        clear hsome hB
        refine wp_region_held_drew (S := fun w' => BoxAt w' q (shC y) ∧ BoxAt w' s (setC a cb r)) (by kernel_rfl) (by first | exact s8 | exact s10 | exact s9) (fun hHeld => ?_)
        refine wpAnyH_take (i := 0) (v := ?_) rfl (by kernel_rfl) (by kernel_rfl) (by kernel_rfl) (fun _ _ _ h => h) (Or.inl ⟨by first | kernel_rfl | rfl, ?_⟩) (by assumption) ?_
        rotate_left
        · (intro wq hSw; (try dsimp only at hSw); (try simp (maxSteps := 2000000) only [zz1, zz2, zz3]); go_simp); try with_reducible rfl
        try simp (maxSteps := 2000000) only [zz1, zz2, zz3, Act.put, zz4, zz5, zz6]
        refine wpAnyH_take (i := 1) (v := ?_) rfl (by kernel_rfl) (by kernel_rfl) (by kernel_rfl) (fun _ _ _ h => h) (Or.inl ⟨by first | kernel_rfl | rfl, ?_⟩) (by assumption) ?_
        rotate_left
        · (intro wq hSw; (try dsimp only at hSw); (try simp (maxSteps := 2000000) only [zz1, zz2, zz3]); go_simp); try with_reducible rfl
        try simp (maxSteps := 2000000) only [zz1, zz2, zz3, Act.put, zz4, zz5, zz6]
        refine wpAnyH_take (i := 2) (v := ?_) rfl (by kernel_rfl) (by kernel_rfl) (by kernel_rfl) (fun _ _ _ h => h) (Or.inl ⟨by first | kernel_rfl | rfl, ?_⟩) (by assumption) ?_
        rotate_left
        · (intro wq hSw; (try dsimp only at hSw); (try simp (maxSteps := 2000000) only [zz1, zz2, zz3]); go_simp); try with_reducible rfl
        try simp (maxSteps := 2000000) only [zz1, zz2, zz3, Act.put, zz4, zz5, zz6]
        refine wpAnyH_take (i := 3) (v := ?_) rfl (by kernel_rfl) (by kernel_rfl) (by kernel_rfl) (fun _ _ _ h => h) (Or.inl ⟨by first | kernel_rfl | rfl, ?_⟩) (by assumption) ?_
        rotate_left
        · (intro wq hSw; (try dsimp only at hSw); (try simp (maxSteps := 2000000) only [zz1, zz2, zz3]); go_simp); try with_reducible rfl
        try simp (maxSteps := 2000000) only [zz1, zz2, zz3, Act.put, zz4, zz5, zz6]
        refine wpAnyH_take (i := 4) (v := ?_) rfl (by kernel_rfl) (by kernel_rfl) (by kernel_rfl) (fun _ _ _ h => h) (Or.inl ⟨by first | kernel_rfl | rfl, ?_⟩) (by assumption) ?_
        rotate_left
        · (intro wq hSw; (try dsimp only at hSw); (try simp (maxSteps := 2000000) only [zz1, zz2, zz3]); go_simp); try with_reducible rfl
        try simp (maxSteps := 2000000) only [zz1, zz2, zz3, Act.put, zz4, zz5, zz6]
        refine wpAnyH_take (i := 5) (v := ?_) rfl (by kernel_rfl) (by kernel_rfl) (by kernel_rfl) (fun _ _ _ h => h) (Or.inl ⟨by first | kernel_rfl | rfl, ?_⟩) (by assumption) ?_
        rotate_left
        · (intro wq hSw; (try dsimp only at hSw); (try simp (maxSteps := 2000000) only [zz1, zz2, zz3]); go_simp); try with_reducible rfl
        try simp (maxSteps := 2000000) only [zz1, zz2, zz3, Act.put, zz4, zz5, zz6]
        refine wpAnyH_take (i := 6) (v := ?_) rfl (by kernel_rfl) (by kernel_rfl) (by kernel_rfl) (fun _ _ _ h => h) (Or.inl ⟨by first | kernel_rfl | rfl, ?_⟩) (by assumption) ?_
        rotate_left
        · (intro wq hSw; (try dsimp only at hSw); (try simp (maxSteps := 2000000) only [zz1, zz2, zz3]); go_simp); try with_reducible rfl
        try simp (maxSteps := 2000000) only [zz1, zz2, zz3, Act.put, zz4, zz5, zz6]
        refine wpAnyH_take (i := 7) (v := ?_) rfl (by kernel_rfl) (by kernel_rfl) (by kernel_rfl) (fun _ _ _ h => h) (Or.inl ⟨by first | kernel_rfl | rfl, ?_⟩) (by assumption) ?_
        rotate_left
        · (intro wq hSw; (try dsimp only at hSw); (try simp (maxSteps := 2000000) only [zz1, zz2, zz3]); go_simp); try with_reducible rfl
        try simp (maxSteps := 2000000) only [zz1, zz2, zz3, Act.put, zz4, zz5, zz6]
        refine wpAnyH_take (i := 8) (v := ?_) rfl (by kernel_rfl) (by kernel_rfl) (by kernel_rfl) (fun _ _ _ h => h) (Or.inl ⟨by first | kernel_rfl | rfl, ?_⟩) (by assumption) ?_
        rotate_left
        · (intro wq hSw; (try dsimp only at hSw); (try simp (maxSteps := 2000000) only [zz1, zz2, zz3]); go_simp); try with_reducible rfl
        try simp (maxSteps := 2000000) only [zz1, zz2, zz3, Act.put, zz4, zz5, zz6]
        refine wpAnyH_take (i := 9) (v := ?_) rfl (by kernel_rfl) (by kernel_rfl) (by kernel_rfl) (fun _ _ _ h => h) (Or.inl ⟨by first | kernel_rfl | rfl, ?_⟩) (by assumption) ?_
        rotate_left
        · (intro wq hSw; (try dsimp only at hSw); (try simp (maxSteps := 2000000) only [zz1, zz2, zz3]); go_simp); try with_reducible rfl
        try simp (maxSteps := 2000000) only [zz1, zz2, zz3, Act.put, zz4, zz5, zz6]
        refine wpAnyH_ready (rs := [10]) (by kernel_rfl) (by simp) ?_
        refine AllReadyH.cons rfl (fun K hK => ?_) AllReadyH.nil
        try simp (maxSteps := 2000000) only [zz1, zz2, zz3]
        go_simp
        go_at_call 171
        refine his.mono ?_
        clear his
        rintro e w9 ⟨rfl, hb9⟩
        have bP9 := bPd.below hb9
        have bQ9 := bQd.below hb9
        have bS9 := bSd.below hb9
        have hw9 := hw8d.trans (hb9.mono hw8d.size)
        have s9 : BoxAt w9 q (shC y) ∧ BoxAt w9 s (setC a cb r) := ⟨bQ9, bS9⟩
        have hst := run_storeS (y := y) bP9 sh0_ok.l hyl
        have hb2 := shC_set (y := y) bP9 sh0_ok.l hyl
        have bQ2 := bQ9.keep (setCells_other _ p 0 q (shV y) hpq.symm)
        have bS2 := bS9.keep (setCells_other _ p 0 s (shV y) hps.symm)
        have hw10 := setS_below hw9 hpw (shV y)
        obtain ⟨W10, hW10⟩ : ∃ W, w9.setCells p 0 (shV y) = W := ⟨_, rfl⟩
        rw [hW10] at hst hb2 bQ2 bS2 hw10
        have s10 : BoxAt W10 q (shC y) ∧ BoxAt W10 s (setC a cb r) := ⟨bQ2, bS2⟩
        try (go_wp2_with fail)
        refine hK.out _ _ (by first | exact s8 | exact s10 | exact s9) (fun hHeld => ?_)
        clear hK K
        try simp (maxSteps := 2000000) only [zz1, zz2, zz3, Act.put, zz4, zz5, zz6]
        refine wpAnyH_take (i := 11) (v := ?_) rfl (by kernel_rfl) (by kernel_rfl) (by kernel_rfl) (fun _ _ _ h => h) (Or.inl ⟨by first | kernel_rfl | rfl, ?_⟩) (by assumption) ?_
        rotate_left
        · (intro wq hSw; (try dsimp only at hSw); (try simp (maxSteps := 2000000) only [zz1, zz2, zz3]); go_simp); try with_reducible rfl
        try simp (maxSteps := 2000000) only [zz1, zz2, zz3, Act.put, zz4, zz5, zz6]
        refine wpAnyH_take (i := 12) (v := ?_) rfl (by kernel_rfl) (by kernel_rfl) (by kernel_rfl) (fun _ _ _ h => h) (Or.inl ⟨by first | kernel_rfl | rfl, ?_⟩) (by assumption) ?_
        rotate_left
        · (intro wq hSw; (try dsimp only at hSw); (try simp (maxSteps := 2000000) only [zz1, zz2, zz3]); go_simp); try with_reducible rfl
        try simp (maxSteps := 2000000) only [zz1, zz2, zz3, Act.put, zz4, zz5, zz6]
        refine wpAnyH_take (i := 13) (v := undef) rfl (by kernel_rfl) (by kernel_rfl) (by kernel_rfl) (fun _ _ _ h => h) (Or.inr ⟨by first | kernel_rfl | rfl, rfl⟩) (by assumption) ?_
        try simp (maxSteps := 2000000) only [zz1, zz2, zz3, Act.put, zz4, zz5, zz6]
        refine wpAnyH_take (i := 14) (v := undef) rfl (by kernel_rfl) (by kernel_rfl) (by kernel_rfl) (fun _ _ _ h => h) (Or.inr ⟨by first | kernel_rfl | rfl, rfl⟩) (by assumption) ?_
        try simp (maxSteps := 2000000) only [zz1, zz2, zz3, Act.put, zz4, zz5, zz6]
        refine wpAnyH_take (i := 15) (v := undef) rfl (by kernel_rfl) (by kernel_rfl) (by kernel_rfl) (fun _ _ _ h => h) (Or.inr ⟨by first | kernel_rfl | rfl, rfl⟩) (by assumption) ?_
        try simp (maxSteps := 2000000) only [zz1, zz2, zz3, Act.put, zz4, zz5, zz6]
        refine wpAnyH_take (i := 16) (v := undef) rfl (by kernel_rfl) (by kernel_rfl) (by kernel_rfl) (fun _ _ _ h => h) (Or.inr ⟨by first | kernel_rfl | rfl, rfl⟩) (by assumption) ?_
        try simp (maxSteps := 2000000) only [zz1, zz2, zz3, Act.put, zz4, zz5, zz6]
        refine wpAnyH_take (i := 17) (v := undef) rfl (by kernel_rfl) (by kernel_rfl) (by kernel_rfl) (fun _ _ _ h => h) (Or.inr ⟨by first | kernel_rfl | rfl, rfl⟩) (by assumption) ?_
        try simp (maxSteps := 2000000) only [zz1, zz2, zz3, Act.put, zz4, zz5, zz6]
        refine wpAnyH_take (i := 18) (v := undef) rfl (by kernel_rfl) (by kernel_rfl) (by kernel_rfl) (fun _ _ _ h => h) (Or.inr ⟨by first | kernel_rfl | rfl, rfl⟩) (by assumption) ?_
        try simp (maxSteps := 2000000) only [zz1, zz2, zz3, Act.put, zz4, zz5, zz6]
        refine wpAnyH_take (i := 19) (v := undef) rfl (by kernel_rfl) (by kernel_rfl) (by kernel_rfl) (fun _ _ _ h => h) (Or.inr ⟨by first | kernel_rfl | rfl, rfl⟩) (by assumption) ?_
        try simp (maxSteps := 2000000) only [zz1, zz2, zz3, Act.put, zz4, zz5, zz6]
        refine wpAnyH_take (i := 20) (v := undef) rfl (by kernel_rfl) (by kernel_rfl) (by kernel_rfl) (fun _ _ _ h => h) (Or.inr ⟨by first | kernel_rfl | rfl, rfl⟩) (by assumption) ?_
        try simp (maxSteps := 2000000) only [zz1, zz2, zz3, Act.put, zz4, zz5, zz6]
        refine wpAnyH_take (i := 21) (v := undef) rfl (by kernel_rfl) (by kernel_rfl) (by kernel_rfl) (fun _ _ _ h => h) (Or.inr ⟨by first | kernel_rfl | rfl, rfl⟩) (by assumption) ?_
        try simp (maxSteps := 2000000) only [zz1, zz2, zz3, Act.put, zz4, zz5, zz6]
        refine wpAnyH_take (i := 22) (v := ?_) rfl (by kernel_rfl) (by kernel_rfl) (by kernel_rfl) (fun _ _ _ h => h) (Or.inl ⟨by first | kernel_rfl | rfl, ?_⟩) (by assumption) ?_
        rotate_left
        · (intro wq hSw; (try dsimp only at hSw); (try simp (maxSteps := 2000000) only [zz1, zz2, zz3]); go_simp); try with_reducible rfl
        try simp (maxSteps := 2000000) only [zz1, zz2, zz3, Act.put, zz4, zz5, zz6]
        refine wpAnyH_ready (rs := [23]) (by kernel_rfl) (by simp) ?_
        refine AllReadyH.cons rfl (fun K hK => ?_) AllReadyH.nil
        try simp (maxSteps := 2000000) only [zz1, zz2, zz3]
        go_simp
        refine hK.out _ _ (by first | exact s8 | exact s10 | exact s9) (fun hHeld => ?_)
        clear hK K
        try simp (maxSteps := 2000000) only [zz1, zz2, zz3, Act.put, zz4, zz5, zz6]
        refine wpAnyH_take (i := 24) (v := ?_) rfl (by kernel_rfl) (by kernel_rfl) (by kernel_rfl) (fun _ _ _ h => h) (Or.inl ⟨by first | kernel_rfl | rfl, ?_⟩) (by assumption) ?_
        rotate_left
        · (intro wq hSw; (try dsimp only at hSw); (try simp (maxSteps := 2000000) only [zz1, zz2, zz3]); go_simp); try with_reducible rfl
        try simp (maxSteps := 2000000) only [zz1, zz2, zz3, Act.put, zz4, zz5, zz6]
        refine wpAnyH_done (by kernel_rfl) ?_ _
        go_wp2_with fail
        have hld := run_loadS hb2 hyl
        refine bodyPost_ret (v := .tuple #[.agg (shC y), .bool false]) (results_cellS Tryz.results139 _ _ _ _ _ rfl (by first | rfl | (simp [hsz]; done) | (simp; omega)) hld) rfl ?_
        exact ⟨hw10, y, false, rfl, HY.out, .inr ⟨rfl, HRD.out⟩⟩
      | true =>
        have hyp := HY.out.s
        have z0 : (0 : Int) ≤ (y.size : Int) := Int.natCast_nonneg _
        have z1 : (y.size : Int) < 65536 := by omega
        have pw : IntKind.i64.wrap (y.size : Int) = (y.size : Int) := by rw [IntKind.wrap_i64]; omega
        have hro := fun w' (h : Below w.heap.size w w') => room_any (HCH.out.below h)
        by_cases hsz0 : y.size ≤ k * 44
        · have HRD := Lib.hid (show rdS st k r i = some y by rw [HRX.out, hsome, if_pos ⟨rfl, hsz0⟩])
          have hsz : (y.size : Int) ≤ ((k * 44 : Nat) : Int) := by omega
          clear hsome hB hsz0
          obtain ⟨rm, hrm⟩ : ∃ rm, k * 44 = rm := ⟨_, rfl⟩
          rw [hrm] at hsz
          simp only [hrm] at hro
          clear hrm
          refine wp_region_held_drew (S := fun w' => BoxAt w' q (shC y) ∧ BoxAt w' s (setC a cb r)) (by kernel_rfl) (by first | exact s8 | exact s10 | exact s9) (fun hHeld => ?_)
          refine wpAnyH_take (i := 0) (v := ?_) rfl (by kernel_rfl) (by kernel_rfl) (by kernel_rfl) (fun _ _ _ h => h) (Or.inl ⟨by first | kernel_rfl | rfl, ?_⟩) (by assumption) ?_
          rotate_left
          · (intro wq hSw; (try dsimp only at hSw); (try simp (maxSteps := 2000000) only [zz1, zz2, zz3]); go_simp); try with_reducible rfl
          try simp (maxSteps := 2000000) only [zz1, zz2, zz3, Act.put, zz4, zz5, zz6]
          refine wpAnyH_take (i := 1) (v := ?_) rfl (by kernel_rfl) (by kernel_rfl) (by kernel_rfl) (fun _ _ _ h => h) (Or.inl ⟨by first | kernel_rfl | rfl, ?_⟩) (by assumption) ?_
          rotate_left
          · (intro wq hSw; (try dsimp only at hSw); (try simp (maxSteps := 2000000) only [zz1, zz2, zz3]); go_simp); try with_reducible rfl
          try simp (maxSteps := 2000000) only [zz1, zz2, zz3, Act.put, zz4, zz5, zz6]
          refine wpAnyH_take (i := 2) (v := ?_) rfl (by kernel_rfl) (by kernel_rfl) (by kernel_rfl) (fun _ _ _ h => h) (Or.inl ⟨by first | kernel_rfl | rfl, ?_⟩) (by assumption) ?_
          rotate_left
          · (intro wq hSw; (try dsimp only at hSw); (try simp (maxSteps := 2000000) only [zz1, zz2, zz3]); go_simp); try with_reducible rfl
          try simp (maxSteps := 2000000) only [zz1, zz2, zz3, Act.put, zz4, zz5, zz6]
          refine wpAnyH_take (i := 3) (v := ?_) rfl (by kernel_rfl) (by kernel_rfl) (by kernel_rfl) (fun _ _ _ h => h) (Or.inl ⟨by first | kernel_rfl | rfl, ?_⟩) (by assumption) ?_
          rotate_left
          · (intro wq hSw; (try dsimp only at hSw); (try simp (maxSteps := 2000000) only [zz1, zz2, zz3]); go_simp); try with_reducible rfl
          try simp (maxSteps := 2000000) only [zz1, zz2, zz3, Act.put, zz4, zz5, zz6]
          refine wpAnyH_take (i := 4) (v := ?_) rfl (by kernel_rfl) (by kernel_rfl) (by kernel_rfl) (fun _ _ _ h => h) (Or.inl ⟨by first | kernel_rfl | rfl, ?_⟩) (by assumption) ?_
          rotate_left
          · (intro wq hSw; (try dsimp only at hSw); (try simp (maxSteps := 2000000) only [zz1, zz2, zz3]); go_simp); try with_reducible rfl
          try simp (maxSteps := 2000000) only [zz1, zz2, zz3, Act.put, zz4, zz5, zz6]
          refine wpAnyH_take (i := 5) (v := ?_) rfl (by kernel_rfl) (by kernel_rfl) (by kernel_rfl) (fun _ _ _ h => h) (Or.inl ⟨by first | kernel_rfl | rfl, ?_⟩) (by assumption) ?_
          rotate_left
          · (intro wq hSw; (try dsimp only at hSw); (try simp (maxSteps := 2000000) only [zz1, zz2, zz3]); go_simp); try with_reducible rfl
          try simp (maxSteps := 2000000) only [zz1, zz2, zz3, Act.put, zz4, zz5, zz6]
          refine wpAnyH_take (i := 6) (v := ?_) rfl (by kernel_rfl) (by kernel_rfl) (by kernel_rfl) (fun _ _ _ h => h) (Or.inl ⟨by first | kernel_rfl | rfl, ?_⟩) (by assumption) ?_
          rotate_left
          · (intro wq hSw; (try dsimp only at hSw); (try simp (maxSteps := 2000000) only [zz1, zz2, zz3]); go_simp); try with_reducible rfl
          try simp (maxSteps := 2000000) only [zz1, zz2, zz3, Act.put, zz4, zz5, zz6]
          refine wpAnyH_take (i := 7) (v := ?_) rfl (by kernel_rfl) (by kernel_rfl) (by kernel_rfl) (fun _ _ _ h => h) (Or.inl ⟨by first | kernel_rfl | rfl, ?_⟩) (by assumption) ?_
          rotate_left
          · (intro wq hSw; (try dsimp only at hSw); (try simp (maxSteps := 2000000) only [zz1, zz2, zz3]); go_simp); try with_reducible rfl
          try simp (maxSteps := 2000000) only [zz1, zz2, zz3, Act.put, zz4, zz5, zz6]
          refine wpAnyH_take (i := 8) (v := ?_) rfl (by kernel_rfl) (by kernel_rfl) (by kernel_rfl) (fun _ _ _ h => h) (Or.inl ⟨by first | kernel_rfl | rfl, ?_⟩) (by assumption) ?_
          rotate_left
          · (intro wq hSw; (try dsimp only at hSw); (try simp (maxSteps := 2000000) only [zz1, zz2, zz3]); go_simp); try with_reducible rfl
          try simp (maxSteps := 2000000) only [zz1, zz2, zz3, Act.put, zz4, zz5, zz6]
          refine wpAnyH_take (i := 9) (v := ?_) rfl (by kernel_rfl) (by kernel_rfl) (by kernel_rfl) (fun _ _ _ h => h) (Or.inl ⟨by first | kernel_rfl | rfl, ?_⟩) (by assumption) ?_
          rotate_left
          · (intro wq hSw; (try dsimp only at hSw); (try simp (maxSteps := 2000000) only [zz1, zz2, zz3]); go_simp); try with_reducible rfl
          try simp (maxSteps := 2000000) only [zz1, zz2, zz3, Act.put, zz4, zz5, zz6]
          refine wpAnyH_ready (rs := [10]) (by kernel_rfl) (by simp) ?_
          refine AllReadyH.cons rfl (fun K hK => ?_) AllReadyH.nil
          try simp (maxSteps := 2000000) only [zz1, zz2, zz3]
          go_simp
          go_at_call 171
          refine his.mono ?_
          clear his
          rintro e w9 ⟨rfl, hb9⟩
          have bP9 := bPd.below hb9
          have bQ9 := bQd.below hb9
          have bS9 := bSd.below hb9
          have hw9 := hw8d.trans (hb9.mono hw8d.size)
          have s9 : BoxAt w9 q (shC y) ∧ BoxAt w9 s (setC a cb r) := ⟨bQ9, bS9⟩
          try (go_wp2_with fail)
          refine hK.out _ _ (by first | exact s8 | exact s10 | exact s9) (fun hHeld => ?_)
          clear hK K
          try simp (maxSteps := 2000000) only [zz1, zz2, zz3, Act.put, zz4, zz5, zz6]
          refine wpAnyH_take (i := 11) (v := ?_) rfl (by kernel_rfl) (by kernel_rfl) (by kernel_rfl) (fun _ _ _ h => h) (Or.inl ⟨by first | kernel_rfl | rfl, ?_⟩) (by assumption) ?_
          rotate_left
          · (intro wq hSw; (try dsimp only at hSw); (try simp (maxSteps := 2000000) only [zz1, zz2, zz3]); go_simp); try with_reducible rfl
          try simp (maxSteps := 2000000) only [zz1, zz2, zz3, Act.put, zz4, zz5, zz6]
          refine wpAnyH_take (i := 12) (v := ?_) rfl (by kernel_rfl) (by kernel_rfl) (by kernel_rfl) (fun _ _ _ h => h) (Or.inl ⟨by first | kernel_rfl | rfl, ?_⟩) (by assumption) ?_
          rotate_left
          · (intro wq hSw; (try dsimp only at hSw); (try simp (maxSteps := 2000000) only [zz1, zz2, zz3]); go_simp); try with_reducible rfl
          try simp (maxSteps := 2000000) only [zz1, zz2, zz3, Act.put, zz4, zz5, zz6]
          refine wpAnyH_take (i := 13) (v := ?_) rfl (by kernel_rfl) (by kernel_rfl) (by kernel_rfl) (fun _ _ _ h => h) (Or.inl ⟨by first | kernel_rfl | rfl, ?_⟩) (by assumption) ?_
          rotate_left
          · (intro wq hSw; (try dsimp only at hSw); (try simp (maxSteps := 2000000) only [zz1, zz2, zz3]); go_simp); try with_reducible rfl
          try simp (maxSteps := 2000000) only [zz1, zz2, zz3, Act.put, zz4, zz5, zz6]
          refine wpAnyH_take (i := 14) (v := ?_) rfl (by kernel_rfl) (by kernel_rfl) (by kernel_rfl) (fun _ _ _ h => h) (Or.inl ⟨by first | kernel_rfl | rfl, ?_⟩) (by assumption) ?_
          rotate_left
          · (intro wq hSw; (try dsimp only at hSw); (try simp (maxSteps := 2000000) only [zz1, zz2, zz3]); go_simp); try with_reducible rfl
          try simp (maxSteps := 2000000) only [zz1, zz2, zz3, Act.put, zz4, zz5, zz6]
          refine wpAnyH_take (i := 15) (v := ?_) rfl (by kernel_rfl) (by kernel_rfl) (by kernel_rfl) (fun _ _ _ h => h) (Or.inl ⟨by first | kernel_rfl | rfl, ?_⟩) (by assumption) ?_
          rotate_left
          · (intro wq hSw; (try dsimp only at hSw); (try simp (maxSteps := 2000000) only [zz1, zz2, zz3]); go_simp); try with_reducible rfl
          try simp (maxSteps := 2000000) only [zz1, zz2, zz3, Act.put, zz4, zz5, zz6]
          refine wpAnyH_take (i := 16) (v := ?_) rfl (by kernel_rfl) (by kernel_rfl) (by kernel_rfl) (fun _ _ _ h => h) (Or.inl ⟨by first | kernel_rfl | rfl, ?_⟩) (by assumption) ?_
          rotate_left
          · (intro wq hSw; (try dsimp only at hSw); (try simp (maxSteps := 2000000) only [zz1, zz2, zz3]); go_simp); try with_reducible rfl
          try simp (maxSteps := 2000000) only [zz1, zz2, zz3, Act.put, zz4, zz5, zz6]
          refine wpAnyH_take (i := 17) (v := ?_) rfl (by kernel_rfl) (by kernel_rfl) (by kernel_rfl) (fun _ _ _ h => h) (Or.inl ⟨by first | kernel_rfl | rfl, ?_⟩) (by assumption) ?_
          rotate_left
          · (intro wq hSw; (try dsimp only at hSw); (try simp (maxSteps := 2000000) only [zz1, zz2, zz3]); go_simp); try with_reducible rfl
          try simp (maxSteps := 2000000) only [zz1, zz2, zz3, Act.put, zz4, zz5, zz6]
          refine wpAnyH_take (i := 18) (v := ?_) rfl (by kernel_rfl) (by kernel_rfl) (by kernel_rfl) (fun _ _ _ h => h) (Or.inl ⟨by first | kernel_rfl | rfl, ?_⟩) (by assumption) ?_
          rotate_left
          · (intro wq hSw; (try dsimp only at hSw); (try simp (maxSteps := 2000000) only [zz1, zz2, zz3]); go_simp); try with_reducible rfl
          try simp (maxSteps := 2000000) only [zz1, zz2, zz3, Act.put, zz4, zz5, zz6]
          refine wpAnyH_take (i := 19) (v := ?_) rfl (by kernel_rfl) (by kernel_rfl) (by kernel_rfl) (fun _ _ _ h => h) (Or.inl ⟨by first | kernel_rfl | rfl, ?_⟩) (by assumption) ?_
          rotate_left
          · (intro wq hSw; (try dsimp only at hSw); (try simp (maxSteps := 2000000) only [zz1, zz2, zz3]); go_simp); try with_reducible rfl
          try simp (maxSteps := 2000000) only [zz1, zz2, zz3, Act.put, zz4, zz5, zz6]
          refine wpAnyH_ready (rs := [20]) (by kernel_rfl) (by simp) ?_
          refine AllReadyH.cons rfl (fun K hK => ?_) AllReadyH.nil
          try simp (maxSteps := 2000000) only [zz1, zz2, zz3]
          go_simp
          go_at_call 93
          refine (hro _ hw9).mono ?_
          clear hro
          rintro e w11 ⟨rfl, hw11⟩
          rw [hw11]
          clear hw11
          have hst := run_storeS (y := y) bP9 sh0_ok.l hyl
          have hb2 := shC_set (y := y) bP9 sh0_ok.l hyl
          have bQ2 := bQ9.keep (setCells_other _ p 0 q (shV y) hpq.symm)
          have bS2 := bS9.keep (setCells_other _ p 0 s (shV y) hps.symm)
          have hw10 := setS_below hw9 hpw (shV y)
          obtain ⟨W10, hW10⟩ : ∃ W, w9.setCells p 0 (shV y) = W := ⟨_, rfl⟩
          rw [hW10] at hst hb2 bQ2 bS2 hw10
          have s10 : BoxAt W10 q (shC y) ∧ BoxAt W10 s (setC a cb r) := ⟨bQ2, bS2⟩
          try (go_wp2_with fail)
          refine hK.out _ _ (by first | exact s8 | exact s10 | exact s9) (fun hHeld => ?_)
          clear hK K
          try simp (maxSteps := 2000000) only [zz1, zz2, zz3, Act.put, zz4, zz5, zz6]
          refine wpAnyH_take (i := 21) (v := ?_) rfl (by kernel_rfl) (by kernel_rfl) (by kernel_rfl) (fun _ _ _ h => h) (Or.inl ⟨by first | kernel_rfl | rfl, ?_⟩) (by assumption) ?_
          rotate_left
          · (intro wq hSw; (try dsimp only at hSw); (try simp (maxSteps := 2000000) only [zz1, zz2, zz3]); go_simp); try with_reducible rfl
          try simp (maxSteps := 2000000) only [zz1, zz2, zz3, Act.put, zz4, zz5, zz6]
          refine wpAnyH_take (i := 22) (v := ?_) rfl (by kernel_rfl) (by kernel_rfl) (by kernel_rfl) (fun _ _ _ h => h) (Or.inl ⟨by first | kernel_rfl | rfl, ?_⟩) (by assumption) ?_
          rotate_left
          · (intro wq hSw; (try dsimp only at hSw); (try simp (maxSteps := 2000000) only [zz1, zz2, zz3]); go_simp); try with_reducible rfl
          try simp (maxSteps := 2000000) only [zz1, zz2, zz3, Act.put, zz4, zz5, zz6]
          refine wpAnyH_ready (rs := [23]) (by kernel_rfl) (by simp) ?_
          refine AllReadyH.cons rfl (fun K hK => ?_) AllReadyH.nil
          try simp (maxSteps := 2000000) only [zz1, zz2, zz3]
          go_simp
          refine hK.out _ _ (by first | exact s8 | exact s10 | exact s9) (fun hHeld => ?_)
          clear hK K
          try simp (maxSteps := 2000000) only [zz1, zz2, zz3, Act.put, zz4, zz5, zz6]
          refine wpAnyH_take (i := 24) (v := ?_) rfl (by kernel_rfl) (by kernel_rfl) (by kernel_rfl) (fun _ _ _ h => h) (Or.inl ⟨by first | kernel_rfl | rfl, ?_⟩) (by assumption) ?_
          rotate_left
          · (intro wq hSw; (try dsimp only at hSw); (try simp (maxSteps := 2000000) only [zz1, zz2, zz3]); go_simp); try with_reducible rfl
          try simp (maxSteps := 2000000) only [zz1, zz2, zz3, Act.put, zz4, zz5, zz6]
          refine wpAnyH_done (by kernel_rfl) ?_ _
          go_wp2_with fail
          have hld := run_loadS hb2 hyl
          refine bodyPost_ret (v := .tuple #[.agg (shC y), .bool true]) (results_cellS Tryz.results139 _ _ _ _ _ rfl (by first | rfl | (simp [hsz]; done) | (simp; omega)) hld) rfl ?_
          exact ⟨hw10, y, true, rfl, HY.out, .inl ⟨rfl, HRD.out⟩⟩
        · have HRD := Lib.hid (show rdS st k r i = none by rw [HRX.out, hsome, if_neg (fun h => hsz0 h.2)])
          have hsz : ¬ (y.size : Int) ≤ ((k * 44 : Nat) : Int) := by omega
          clear hsome hB hsz0
          obtain ⟨rm, hrm⟩ : ∃ rm, k * 44 = rm := ⟨_, rfl⟩
          rw [hrm] at hsz
          simp only [hrm] at hro
          clear hrm
          refine wp_region_held_drew (S := fun w' => BoxAt w' q (shC y) ∧ BoxAt w' s (setC a cb r)) (by kernel_rfl) (by first | exact s8 | exact s10 | exact s9) (fun hHeld => ?_)
          refine wpAnyH_take (i := 0) (v := ?_) rfl (by kernel_rfl) (by kernel_rfl) (by kernel_rfl) (fun _ _ _ h => h) (Or.inl ⟨by first | kernel_rfl | rfl, ?_⟩) (by assumption) ?_
          rotate_left
          · (intro wq hSw; (try dsimp only at hSw); (try simp (maxSteps := 2000000) only [zz1, zz2, zz3]); go_simp); try with_reducible rfl
          try simp (maxSteps := 2000000) only [zz1, zz2, zz3, Act.put, zz4, zz5, zz6]
          refine wpAnyH_take (i := 1) (v := ?_) rfl (by kernel_rfl) (by kernel_rfl) (by kernel_rfl) (fun _ _ _ h => h) (Or.inl ⟨by first | kernel_rfl | rfl, ?_⟩) (by assumption) ?_
          rotate_left
          · (intro wq hSw; (try dsimp only at hSw); (try simp (maxSteps := 2000000) only [zz1, zz2, zz3]); go_simp); try with_reducible rfl
          try simp (maxSteps := 2000000) only [zz1, zz2, zz3, Act.put, zz4, zz5, zz6]
          refine wpAnyH_take (i := 2) (v := ?_) rfl (by kernel_rfl) (by kernel_rfl) (by kernel_rfl) (fun _ _ _ h => h) (Or.inl ⟨by first | kernel_rfl | rfl, ?_⟩) (by assumption) ?_
          rotate_left
          · (intro wq hSw; (try dsimp only at hSw); (try simp (maxSteps := 2000000) only [zz1, zz2, zz3]); go_simp); try with_reducible rfl
          try simp (maxSteps := 2000000) only [zz1, zz2, zz3, Act.put, zz4, zz5, zz6]
          refine wpAnyH_take (i := 3) (v := ?_) rfl (by kernel_rfl) (by kernel_rfl) (by kernel_rfl) (fun _ _ _ h => h) (Or.inl ⟨by first | kernel_rfl | rfl, ?_⟩) (by assumption) ?_
          rotate_left
          · (intro wq hSw; (try dsimp only at hSw); (try simp (maxSteps := 2000000) only [zz1, zz2, zz3]); go_simp); try with_reducible rfl
          try simp (maxSteps := 2000000) only [zz1, zz2, zz3, Act.put, zz4, zz5, zz6]
          refine wpAnyH_take (i := 4) (v := ?_) rfl (by kernel_rfl) (by kernel_rfl) (by kernel_rfl) (fun _ _ _ h => h) (Or.inl ⟨by first | kernel_rfl | rfl, ?_⟩) (by assumption) ?_
          rotate_left
          · (intro wq hSw; (try dsimp only at hSw); (try simp (maxSteps := 2000000) only [zz1, zz2, zz3]); go_simp); try with_reducible rfl
          try simp (maxSteps := 2000000) only [zz1, zz2, zz3, Act.put, zz4, zz5, zz6]
          refine wpAnyH_take (i := 5) (v := ?_) rfl (by kernel_rfl) (by kernel_rfl) (by kernel_rfl) (fun _ _ _ h => h) (Or.inl ⟨by first | kernel_rfl | rfl, ?_⟩) (by assumption) ?_
          rotate_left
          · (intro wq hSw; (try dsimp only at hSw); (try simp (maxSteps := 2000000) only [zz1, zz2, zz3]); go_simp); try with_reducible rfl
          try simp (maxSteps := 2000000) only [zz1, zz2, zz3, Act.put, zz4, zz5, zz6]
          refine wpAnyH_take (i := 6) (v := ?_) rfl (by kernel_rfl) (by kernel_rfl) (by kernel_rfl) (fun _ _ _ h => h) (Or.inl ⟨by first | kernel_rfl | rfl, ?_⟩) (by assumption) ?_
          rotate_left
          · (intro wq hSw; (try dsimp only at hSw); (try simp (maxSteps := 2000000) only [zz1, zz2, zz3]); go_simp); try with_reducible rfl
          try simp (maxSteps := 2000000) only [zz1, zz2, zz3, Act.put, zz4, zz5, zz6]
          refine wpAnyH_take (i := 7) (v := ?_) rfl (by kernel_rfl) (by kernel_rfl) (by kernel_rfl) (fun _ _ _ h => h) (Or.inl ⟨by first | kernel_rfl | rfl, ?_⟩) (by assumption) ?_
          rotate_left
          · (intro wq hSw; (try dsimp only at hSw); (try simp (maxSteps := 2000000) only [zz1, zz2, zz3]); go_simp); try with_reducible rfl
          try simp (maxSteps := 2000000) only [zz1, zz2, zz3, Act.put, zz4, zz5, zz6]
          refine wpAnyH_take (i := 8) (v := ?_) rfl (by kernel_rfl) (by kernel_rfl) (by kernel_rfl) (fun _ _ _ h => h) (Or.inl ⟨by first | kernel_rfl | rfl, ?_⟩) (by assumption) ?_
          rotate_left
          · (intro wq hSw; (try dsimp only at hSw); (try simp (maxSteps := 2000000) only [zz1, zz2, zz3]); go_simp); try with_reducible rfl
          try simp (maxSteps := 2000000) only [zz1, zz2, zz3, Act.put, zz4, zz5, zz6]
          refine wpAnyH_take (i := 9) (v := ?_) rfl (by kernel_rfl) (by kernel_rfl) (by kernel_rfl) (fun _ _ _ h => h) (Or.inl ⟨by first | kernel_rfl | rfl, ?_⟩) (by assumption) ?_
          rotate_left
          · (intro wq hSw; (try dsimp only at hSw); (try simp (maxSteps := 2000000) only [zz1, zz2, zz3]); go_simp); try with_reducible rfl
          try simp (maxSteps := 2000000) only [zz1, zz2, zz3, Act.put, zz4, zz5, zz6]
          refine wpAnyH_ready (rs := [10]) (by kernel_rfl) (by simp) ?_
          refine AllReadyH.cons rfl (fun K hK => ?_) AllReadyH.nil
          try simp (maxSteps := 2000000) only [zz1, zz2, zz3]
          go_simp
          go_at_call 171
          refine his.mono ?_
          clear his
          rintro e w9 ⟨rfl, hb9⟩
          have bP9 := bPd.below hb9
          have bQ9 := bQd.below hb9
          have bS9 := bSd.below hb9
          have hw9 := hw8d.trans (hb9.mono hw8d.size)
          have s9 : BoxAt w9 q (shC y) ∧ BoxAt w9 s (setC a cb r) := ⟨bQ9, bS9⟩
          try (go_wp2_with fail)
          refine hK.out _ _ (by first | exact s8 | exact s10 | exact s9) (fun hHeld => ?_)
          clear hK K
          try simp (maxSteps := 2000000) only [zz1, zz2, zz3, Act.put, zz4, zz5, zz6]
          refine wpAnyH_take (i := 11) (v := ?_) rfl (by kernel_rfl) (by kernel_rfl) (by kernel_rfl) (fun _ _ _ h => h) (Or.inl ⟨by first | kernel_rfl | rfl, ?_⟩) (by assumption) ?_
          rotate_left
          · (intro wq hSw; (try dsimp only at hSw); (try simp (maxSteps := 2000000) only [zz1, zz2, zz3]); go_simp); try with_reducible rfl
          try simp (maxSteps := 2000000) only [zz1, zz2, zz3, Act.put, zz4, zz5, zz6]
          refine wpAnyH_take (i := 12) (v := ?_) rfl (by kernel_rfl) (by kernel_rfl) (by kernel_rfl) (fun _ _ _ h => h) (Or.inl ⟨by first | kernel_rfl | rfl, ?_⟩) (by assumption) ?_
          rotate_left
          · (intro wq hSw; (try dsimp only at hSw); (try simp (maxSteps := 2000000) only [zz1, zz2, zz3]); go_simp); try with_reducible rfl
          try simp (maxSteps := 2000000) only [zz1, zz2, zz3, Act.put, zz4, zz5, zz6]
          refine wpAnyH_take (i := 13) (v := ?_) rfl (by kernel_rfl) (by kernel_rfl) (by kernel_rfl) (fun _ _ _ h => h) (Or.inl ⟨by first | kernel_rfl | rfl, ?_⟩) (by assumption) ?_
          rotate_left
          · (intro wq hSw; (try dsimp only at hSw); (try simp (maxSteps := 2000000) only [zz1, zz2, zz3]); go_simp); try with_reducible rfl
          try simp (maxSteps := 2000000) only [zz1, zz2, zz3, Act.put, zz4, zz5, zz6]
          refine wpAnyH_take (i := 14) (v := ?_) rfl (by kernel_rfl) (by kernel_rfl) (by kernel_rfl) (fun _ _ _ h => h) (Or.inl ⟨by first | kernel_rfl | rfl, ?_⟩) (by assumption) ?_
          rotate_left
          · (intro wq hSw; (try dsimp only at hSw); (try simp (maxSteps := 2000000) only [zz1, zz2, zz3]); go_simp); try with_reducible rfl
          try simp (maxSteps := 2000000) only [zz1, zz2, zz3, Act.put, zz4, zz5, zz6]
          refine wpAnyH_take (i := 15) (v := ?_) rfl (by kernel_rfl) (by kernel_rfl) (by kernel_rfl) (fun _ _ _ h => h) (Or.inl ⟨by first | kernel_rfl | rfl, ?_⟩) (by assumption) ?_
          rotate_left
          · (intro wq hSw; (try dsimp only at hSw); (try simp (maxSteps := 2000000) only [zz1, zz2, zz3]); go_simp); try with_reducible rfl
          try simp (maxSteps := 2000000) only [zz1, zz2, zz3, Act.put, zz4, zz5, zz6]
          refine wpAnyH_take (i := 16) (v := ?_) rfl (by kernel_rfl) (by kernel_rfl) (by kernel_rfl) (fun _ _ _ h => h) (Or.inl ⟨by first | kernel_rfl | rfl, ?_⟩) (by assumption) ?_
          rotate_left
          · (intro wq hSw; (try dsimp only at hSw); (try simp (maxSteps := 2000000) only [zz1, zz2, zz3]); go_simp); try with_reducible rfl
          try simp (maxSteps := 2000000) only [zz1, zz2, zz3, Act.put, zz4, zz5, zz6]
          refine wpAnyH_take (i := 17) (v := ?_) rfl (by kernel_rfl) (by kernel_rfl) (by kernel_rfl) (fun _ _ _ h => h) (Or.inl ⟨by first | kernel_rfl | rfl, ?_⟩) (by assumption) ?_
          rotate_left
          · (intro wq hSw; (try dsimp only at hSw); (try simp (maxSteps := 2000000) only [zz1, zz2, zz3]); go_simp); try with_reducible rfl
          try simp (maxSteps := 2000000) only [zz1, zz2, zz3, Act.put, zz4, zz5, zz6]
          refine wpAnyH_take (i := 18) (v := ?_) rfl (by kernel_rfl) (by kernel_rfl) (by kernel_rfl) (fun _ _ _ h => h) (Or.inl ⟨by first | kernel_rfl | rfl, ?_⟩) (by assumption) ?_
          rotate_left
          · (intro wq hSw; (try dsimp only at hSw); (try simp (maxSteps := 2000000) only [zz1, zz2, zz3]); go_simp); try with_reducible rfl
          try simp (maxSteps := 2000000) only [zz1, zz2, zz3, Act.put, zz4, zz5, zz6]
          refine wpAnyH_take (i := 19) (v := ?_) rfl (by kernel_rfl) (by kernel_rfl) (by kernel_rfl) (fun _ _ _ h => h) (Or.inl ⟨by first | kernel_rfl | rfl, ?_⟩) (by assumption) ?_
          rotate_left
          · (intro wq hSw; (try dsimp only at hSw); (try simp (maxSteps := 2000000) only [zz1, zz2, zz3]); go_simp); try with_reducible rfl
          try simp (maxSteps := 2000000) only [zz1, zz2, zz3, Act.put, zz4, zz5, zz6]
          refine wpAnyH_ready (rs := [20]) (by kernel_rfl) (by simp) ?_
          refine AllReadyH.cons rfl (fun K hK => ?_) AllReadyH.nil
          try simp (maxSteps := 2000000) only [zz1, zz2, zz3]
          go_simp
          go_at_call 93
          refine (hro _ hw9).mono ?_
          clear hro
          rintro e w11 ⟨rfl, hw11⟩
          rw [hw11]
          clear hw11
          have hst := run_storeS (y := y) bP9 sh0_ok.l hyl
          have hb2 := shC_set (y := y) bP9 sh0_ok.l hyl
          have bQ2 := bQ9.keep (setCells_other _ p 0 q (shV y) hpq.symm)
          have bS2 := bS9.keep (setCells_other _ p 0 s (shV y) hps.symm)
          have hw10 := setS_below hw9 hpw (shV y)
          obtain ⟨W10, hW10⟩ : ∃ W, w9.setCells p 0 (shV y) = W := ⟨_, rfl⟩
          rw [hW10] at hst hb2 bQ2 bS2 hw10
          have s10 : BoxAt W10 q (shC y) ∧ BoxAt W10 s (setC a cb r) := ⟨bQ2, bS2⟩
          try (go_wp2_with fail)
          refine hK.out _ _ (by first | exact s8 | exact s10 | exact s9) (fun hHeld => ?_)
          clear hK K
          try simp (maxSteps := 2000000) only [zz1, zz2, zz3, Act.put, zz4, zz5, zz6]
          refine wpAnyH_take (i := 21) (v := ?_) rfl (by kernel_rfl) (by kernel_rfl) (by kernel_rfl) (fun _ _ _ h => h) (Or.inl ⟨by first | kernel_rfl | rfl, ?_⟩) (by assumption) ?_
          rotate_left
          · (intro wq hSw; (try dsimp only at hSw); (try simp (maxSteps := 2000000) only [zz1, zz2, zz3]); go_simp); try with_reducible rfl
          try simp (maxSteps := 2000000) only [zz1, zz2, zz3, Act.put, zz4, zz5, zz6]
          refine wpAnyH_take (i := 22) (v := ?_) rfl (by kernel_rfl) (by kernel_rfl) (by kernel_rfl) (fun _ _ _ h => h) (Or.inl ⟨by first | kernel_rfl | rfl, ?_⟩) (by assumption) ?_
          rotate_left
          · (intro wq hSw; (try dsimp only at hSw); (try simp (maxSteps := 2000000) only [zz1, zz2, zz3]); go_simp); try with_reducible rfl
          try simp (maxSteps := 2000000) only [zz1, zz2, zz3, Act.put, zz4, zz5, zz6]
          refine wpAnyH_ready (rs := [23]) (by kernel_rfl) (by simp) ?_
          refine AllReadyH.cons rfl (fun K hK => ?_) AllReadyH.nil
          try simp (maxSteps := 2000000) only [zz1, zz2, zz3]
          go_simp
          refine hK.out _ _ (by first | exact s8 | exact s10 | exact s9) (fun hHeld => ?_)
          clear hK K
          try simp (maxSteps := 2000000) only [zz1, zz2, zz3, Act.put, zz4, zz5, zz6]
          refine wpAnyH_take (i := 24) (v := ?_) rfl (by kernel_rfl) (by kernel_rfl) (by kernel_rfl) (fun _ _ _ h => h) (Or.inl ⟨by first | kernel_rfl | rfl, ?_⟩) (by assumption) ?_
          rotate_left
          · (intro wq hSw; (try dsimp only at hSw); (try simp (maxSteps := 2000000) only [zz1, zz2, zz3]); go_simp); try with_reducible rfl
          try simp (maxSteps := 2000000) only [zz1, zz2, zz3, Act.put, zz4, zz5, zz6]
          refine wpAnyH_done (by kernel_rfl) ?_ _
          go_wp2_with fail
          have hld := run_loadS hb2 hyl
          refine bodyPost_ret (v := .tuple #[.agg (shC y), .bool false]) (results_cellS Tryz.results139 _ _ _ _ _ rfl (by first | rfl | (simp [hsz]; done) | (simp; omega)) hld) rfl ?_
          exact ⟨hw10, y, false, rfl, HY.out, .inr ⟨rfl, HRD.out⟩⟩
end
end
section
/-- The whole shards among the first, and the stripe's length. -/
def wholeF (R : Nat → Option Shd) : Nat → List (Nat × Shd) × Nat
  | 0 => ([], 0)
  | i + 1 => match R i with
    | none => wholeF R i
    | some x => if 0 < (wholeF R i).1.length ∧ x.size ≠ (wholeF R i).2 then wholeF R i else ((wholeF R i).1 ++ [(i, x)], x.size)
def mapE (l : List (Nat × Shd)) : List (Int × Value) := l.map fun p => ((p.1 : Int), Value.agg (shC p.2))
theorem wholeF_lt (R : Nat → Option Shd) : ∀ i, ∀ p ∈ (wholeF R i).1, p.1 < i
  | 0, p, h => by simp [wholeF] at h
  | i + 1, p, h => by
    unfold wholeF at h
    have ih := wholeF_lt R i
    split at h
    · exact Nat.lt_succ_of_lt (ih p h)
    · split at h
      · exact Nat.lt_succ_of_lt (ih p h)
      · rcases List.mem_append.1 h with h1 | h1
        · exact Nat.lt_succ_of_lt (ih p h1)
        · simp at h1; subst h1; exact Nat.lt_succ_self i
theorem wholeF_size (R : Nat → Option Shd) (hR : ∀ i x, R i = some x → x.size < 65536) : ∀ i, (wholeF R i).2 < 65536
  | 0 => by simp [wholeF]
  | i + 1 => by
    unfold wholeF
    split
    · exact wholeF_size R hR i
    · rename_i x hx
      split
      · exact wholeF_size R hR i
      · exact hR i x hx
theorem wholeF_len (R : Nat → Option Shd) : ∀ i, (wholeF R i).1.length ≤ i
  | 0 => by simp [wholeF]
  | i + 1 => by
    have := wholeF_len R i
    unfold wholeF
    split
    · omega
    · split
      · omega
      · rw [List.length_append]; simp; omega
theorem mput_new : ∀ (es : List (Int × Value)) (k : Int) (v : Value), (∀ p ∈ es, p.1 ≠ k) → mput es k v = es ++ [(k, v)]
  | [], k, v, _ => rfl
  | p :: es, k, v, h => by
    have h1 := h p (List.mem_cons_self ..)
    have ih := mput_new es k v fun q hq => h q (List.mem_cons_of_mem _ hq)
    unfold mput
    rw [if_neg h1, ih]; rfl
theorem un_smap : Tryz.prog.underlying 148 = some (.map 3 193) := by kernel_rfl
theorem kt_intS : KeyTy Tryz.prog 3 (Value.int .i64) := keyTy_int (by kernel_rfl)
attribute [local go_sem ↓] shut_loadS shut_zeroS shut_buildS shut_storeS
attribute [local go_sem] run_zeroS run_build0
section
variable {w : World} {a s cb b k m : Nat} {r : Ref}
set_option maxRecDepth 100000 in
set_option maxHeartbeats 8000000 in
theorem whole_any (hS : BoxAt w s (setC a cb r)) (HC : CodAt w cb b k m) (R : Nat → Option Shd) (hR : ∀ i x, R i = some x → x.ok) (hread : Hid (∀ i, i < k + m → ∀ w', Below w.heap.size w w' → Calls Tryz.prog 139 #[.pointer (some ⟨s, 0, none⟩), .int .i64 (i : Int)] w' fun e w'' => ReadE w' (R i) e w'')) :
    Calls Tryz.prog 87 #[.pointer (some ⟨s, 0, none⟩)] w fun e w' => ∃ mb, e = .returned (.tuple #[.map (some mb), .int .i64 ((wholeF R (k + m)).2 : Nat)]) ∧ MapAt (Value.int .i64) w' mb (mapE (wholeF R (k + m)).1) ∧ Below w.heap.size w w' ∧ w.heap.size ≤ mb := by
  have hkm := HC.km
  have hmm := @run_makeMap Tryz.prog
  have hb0 : Below w.heap.size w (w.alloc (.map #[] 0)) := (Below.refl _ _).alloc (Nat.le_refl _) _
  have hm0 : MapAt (Value.int .i64) (w.alloc (.map #[] 0)) w.heap.size (mapE (wholeF R 0).1) := MapAt.new _ w
  have hS0 := hS.below hb0
  have c1 := hS0.cell 1
  have hn := cn_any (HC.below hb0)
  obtain ⟨wA, hwA⟩ : ∃ wA, w.alloc (.map #[] 0) = wA := ⟨_, rfl⟩
  rw [hwA] at hb0 hm0 hS0 c1 hn
  replace c1 : wA.cell? ⟨s, 1, none⟩ = some (.pointer (some ⟨cb, 0, none⟩)) := c1
  obtain ⟨mb, hmb⟩ : ∃ mb, w.heap.size = mb := ⟨_, rfl⟩
  have HMB := Lib.hid (show w.heap.size ≤ mb by omega)
  rw [hmb] at hm0
  have hsz : ∀ i, (wholeF R i).2 < 65536 := wholeF_size R fun i x h => (hR i x h).s
  have HSZ := Lib.hid hsz
  have HR := Lib.hid hR
  obtain ⟨N, hN⟩ : ∃ N, k + m = N := ⟨_, rfl⟩
  rw [hN] at hn hread ⊢
  have hN2 : N ≤ 255 := by omega
  clear HC hsz hR hS hN
  go_enter Tryz.func87, Tryz.ntmps87
  go_wp2_with fail
  refine hn.mono ?_
  clear hn
  rintro e w1 ⟨rfl, hb1⟩
  have HM := Lib.hid (hm0.below hb1)
  have HB := Lib.hid (hb0.trans (hb1.mono hb0.size))
  have hmm2 : mb < w1.heap.size := (hm0.below hb1).lt
  clear hm0 hb1 hb0 hmm hwA
  go_wp2_with fail
  go_loopw [5, 15] (fun vs vi wr => ∃ i : Nat, i ≤ N ∧ vi = .int .i64 i ∧ vs = .int .i64 ((wholeF R i).2 : Nat) ∧ Hid (MapAt (Value.int .i64) wr mb (mapE (wholeF R i).1)) ∧ Hid (Below w.heap.size w wr)) (fun _ vi _ => N - (intOf vi).toNat)
  case atStart => exact ⟨0, Nat.zero_le _, rfl, rfl, HM, HB⟩
  case round =>
    clear HM HB
    obtain ⟨i, hi, rfl, rfl, HM, HB⟩ := hrel
    have p0 : (0 : Int) ≤ (i : Int) := Int.natCast_nonneg _
    by_cases hlt : i < N
    · have p1 : (i : Int) < (N : Int) := by omega
      have hrd := hread.out i hlt wr HB.out
      go_wp2_with fail
      refine hrd.mono ?_
      clear hrd
      rintro e w5 ⟨hb5, y, B, rfl, hy, hcase⟩
      have hyl := hy.l
      have hys := hy.s
      have hm5 := HM.out.below hb5
      have hw5 : Below w.heap.size w w5 := HB.out.trans (hb5.mono HB.out.size)
      have hst := run_storeS (y := y) (BoxAt.new w5 (shC sh0) 193) sh0_ok.l hyl
      have bQ6 := shC_set (y := y) (BoxAt.new w5 (shC sh0) 193) sh0_ok.l hyl
      have hm6 : MapAt (Value.int .i64) ((w5.alloc (.cells (shC sh0) 193)).setCells w5.heap.size 0 (shV y)) mb (mapE (wholeF R i).1) := (hm5.alloc (.cells (shC sh0) 193)).keep (setCells_other _ w5.heap.size 0 mb (shV y) (by have := hm5.lt; omega))
      have hw6 := setS_below (hw5.alloc hw5.size (.cells (shC sh0) 193)) (p := w5.heap.size) hw5.size (shV y)
      have hqm : mb < w5.heap.size := hm5.lt
      obtain ⟨W6, hW6⟩ : ∃ W, (w5.alloc (.cells (shC sh0) 193)).setCells w5.heap.size 0 (shV y) = W := ⟨_, rfl⟩
      rw [hW6] at hst bQ6 hm6 hw6
      obtain ⟨q, hq⟩ : ∃ q, w5.heap.size = q := ⟨_, rfl⟩
      rw [hq] at hst bQ6 hqm
      have HM6 := Lib.hid hm6
      have HB6 := Lib.hid hw6
      have k4 : W6.cell? ⟨q, 4, none⟩ = some (.int .u16 (y.size : Int)) := (bQ6.cell 4).trans (shC_4 y)
      have hml := fun ty => run_lenMap (P := Tryz.prog) un_smap hm6 ty
      have hmel : (mapE (wholeF R i).1).length = (wholeF R i).1.length := by unfold mapE; rw [List.length_map]
      rw [hmel] at hml
      have z0 : (0 : Int) ≤ (y.size : Int) := Int.natCast_nonneg _
      have z1 : (y.size : Int) < 65536 := by omega
      have pw : IntKind.i64.wrap (y.size : Int) = (y.size : Int) := by rw [IntKind.wrap_i64]; omega
      clear hm5 hw5 hb5 hm6 hw6 hmel HM HB
      rcases hcase with ⟨rfl, hRi⟩ | ⟨rfl, hRi⟩
      · obtain ⟨L, hL⟩ : ∃ L, (wholeF R i).1.length = L := ⟨_, rfl⟩
        obtain ⟨sz, hsz⟩ : ∃ sz, (wholeF R i).2 = sz := ⟨_, rfl⟩
        rw [hL] at hml
        rw [hsz]
        by_cases hpos : 0 < L
        · have x1 : (L : Int) > 0 := by omega
          by_cases hne : y.size = sz
          · have x2 : ((y.size : Int) != (sz : Int)) = false := by rw [hne]; simp
            have HW := Lib.hid (show wholeF R (i + 1) = ((wholeF R i).1 ++ [(i, y)], y.size) by conv => lhs; unfold wholeF; rw [hRi]; dsimp only; rw [if_neg (by rw [hsz]; exact fun h => h.2 hne)])
            clear hne hRi hL hsz
            have hnew := mput_new (mapE (wholeF R i).1) (i : Int) (.agg (shC y)) (fun p hp => by
              obtain ⟨p', hp', rfl⟩ := List.mem_map.1 hp
              have := wholeF_lt R i p' hp'
              show ((p'.1 : Nat) : Int) ≠ _
              omega)
            obtain ⟨w7, hu, hM7, hg7, hs7⟩ := run_mapUpdate (P := Tryz.prog) kt_intS un_smap (HM6.out.keep (w' := W6.drew) rfl) (i : Int) (.agg (shC y))
            rw [hnew] at hM7
            have hb7 : Below w.heap.size w w7 := HB6.out.drew.grown hg7 HB6.out.size (fun k e => by cases e; exact HMB.out)
            have hQ7 := (bQ6.keep (w' := W6.drew) rfl).grw hg7 (fun e => by injection e with e; omega)
            have hQd : BoxAt W6.drew q (shC y) := bQ6.keep rfl
            have HM7 := Lib.hid hM7
            have HB7 := Lib.hid hb7
            have f1 : ∀ w', BoxAt w' q (shC y) → (shutLoad 193 ⟨q, 0, none⟩).run Tryz.prog w' = .ok (.agg (shC y)) w' := fun w' h => run_loadS h hyl
            have f3 : ∀ w', BoxAt w' q (shC y) → w'.cell? ⟨q, 4, none⟩ = some (.int .u16 (y.size : Int)) := fun w' h => (h.cell 4).trans (shC_4 y)
            clear hnew hM7 hb7 hg7 hs7 bQ6 HM6 HB6
            go_wp2_with fail
            refine wp_region_held_drew (S := fun w' => BoxAt w' q (shC y)) (by kernel_rfl) (by first | exact hQd | exact hQ7) (fun hHeld => ?_)
            refine wpAnyH_take (i := 0) (v := ?_) rfl (by kernel_rfl) (by kernel_rfl) (by kernel_rfl) (fun _ _ _ h => h) (Or.inl ⟨by first | kernel_rfl | rfl, ?_⟩) (by assumption) ?_
            rotate_left
            · (intro wq hSw; (try dsimp only at hSw); (try simp (maxSteps := 2000000) only [zz1, zz2, zz3]); go_simp); try with_reducible rfl
            try simp (maxSteps := 2000000) only [zz1, zz2, zz3, Act.put, zz4, zz5, zz6]
            refine wpAnyH_take (i := 1) (v := ?_) rfl (by kernel_rfl) (by kernel_rfl) (by kernel_rfl) (fun _ _ _ h => h) (Or.inl ⟨by first | kernel_rfl | rfl, ?_⟩) (by assumption) ?_
            rotate_left
            · (intro wq hSw; (try dsimp only at hSw); (try simp (maxSteps := 2000000) only [zz1, zz2, zz3]); go_simp); try with_reducible rfl
            try simp (maxSteps := 2000000) only [zz1, zz2, zz3, Act.put, zz4, zz5, zz6]
            refine wpAnyH_take (i := 2) (v := ?_) rfl (by kernel_rfl) (by kernel_rfl) (by kernel_rfl) (fun _ _ _ h => h) (Or.inl ⟨by first | kernel_rfl | rfl, ?_⟩) (by assumption) ?_
            rotate_left
            · (intro wq hSw; (try dsimp only at hSw); (try simp (maxSteps := 2000000) only [zz1, zz2, zz3]); go_simp); try with_reducible rfl
            try simp (maxSteps := 2000000) only [zz1, zz2, zz3, Act.put, zz4, zz5, zz6]
            refine wpAnyH_take (i := 3) (v := ?_) rfl (by kernel_rfl) (by kernel_rfl) (by kernel_rfl) (fun _ _ _ h => h) (Or.inl ⟨by first | kernel_rfl | rfl, ?_⟩) (by assumption) ?_
            rotate_left
            · (intro wq hSw; (try dsimp only at hSw); (try simp (maxSteps := 2000000) only [zz1, zz2, zz3]); go_simp); try with_reducible rfl
            try simp (maxSteps := 2000000) only [zz1, zz2, zz3, Act.put, zz4, zz5, zz6]
            refine wpAnyH_take (i := 4) (v := ?_) rfl (by kernel_rfl) (by kernel_rfl) (by kernel_rfl) (fun _ _ _ h => h) (Or.inl ⟨by first | kernel_rfl | rfl, ?_⟩) (by assumption) ?_
            rotate_left
            · (intro wq hSw; (try dsimp only at hSw); (try simp (maxSteps := 2000000) only [zz1, zz2, zz3]); go_simp); try with_reducible rfl
            try simp (maxSteps := 2000000) only [zz1, zz2, zz3, Act.put, zz4, zz5, zz6]
            refine wpAnyH_take (i := 5) (v := ?_) rfl (by kernel_rfl) (by kernel_rfl) (by kernel_rfl) (fun _ _ _ h => h) (Or.inl ⟨by first | kernel_rfl | rfl, ?_⟩) (by assumption) ?_
            rotate_left
            · (intro wq hSw; (try dsimp only at hSw); (try simp (maxSteps := 2000000) only [zz1, zz2, zz3]); go_simp); try with_reducible rfl
            try simp (maxSteps := 2000000) only [zz1, zz2, zz3, Act.put, zz4, zz5, zz6]
            refine wpAnyH_ready (rs := [6]) (by kernel_rfl) (by simp) ?_
            refine AllReadyH.cons rfl (fun K hK => ?_) AllReadyH.nil
            try simp (maxSteps := 2000000) only [zz1, zz2, zz3]
            go_simp
            refine hK.out _ _ (by first | exact hQd | exact hQ7) (fun hHeld => ?_)
            clear hK K
            try simp (maxSteps := 2000000) only [zz1, zz2, zz3, Act.put, zz4, zz5, zz6]
            refine wpAnyH_take (i := 7) (v := ?_) rfl (by kernel_rfl) (by kernel_rfl) (by kernel_rfl) (fun _ _ _ h => h) (Or.inl ⟨by first | kernel_rfl | rfl, ?_⟩) (by assumption) ?_
            rotate_left
            · (intro wq hSw; (try dsimp only at hSw); (try simp (maxSteps := 2000000) only [zz1, zz2, zz3]); go_simp); try with_reducible rfl
            try simp (maxSteps := 2000000) only [zz1, zz2, zz3, Act.put, zz4, zz5, zz6]
            refine wpAnyH_done (by kernel_rfl) ?_ _
            go_wp2_with fail
            exact ⟨⟨i + 1, by omega, by go_num, by rw [HW.out], by rw [HW.out]; unfold mapE; rw [List.map_append]; exact HM7, HB7⟩, by simp [intOf]; omega⟩
          · have x2 : ((y.size : Int) != (sz : Int)) = true := by simp; omega
            have HW := Lib.hid (show wholeF R (i + 1) = wholeF R i by conv => lhs; unfold wholeF; rw [hRi]; dsimp only; rw [if_pos (by rw [hsz, hL]; exact ⟨hpos, hne⟩)])
            have HSZ2 := Lib.hid hsz
            clear hne hRi hL hsz bQ6
            go_wp2_with fail
            exact ⟨⟨i + 1, by omega, by go_num, by rw [HW.out, HSZ2.out], by rw [HW.out]; exact HM6, HB6⟩, by simp [intOf]; omega⟩
        · have x1 : ¬ (L : Int) > 0 := by omega
          have HW := Lib.hid (show wholeF R (i + 1) = ((wholeF R i).1 ++ [(i, y)], y.size) by conv => lhs; unfold wholeF; rw [hRi]; dsimp only; rw [if_neg (by rw [hL]; exact fun h => hpos h.1)])
          clear hRi hL hsz
          have hnew := mput_new (mapE (wholeF R i).1) (i : Int) (.agg (shC y)) (fun p hp => by
            obtain ⟨p', hp', rfl⟩ := List.mem_map.1 hp
            have := wholeF_lt R i p' hp'
            show ((p'.1 : Nat) : Int) ≠ _
            omega)
          obtain ⟨w7, hu, hM7, hg7, hs7⟩ := run_mapUpdate (P := Tryz.prog) kt_intS un_smap (HM6.out.keep (w' := W6.drew) rfl) (i : Int) (.agg (shC y))
          rw [hnew] at hM7
          have hb7 : Below w.heap.size w w7 := HB6.out.drew.grown hg7 HB6.out.size (fun k e => by cases e; exact HMB.out)
          have hQ7 := (bQ6.keep (w' := W6.drew) rfl).grw hg7 (fun e => by injection e with e; omega)
          have hQd : BoxAt W6.drew q (shC y) := bQ6.keep rfl
          have HM7 := Lib.hid hM7
          have HB7 := Lib.hid hb7
          have f1 : ∀ w', BoxAt w' q (shC y) → (shutLoad 193 ⟨q, 0, none⟩).run Tryz.prog w' = .ok (.agg (shC y)) w' := fun w' h => run_loadS h hyl
          have f3 : ∀ w', BoxAt w' q (shC y) → w'.cell? ⟨q, 4, none⟩ = some (.int .u16 (y.size : Int)) := fun w' h => (h.cell 4).trans (shC_4 y)
          clear hnew hM7 hb7 hg7 hs7 bQ6 HM6 HB6
          go_wp2_with fail
          refine wp_region_held_drew (S := fun w' => BoxAt w' q (shC y)) (by kernel_rfl) (by first | exact hQd | exact hQ7) (fun hHeld => ?_)
          refine wpAnyH_take (i := 0) (v := ?_) rfl (by kernel_rfl) (by kernel_rfl) (by kernel_rfl) (fun _ _ _ h => h) (Or.inl ⟨by first | kernel_rfl | rfl, ?_⟩) (by assumption) ?_
          rotate_left
          · (intro wq hSw; (try dsimp only at hSw); (try simp (maxSteps := 2000000) only [zz1, zz2, zz3]); go_simp); try with_reducible rfl
          try simp (maxSteps := 2000000) only [zz1, zz2, zz3, Act.put, zz4, zz5, zz6]
          refine wpAnyH_take (i := 1) (v := ?_) rfl (by kernel_rfl) (by kernel_rfl) (by kernel_rfl) (fun _ _ _ h => h) (Or.inl ⟨by first | kernel_rfl | rfl, ?_⟩) (by assumption) ?_
          rotate_left
          · (intro wq hSw; (try dsimp only at hSw); (try simp (maxSteps := 2000000) only [zz1, zz2, zz3]); go_simp); try with_reducible rfl
          try simp (maxSteps := 2000000) only [zz1, zz2, zz3, Act.put, zz4, zz5, zz6]
          refine wpAnyH_take (i := 2) (v := ?_) rfl (by kernel_rfl) (by kernel_rfl) (by kernel_rfl) (fun _ _ _ h => h) (Or.inl ⟨by first | kernel_rfl | rfl, ?_⟩) (by assumption) ?_
          rotate_left
          · (intro wq hSw; (try dsimp only at hSw); (try simp (maxSteps := 2000000) only [zz1, zz2, zz3]); go_simp); try with_reducible rfl
          try simp (maxSteps := 2000000) only [zz1, zz2, zz3, Act.put, zz4, zz5, zz6]
          refine wpAnyH_take (i := 3) (v := ?_) rfl (by kernel_rfl) (by kernel_rfl) (by kernel_rfl) (fun _ _ _ h => h) (Or.inl ⟨by first | kernel_rfl | rfl, ?_⟩) (by assumption) ?_
          rotate_left
          · (intro wq hSw; (try dsimp only at hSw); (try simp (maxSteps := 2000000) only [zz1, zz2, zz3]); go_simp); try with_reducible rfl
          try simp (maxSteps := 2000000) only [zz1, zz2, zz3, Act.put, zz4, zz5, zz6]
          refine wpAnyH_take (i := 4) (v := ?_) rfl (by kernel_rfl) (by kernel_rfl) (by kernel_rfl) (fun _ _ _ h => h) (Or.inl ⟨by first | kernel_rfl | rfl, ?_⟩) (by assumption) ?_
          rotate_left
          · (intro wq hSw; (try dsimp only at hSw); (try simp (maxSteps := 2000000) only [zz1, zz2, zz3]); go_simp); try with_reducible rfl
          try simp (maxSteps := 2000000) only [zz1, zz2, zz3, Act.put, zz4, zz5, zz6]
          refine wpAnyH_take (i := 5) (v := ?_) rfl (by kernel_rfl) (by kernel_rfl) (by kernel_rfl) (fun _ _ _ h => h) (Or.inl ⟨by first | kernel_rfl | rfl, ?_⟩) (by assumption) ?_
          rotate_left
          · (intro wq hSw; (try dsimp only at hSw); (try simp (maxSteps := 2000000) only [zz1, zz2, zz3]); go_simp); try with_reducible rfl
          try simp (maxSteps := 2000000) only [zz1, zz2, zz3, Act.put, zz4, zz5, zz6]
          refine wpAnyH_ready (rs := [6]) (by kernel_rfl) (by simp) ?_
          refine AllReadyH.cons rfl (fun K hK => ?_) AllReadyH.nil
          try simp (maxSteps := 2000000) only [zz1, zz2, zz3]
          go_simp
          refine hK.out _ _ (by first | exact hQd | exact hQ7) (fun hHeld => ?_)
          clear hK K
          try simp (maxSteps := 2000000) only [zz1, zz2, zz3, Act.put, zz4, zz5, zz6]
          refine wpAnyH_take (i := 7) (v := ?_) rfl (by kernel_rfl) (by kernel_rfl) (by kernel_rfl) (fun _ _ _ h => h) (Or.inl ⟨by first | kernel_rfl | rfl, ?_⟩) (by assumption) ?_
          rotate_left
          · (intro wq hSw; (try dsimp only at hSw); (try simp (maxSteps := 2000000) only [zz1, zz2, zz3]); go_simp); try with_reducible rfl
          try simp (maxSteps := 2000000) only [zz1, zz2, zz3, Act.put, zz4, zz5, zz6]
          refine wpAnyH_done (by kernel_rfl) ?_ _
          go_wp2_with fail
          exact ⟨⟨i + 1, by omega, by go_num, by rw [HW.out], by rw [HW.out]; unfold mapE; rw [List.map_append]; exact HM7, HB7⟩, by simp [intOf]; omega⟩
      · have HW := Lib.hid (show wholeF R (i + 1) = wholeF R i by conv => lhs; unfold wholeF; rw [hRi])
        clear hRi bQ6
        go_wp2_with fail
        exact ⟨⟨i + 1, by omega, by go_num, by rw [HW.out], by rw [HW.out]; exact HM6, HB6⟩, by simp [intOf]; omega⟩
    · have p1 : ¬ (i : Int) < (N : Int) := by omega
      obtain rfl : N = i := by omega
      go_wp2_with fail
      go_ret2
      exact ⟨mb, rfl, HM.out, by first | exact HB.out | (rw [← hmb]; exact HB.out), by first | exact HMB.out | omega⟩
end
end
end Go.Proofs.YtihnlhfngmbglaaGreat
