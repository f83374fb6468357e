/-
  Rot, Rotten.
-/
import Derived.Test.YtolmpopjonkfgaaDrvN
set_option linter.unusedSimpArgs false
set_option linter.unusedVariables false
namespace Go.Proofs.Ytolmpopjonkfgaa
open Go.RowKit Go.Cib
attribute [local go_sem] cell_set Later.cell Later.frozen Grw.cell Grw.frozen

/-- One byte's rot. -/
def rotV (v mask : Int) (i : Nat) : Int := bits BinOp.xor IntKind.u8 v (IntKind.u8.wrap (mask / 2 ^ (8 * (i : Int)).toNat))
def rotTo (x : List Int) (off : Nat) (mask : Int) : Nat → List Int
  | 0 => x
  | i + 1 => (rotTo x off mask i).set (off + i) (rotV (((rotTo x off mask i)[off + i]?).getD 0) mask i)
theorem rotTo_len (x : List Int) (off : Nat) (mask : Int) : ∀ i, (rotTo x off mask i).length = x.length
  | 0 => rfl
  | i + 1 => by rw [rotTo, List.length_set, rotTo_len x off mask i]
def DSt.rotAt (st : DSt) (a off : Nat) (mask : Int) (i : Nat) : DSt := { st with stored := st.stored.set a (rotTo ((st.stored[a]?).getD []) off mask i) }
def DSt.rot (st : DSt) (a off : Nat) (mask : Int) : DSt := { st.rotAt a off mask 4 with rotten := st.rotten.set a true }
theorem rotAt_zero (st : DSt) (a off : Nat) (mask : Int) : st.rotAt a off mask 0 = st := by
  simp only [DSt.rotAt, rotTo]
  by_cases h : a < st.stored.length
  · rw [List.getElem?_eq_getElem h]; simp
  · rw [List.set_eq_of_length_le (by omega)]
theorem flatten_setOne {α : Type} {s : Nat} : ∀ (css : List (List α)) (_ : ∀ cs ∈ css, cs.length = s) (i : Nat) (cs : List α) (j : Nat) (u : α), css[i]? = some cs → j < s → css.flatten.set (i * s + j) u = (css.set i (cs.set j u)).flatten
  | [], _, i, cs, j, u, h, _ => by simp at h
  | c :: css, hl, 0, cs, j, u, h, hj => by
    have h1 : c.length = s := hl c (by simp)
    simp only [List.getElem?_cons_zero, Option.some.injEq] at h
    subst h
    rw [List.flatten_cons, Nat.zero_mul, Nat.zero_add, List.set_append_left _ _ (by omega)]; rfl
  | c :: css, hl, i + 1, cs, j, u, h, hj => by
    have h1 : c.length = s := hl c (by simp)
    have ih := flatten_setOne css (fun x hx => hl x (List.mem_cons_of_mem _ hx)) i cs j u (by simpa using h) hj
    have e : (i + 1) * s + j - c.length = i * s + j := by rw [Nat.add_mul]; omega
    rw [List.flatten_cons, List.set_append_right _ _ (by rw [Nat.add_mul]; omega), e, ih]; rfl
/-- One byte of a sector is set. -/
theorem DrvB.byte {w w' : World} {p n sb sc rb rc : Nat} {A : Option Addr} {cc mb : Nat} {st : DSt} (h : DrvB w p n sb sc rb rc A cc mb st) {a j : Nat} {x : List Int} {v : Int} (ha : a < n) (hx : st.stored[a]? = some x) (hj : j < 64)
    (hw : w' = (w.setCell ⟨sb, a * 64 + j, none⟩ (.int .u8 v)).drew) : DrvB w' p n sb sc rb rc A cc mb { st with stored := st.stored.set a (x.set j v) } := by
  have hok := h.ok
  have hl : x.length = 64 := hok.s64 x (List.mem_of_getElem? hx)
  have hc64 : ∀ cs ∈ st.stored.map secCells, cs.length = 64 := fun cs hcs => by obtain ⟨y, hy, rfl⟩ := List.mem_map.1 hcs; simp [secCells, hok.s64 y hy]
  have o1 := (h.so.stored (a * 64 + j) (.int .u8 v)).1
  rw [flatten_setOne _ hc64 a (secCells x) j _ (by simp [hx]) hj] at o1
  have e1 : (secCells x).set j (.int .u8 v) = secCells (x.set j v) := by simp [secCells, List.map_set]
  rw [e1] at o1
  have hr : st.rotten.set a ((st.rotten[a]?).getD false) = st.rotten := by
    rw [List.getElem?_eq_getElem (by rw [hok.rl]; exact ha)]; simp
  have hr2 : (st.rotten.map Value.bool).set a (.bool ((st.rotten[a]?).getD false)) = st.rotten.map Value.bool := by rw [← List.map_set, hr]
  have := h.put (w' := w') (s := x.set j v) (r := (st.rotten[a]?).getD false) ha (by simp [hl]) (fun k h1 h2 => by rw [hw]; exact Below.heap_setCell _ _ _ _ h1) (by rw [hw]; exact o1) (by
    rw [hr2, hw]; exact ownsRow_keep h.ro (by rintro k ⟨⟩; exact Below.heap_setCell _ _ _ _ (fun e => h.sr e.symm)))
  rw [hr] at this
  exact this
theorem DrvB.mark {w : World} {p n sb sc rb rc : Nat} {A : Option Addr} {cc mb : Nat} {st : DSt} (h : DrvB w p n sb sc rb rc A cc mb st) {a : Nat} (ha : a < n) (r : Bool) : DrvB (w.setCell ⟨rb, a, none⟩ (.bool r)) p n sb sc rb rc A cc mb { st with rotten := st.rotten.set a r } := by
  have hok := h.ok
  have hal : a < st.stored.length := by rw [hok.sl]; exact ha
  have hs : st.stored.set a st.stored[a] = st.stored := by simp
  have hs2 : (st.stored.map secCells).set a (secCells st.stored[a]) = st.stored.map secCells := by rw [← List.map_set, hs]
  have := h.put (w' := w.setCell ⟨rb, a, none⟩ (.bool r)) (s := st.stored[a]) (r := r) ha (hok.s64 _ (List.getElem_mem _)) (fun k h1 h2 => Below.heap_setCell _ _ _ _ h2) (by
    rw [hs2]; exact ownsRow_keep h.so (by rintro k ⟨⟩; exact Below.heap_setCell _ _ _ _ h.sr)) ((h.ro.stored a (.bool r)).1)
  rw [hs] at this
  exact this

set_option maxRecDepth 100000 in
set_option maxHeartbeats 4000000 in
theorem rot_good {F : Nat → Prop} {w : World} {p n : Nat} {st : DSt} (h : Hid (DrvAt F w p n st)) (hd : st.dead = false) (a : Nat) (ha : a < n) (off : Nat) (hoff : off ≤ 60) (mask : Int) (hm : ¬ mask = 0) (hr : st.rotten[a]? = some false) :
    Calls Try.prog 18 #[.pointer (some ⟨p, 0, none⟩), .int .i64 a, .int .i64 off, .int .u32 mask] w fun e w' => e = .returned (.int .i64 0) ∧ Upd F w w' p n (st.rot a off mask) := by
  obtain ⟨sb, sc, rb, rc, A, cc, mb, H⟩ := h.out.box
  rw [hd] at H
  go_enter Try.func18, Try.ntmps18
  go_wp2_with fail
  refine (ready_any a H).mono ?_
  rintro e w1 ⟨rfl, h1⟩
  have e1 : readyE false n a = 0 := by simp [readyE, ha]
  rw [e1]
  clear e1 H
  have D := Lib.hid (h.out.below h1)
  have U := Lib.hid (Keep.of_below (F := F) h1)
  have s1 := h1.size
  clear h h1
  obtain ⟨sb, sc, rb, rc, A, cc, mb, hB, f1, f2, f3, f4, f5, lt⟩ := D.out
  obtain ⟨k0, k1, k2, k3, k4⟩ := drv_cells hB.box
  have r0 : w1.cell? ⟨rb, a, none⟩ = some (.bool false) := by rw [hB.ro.cellAt a (by omega)]; simp [hr]
  have hk0 : (0 : Int) ≤ (a : Int) := Int.natCast_nonneg _
  have hk1 : (a : Int) < (n : Int) := by omega
  have ho0 : (0 : Int) ≤ (off : Int) := Int.natCast_nonneg _
  have ho1 : ¬ (off : Int) < 0 := by omega
  have ho2 : ¬ (60 : Int) < (off : Int) := by omega
  have ho3 : (off : Int) ≤ 60 := by omega
  have hmb : (mask == 0) = false := by simpa using hm
  have HB := Lib.hid hB
  clear hB
  go_wp2_with fail
  clear k0 k1 k2 k3 k4 r0
  go_loopw [36] (fun vi wr => ∃ i : Nat, i ≤ 4 ∧ vi = .int .i64 i ∧ Hid (DrvB wr p n sb sc rb rc A cc mb (st.rotAt a off mask i)) ∧ Hid (Keep F w1 wr)) (fun vi _ => 4 - (intOf vi).toNat)
  case atStart => exact ⟨0, by omega, rfl, by rw [rotAt_zero]; exact HB, Lib.hid (Keep.refl _ _)⟩
  case round =>
    obtain ⟨i, hi, rfl, hD, hK⟩ := hrel
    by_cases hlt : i < 4
    · obtain ⟨k0, k1, k2, k3, k4⟩ := drv_cells hD.out.box
      have hal : a < st.stored.length := by rw [HB.out.ok.sl]; exact ha
      obtain ⟨y, hy⟩ : ∃ y, (st.rotAt a off mask i).stored[a]? = some y := ⟨_, List.getElem?_eq_getElem (by simpa [DSt.rotAt] using hal)⟩
      have hyr : y = rotTo ((st.stored[a]?).getD []) off mask i := by simpa [DSt.rotAt, hal] using hy.symm
      have hyl : y.length = 64 := hD.out.ok.s64 y (List.mem_of_getElem? hy)
      obtain ⟨v, hvy⟩ : ∃ v, y[off + i]? = some v := ⟨_, List.getElem?_eq_getElem (by omega)⟩
      have hv : wr.cell? ⟨sb, a * 64 + (off + i), none⟩ = some (.int .u8 v) := by
        have hc64 : ∀ cs ∈ (st.rotAt a off mask i).stored.map secCells, cs.length = 64 := fun cs hcs => by obtain ⟨u, hu, rfl⟩ := List.mem_map.1 hcs; simp [secCells, hD.out.ok.s64 u hu]
        exact ownsRow_range hD.out.so hc64 (i := a) (cs := secCells y) (by simp [hy]) (by simp [hD.out.ok.sl]) (off + i) _ (by simp [secCells, hvy])
      have HY := Lib.hid (And.intro hy (And.intro hyr hvy))
      clear hy hyr hvy hyl hal
      have hps : p ≠ sb := hD.out.ps
      have z1 : wr.frozen? ⟨sb, a * 64 + (off + i), none⟩ = false := hD.out.so.frozenAt _
      have hoi : IntKind.i64.wrap ((off : Int) + (i : Int)) = (off : Int) + (i : Int) := by rw [IntKind.wrap_i64]; omega
      have hoj : (0 : Int) ≤ (off : Int) + (i : Int) := by omega
      have hok : (off : Int) + (i : Int) < 64 := by omega
      have hot : ((off : Int) + (i : Int)).toNat = off + i := by omega
      have h8 : IntKind.i64.wrap (8 * (i : Int)) = ((8 * i : Nat) : Int) := by rw [IntKind.wrap_i64]; omega
      have h80 : (0 : Int) ≤ ((8 * i : Nat) : Int) := Int.natCast_nonneg _
      go_wp2_with fail
      refine wp_region_held_drew (S := (fun w' => w'.cell? ⟨p, 0, none⟩ = some (.slice (some ⟨sb, 0, none⟩) n sc))) (by kernel_rfl) (by first | exact k0 | (exact cell_setCell_ne (w := World.drew _) k0 hps)) (fun hHeld => ?_)
      refine wpAnyH_take (i := 0) (v := ?_) rfl (by kernel_rfl) (by kernel_rfl) (by kernel_rfl) (fun _ _ _ h => h) (Or.inl ⟨by rfl, ?_⟩) (by assumption) ?_
      rotate_left
      · (intro wq hSw; (try dsimp only at hSw); (try simp only [List.getElem_toArray, List.getElem_cons_succ, List.getElem_cons_zero]); go_simp); try with_reducible rfl
      try simp only [List.getElem_toArray, List.getElem_cons_succ, List.getElem_cons_zero, Act.put, List.setIfInBounds_toArray, List.set_cons_zero, List.set_cons_succ]
      refine wpAnyH_take (i := 1) (v := ?_) rfl (by kernel_rfl) (by kernel_rfl) (by kernel_rfl) (fun _ _ _ h => h) (Or.inl ⟨by rfl, ?_⟩) (by assumption) ?_
      rotate_left
      · (intro wq hSw; (try dsimp only at hSw); (try simp only [List.getElem_toArray, List.getElem_cons_succ, List.getElem_cons_zero]); go_simp); try with_reducible rfl
      try simp only [List.getElem_toArray, List.getElem_cons_succ, List.getElem_cons_zero, Act.put, List.setIfInBounds_toArray, List.set_cons_zero, List.set_cons_succ]
      refine wpAnyH_take (i := 2) (v := ?_) rfl (by kernel_rfl) (by kernel_rfl) (by kernel_rfl) (fun _ _ _ h => h) (Or.inl ⟨by rfl, ?_⟩) (by assumption) ?_
      rotate_left
      · (intro wq hSw; (try dsimp only at hSw); (try simp only [List.getElem_toArray, List.getElem_cons_succ, List.getElem_cons_zero]); go_simp); try with_reducible rfl
      try simp only [List.getElem_toArray, List.getElem_cons_succ, List.getElem_cons_zero, Act.put, List.setIfInBounds_toArray, List.set_cons_zero, List.set_cons_succ]
      refine wpAnyH_take (i := 3) (v := ?_) rfl (by kernel_rfl) (by kernel_rfl) (by kernel_rfl) (fun _ _ _ h => h) (Or.inl ⟨by rfl, ?_⟩) (by assumption) ?_
      rotate_left
      · (intro wq hSw; (try dsimp only at hSw); (try simp only [List.getElem_toArray, List.getElem_cons_succ, List.getElem_cons_zero]); go_simp); try with_reducible rfl
      try simp only [List.getElem_toArray, List.getElem_cons_succ, List.getElem_cons_zero, Act.put, List.setIfInBounds_toArray, List.set_cons_zero, List.set_cons_succ]
      refine wpAnyH_take (i := 4) (v := ?_) rfl (by kernel_rfl) (by kernel_rfl) (by kernel_rfl) (fun _ _ _ h => h) (Or.inl ⟨by rfl, ?_⟩) (by assumption) ?_
      rotate_left
      · (intro wq hSw; (try dsimp only at hSw); (try simp only [List.getElem_toArray, List.getElem_cons_succ, List.getElem_cons_zero]); go_simp); try with_reducible rfl
      try simp only [List.getElem_toArray, List.getElem_cons_succ, List.getElem_cons_zero, Act.put, List.setIfInBounds_toArray, List.set_cons_zero, List.set_cons_succ]
      refine wpAnyH_take (i := 5) (v := ?_) rfl (by kernel_rfl) (by kernel_rfl) (by kernel_rfl) (fun _ _ _ h => h) (Or.inl ⟨by rfl, ?_⟩) (by assumption) ?_
      rotate_left
      · (intro wq hSw; (try dsimp only at hSw); (try simp only [List.getElem_toArray, List.getElem_cons_succ, List.getElem_cons_zero]); go_simp); try with_reducible rfl
      try simp only [List.getElem_toArray, List.getElem_cons_succ, List.getElem_cons_zero, Act.put, List.setIfInBounds_toArray, List.set_cons_zero, List.set_cons_succ]
      refine wpAnyH_take (i := 6) (v := ?_) rfl (by kernel_rfl) (by kernel_rfl) (by kernel_rfl) (fun _ _ _ h => h) (Or.inl ⟨by rfl, ?_⟩) (by assumption) ?_
      rotate_left
      · (intro wq hSw; (try dsimp only at hSw); (try simp only [List.getElem_toArray, List.getElem_cons_succ, List.getElem_cons_zero]); go_simp); try with_reducible rfl
      try simp only [List.getElem_toArray, List.getElem_cons_succ, List.getElem_cons_zero, Act.put, List.setIfInBounds_toArray, List.set_cons_zero, List.set_cons_succ]
      refine wpAnyH_take (i := 7) (v := ?_) rfl (by kernel_rfl) (by kernel_rfl) (by kernel_rfl) (fun _ _ _ h => h) (Or.inl ⟨by rfl, ?_⟩) (by assumption) ?_
      rotate_left
      · (intro wq hSw; (try dsimp only at hSw); (try simp only [List.getElem_toArray, List.getElem_cons_succ, List.getElem_cons_zero]); go_simp); try with_reducible rfl
      try simp only [List.getElem_toArray, List.getElem_cons_succ, List.getElem_cons_zero, Act.put, List.setIfInBounds_toArray, List.set_cons_zero, List.set_cons_succ]
      refine wpAnyH_take (i := 8) (v := ?_) rfl (by kernel_rfl) (by kernel_rfl) (by kernel_rfl) (fun _ _ _ h => h) (Or.inl ⟨by rfl, ?_⟩) (by assumption) ?_
      rotate_left
      · (intro wq hSw; (try dsimp only at hSw); (try simp only [List.getElem_toArray, List.getElem_cons_succ, List.getElem_cons_zero]); go_simp); try with_reducible rfl
      try simp only [List.getElem_toArray, List.getElem_cons_succ, List.getElem_cons_zero, Act.put, List.setIfInBounds_toArray, List.set_cons_zero, List.set_cons_succ]
      refine wpAnyH_take (i := 11) (v := ?_) rfl (by kernel_rfl) (by kernel_rfl) (by kernel_rfl) (fun _ _ _ h => h) (Or.inl ⟨by rfl, ?_⟩) (by assumption) ?_
      rotate_left
      · (intro wq hSw; (try dsimp only at hSw); (try simp only [List.getElem_toArray, List.getElem_cons_succ, List.getElem_cons_zero]); go_simp); try with_reducible rfl
      try simp only [List.getElem_toArray, List.getElem_cons_succ, List.getElem_cons_zero, Act.put, List.setIfInBounds_toArray, List.set_cons_zero, List.set_cons_succ]
      refine wpAnyH_take (i := 12) (v := ?_) rfl (by kernel_rfl) (by kernel_rfl) (by kernel_rfl) (fun _ _ _ h => h) (Or.inl ⟨by rfl, ?_⟩) (by assumption) ?_
      rotate_left
      · (intro wq hSw; (try dsimp only at hSw); (try simp only [List.getElem_toArray, List.getElem_cons_succ, List.getElem_cons_zero]); go_simp); try with_reducible rfl
      try simp only [List.getElem_toArray, List.getElem_cons_succ, List.getElem_cons_zero, Act.put, List.setIfInBounds_toArray, List.set_cons_zero, List.set_cons_succ]
      refine wpAnyH_take (i := 13) (v := ?_) rfl (by kernel_rfl) (by kernel_rfl) (by kernel_rfl) (fun _ _ _ h => h) (Or.inl ⟨by rfl, ?_⟩) (by assumption) ?_
      rotate_left
      · (intro wq hSw; (try dsimp only at hSw); (try simp only [List.getElem_toArray, List.getElem_cons_succ, List.getElem_cons_zero]); go_simp); try with_reducible rfl
      try simp only [List.getElem_toArray, List.getElem_cons_succ, List.getElem_cons_zero, Act.put, List.setIfInBounds_toArray, List.set_cons_zero, List.set_cons_succ]
      refine wpAnyH_take (i := 14) (v := ?_) rfl (by kernel_rfl) (by kernel_rfl) (by kernel_rfl) (fun _ _ _ h => h) (Or.inl ⟨by rfl, ?_⟩) (by assumption) ?_
      rotate_left
      · (intro wq hSw; (try dsimp only at hSw); (try simp only [List.getElem_toArray, List.getElem_cons_succ, List.getElem_cons_zero]); go_simp); try with_reducible rfl
      try simp only [List.getElem_toArray, List.getElem_cons_succ, List.getElem_cons_zero, Act.put, List.setIfInBounds_toArray, List.set_cons_zero, List.set_cons_succ]
      refine wpAnyH_take (i := 15) (v := ?_) rfl (by kernel_rfl) (by kernel_rfl) (by kernel_rfl) (fun _ _ _ h => h) (Or.inl ⟨by rfl, ?_⟩) (by assumption) ?_
      rotate_left
      · (intro wq hSw; (try dsimp only at hSw); (try simp only [List.getElem_toArray, List.getElem_cons_succ, List.getElem_cons_zero]); go_simp); try with_reducible rfl
      try simp only [List.getElem_toArray, List.getElem_cons_succ, List.getElem_cons_zero, Act.put, List.setIfInBounds_toArray, List.set_cons_zero, List.set_cons_succ]
      refine wpAnyH_take (i := 17) (v := ?_) rfl (by kernel_rfl) (by kernel_rfl) (by kernel_rfl) (fun _ _ _ h => h) (Or.inl ⟨by rfl, ?_⟩) (by assumption) ?_
      rotate_left
      · (intro wq hSw; (try dsimp only at hSw); (try simp only [List.getElem_toArray, List.getElem_cons_succ, List.getElem_cons_zero]); go_simp); try with_reducible rfl
      try simp only [List.getElem_toArray, List.getElem_cons_succ, List.getElem_cons_zero, Act.put, List.setIfInBounds_toArray, List.set_cons_zero, List.set_cons_succ]
      refine wpAnyH_ready (rs := [9]) (by kernel_rfl) (by simp) ?_
      refine AllReadyH.cons rfl (fun K hK => ?_) AllReadyH.nil
      try simp only [List.getElem_toArray, List.getElem_cons_succ, List.getElem_cons_zero]
      go_simp
      refine hK.out _ _ (by first | exact k0 | (exact cell_setCell_ne (w := World.drew _) k0 hps)) (fun hHeld => ?_)
      clear hK K
      try simp only [List.getElem_toArray, List.getElem_cons_succ, List.getElem_cons_zero, Act.put, List.setIfInBounds_toArray, List.set_cons_zero, List.set_cons_succ]
      refine wpAnyH_ready (rs := [10]) (by kernel_rfl) (by simp) ?_
      refine AllReadyH.cons rfl (fun K hK => ?_) AllReadyH.nil
      try simp only [List.getElem_toArray, List.getElem_cons_succ, List.getElem_cons_zero]
      go_simp
      refine hK.out _ _ (by first | exact k0 | (exact cell_setCell_ne (w := World.drew _) k0 hps)) (fun hHeld => ?_)
      clear hK K
      try simp only [List.getElem_toArray, List.getElem_cons_succ, List.getElem_cons_zero, Act.put, List.setIfInBounds_toArray, List.set_cons_zero, List.set_cons_succ]
      refine wpAnyH_take (i := 16) (v := ?_) rfl (by kernel_rfl) (by kernel_rfl) (by kernel_rfl) (fun _ _ _ h => h) (Or.inl ⟨by rfl, ?_⟩) (by assumption) ?_
      rotate_left
      · (intro wq hSw; (try dsimp only at hSw); (try simp only [List.getElem_toArray, List.getElem_cons_succ, List.getElem_cons_zero]); go_simp); try with_reducible rfl
      try simp only [List.getElem_toArray, List.getElem_cons_succ, List.getElem_cons_zero, Act.put, List.setIfInBounds_toArray, List.set_cons_zero, List.set_cons_succ]
      refine wpAnyH_take (i := 18) (v := ?_) rfl (by kernel_rfl) (by kernel_rfl) (by kernel_rfl) (fun _ _ _ h => h) (Or.inl ⟨by rfl, ?_⟩) (by assumption) ?_
      rotate_left
      · (intro wq hSw; (try dsimp only at hSw); (try simp only [List.getElem_toArray, List.getElem_cons_succ, List.getElem_cons_zero]); go_simp); try with_reducible rfl
      try simp only [List.getElem_toArray, List.getElem_cons_succ, List.getElem_cons_zero, Act.put, List.setIfInBounds_toArray, List.set_cons_zero, List.set_cons_succ]
      refine wpAnyH_ready (rs := [19]) (by kernel_rfl) (by simp) ?_
      refine AllReadyH.cons rfl (fun K hK => ?_) AllReadyH.nil
      try simp only [List.getElem_toArray, List.getElem_cons_succ, List.getElem_cons_zero]
      go_simp
      refine hK.out _ _ (by first | exact k0 | (exact cell_setCell_ne (w := World.drew _) k0 hps)) (fun hHeld => ?_)
      clear hK K
      try simp only [List.getElem_toArray, List.getElem_cons_succ, List.getElem_cons_zero, Act.put, List.setIfInBounds_toArray, List.set_cons_zero, List.set_cons_succ]
      refine wpAnyH_done (by kernel_rfl) ?_ _
      go_wp2_with fail
      obtain ⟨hy, hyr, hvy⟩ := HY.out
      refine ⟨⟨i + 1, by omega, by go_num, Lib.hid ?_, Lib.hid ?_⟩, by simp [intOf]; omega⟩
      · have := hD.out.byte (j := off + i) (v := rotV v mask i) ha hy (by omega) rfl
        have e : { st.rotAt a off mask i with stored := (st.rotAt a off mask i).stored.set a (y.set (off + i) (rotV v mask i)) } = st.rotAt a off mask (i + 1) := by
          simp only [DSt.rotAt, rotTo, List.set_set, hyr] at hvy ⊢
          rw [hvy]; rfl
        rw [e] at this
        exact this
      · refine hK.out.trans (G := F) (Keep.trans (F := F) (G := fun _ => False) (Keep.setCell (Keep.refl F wr) (fun _ => f2) _) ⟨rfl, rfl, rfl, Nat.le_refl _, fun _ _ _ => rfl⟩ (fun _ h => h.elim)) (fun k h _ => h)
    · obtain rfl : i = 4 := by omega
      obtain ⟨k0, k1, k2, k3, k4⟩ := drv_cells hD.out.box
      have r0 : wr.cell? ⟨rb, a, none⟩ = some (.bool false) := by rw [hD.out.ro.cellAt a (by omega)]; simp [DSt.rotAt, hr]
      have z0 : wr.frozen? ⟨rb, a, none⟩ = false := hD.out.ro.frozenAt a
      go_wp2_with fail
      go_ret
      have hKF : Keep F w1 (wr.setCell ⟨rb, a, none⟩ (.bool true)) := hK.out.setCell (fun _ => f3) _
      refine ⟨rfl, F, ⟨sb, sc, rb, rc, A, cc, mb, hD.out.mark ha true, f1, f2, f3, f4, f5, fun k hk => ?_⟩, fun k hk _ => hk, U.out.trans hKF (fun k h _ => h)⟩
      exact Nat.lt_of_lt_of_le (lt k hk) hKF.size

set_option maxRecDepth 100000 in
theorem rot_again {F : Nat → Prop} {w : World} {p n : Nat} {st : DSt} (h : Hid (DrvAt F w p n st)) (hd : st.dead = false) (a : Nat) (ha : a < n) (off : Nat) (hoff : off ≤ 60) (mask : Int) (hm : ¬ mask = 0) (hr : st.rotten[a]? = some true) :
    Calls Try.prog 18 #[.pointer (some ⟨p, 0, none⟩), .int .i64 a, .int .i64 off, .int .u32 mask] w fun e w' => e = .returned (.int .i64 91) ∧ Below w.heap.size w w' := by
  obtain ⟨sb, sc, rb, rc, A, cc, mb, H⟩ := h.out.box
  rw [hd] at H
  go_enter Try.func18, Try.ntmps18
  go_wp2_with fail
  refine (ready_any a H).mono ?_
  rintro e w1 ⟨rfl, h1⟩
  have e1 : readyE false n a = 0 := by simp [readyE, ha]
  rw [e1]
  clear e1 H
  have D := Lib.hid (h.out.below h1)
  obtain ⟨sb, sc, rb, rc, A, cc, mb, hB, f1, f2, f3, f4, f5, lt⟩ := D.out
  obtain ⟨k0, k1, k2, k3, k4⟩ := drv_cells hB.box
  have r0 : w1.cell? ⟨rb, a, none⟩ = some (.bool true) := by rw [hB.ro.cellAt a (by omega)]; simp [hr]
  have hk0 : (0 : Int) ≤ (a : Int) := Int.natCast_nonneg _
  have hk1 : (a : Int) < (n : Int) := by omega
  have ho3 : (off : Int) ≤ 60 := by omega
  have hmb : (mask == 0) = false := by simpa using hm
  clear hB h D
  go_wp2_with fail
  go_ret
  exact ⟨rfl, h1⟩

set_option maxRecDepth 100000 in
theorem rotten_any {F : Nat → Prop} {w : World} {p n : Nat} {st : DSt} (h : Hid (DrvAt F w p n st)) (hd : st.dead = false) (a : Nat) (ha : a < n) {r : Bool} (hr : st.rotten[a]? = some r) :
    Calls Try.prog 19 #[.pointer (some ⟨p, 0, none⟩), .int .i64 a] w fun e w' => e = .returned (.bool r) ∧ Below w.heap.size w w' := by
  obtain ⟨sb, sc, rb, rc, A, cc, mb, H⟩ := h.out.box
  rw [hd] at H
  go_enter Try.func19, Try.ntmps19
  go_wp2_with fail
  refine (none_any H).mono ?_
  rintro e w1 ⟨rfl, h1⟩
  have H1 := Lib.hid (H.out.below h1)
  obtain ⟨k0, k1, k2, k3, k4⟩ := drv_cells H1.out
  go_wp2_with fail
  refine (has_any a H1).mono ?_
  rintro e w2 ⟨rfl, h2⟩
  have e1 : decide (0 ≤ (a : Int) ∧ (a : Int) < n) = true := by simp; omega
  rw [e1]
  have h12 := h1.trans (h2.mono h1.size)
  have D := Lib.hid (h.out.below h12)
  clear k0 k1 k2 k3 k4 H H1 h1 h2 e1 h
  obtain ⟨sb, sc, rb, rc, A, cc, mb, hB, f1, f2, f3, f4, f5, lt⟩ := D.out
  obtain ⟨k0, k1, k2, k3, k4⟩ := drv_cells hB.box
  have r0 : w2.cell? ⟨rb, a, none⟩ = some (.bool r) := by rw [hB.ro.cellAt a (by omega)]; simp [hr]
  have hk0 : (0 : Int) ≤ (a : Int) := Int.natCast_nonneg _
  have hk1 : (a : Int) < (n : Int) := by omega
  clear hB D
  go_wp2_with fail
  go_ret
  exact ⟨rfl, h12⟩

set_option maxRecDepth 100000 in
theorem write_bad {F : Nat → Prop} {w : World} {p n : Nat} {st : DSt} (h : Hid (DrvAt F w p n st)) (z : Int) (hz : readyE st.dead n z ≠ 0) (v : Value) :
    Calls Try.prog 12 #[.pointer (some ⟨p, 0, none⟩), .int .i64 z, v] w fun e w' => e = .returned (.int .i64 (readyE st.dead n z)) ∧ Below w.heap.size w w' := by
  obtain ⟨sb, sc, rb, rc, A, cc, mb, H⟩ := h.out.box
  go_enter Try.func12, Try.ntmps12
  go_wp2_with fail
  refine (ready_any z H).mono ?_
  rintro e w1 ⟨rfl, h1⟩
  obtain ⟨E, hE⟩ : ∃ E, readyE st.dead n z = E := ⟨_, rfl⟩
  rw [hE] at hz ⊢
  have hz2 : (E == 0) = false := by simpa using hz
  have hz3 : (E != 0) = true := by simpa using hz
  have HE := Lib.hid hE
  clear hE H
  go_wp2_with fail
  go_ret
  exact ⟨by rw [HE.out]; rfl, h1⟩
end Go.Proofs.Ytolmpopjonkfgaa
