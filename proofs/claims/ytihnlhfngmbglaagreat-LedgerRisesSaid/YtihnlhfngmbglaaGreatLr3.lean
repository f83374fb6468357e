/-
  Rot, Rotten.
  What the laws need of the states, of bytes as text, and the example of the page.
  DriveKeeps, walked.
  Arguments as readings; the last step of a law's proof.
  Puts and bools among the arguments.
  DriveRots, walked.
  What a drive does, whatever it is asked: Stored; Write, Rot, Flush, Rotten of any drive.
  Copy.
  The drive: Rot and Flush, whatever is asked; Rotten of a dead drive.
  Drives side by side: how they lie.
  Drives side by side: one drive.
  Drives side by side: what changes one; how many answers are so.
-/
import Derived.Test.YtihnlhfngmbglaaGreatLr2
import Derived.Laws.BytesArg
import Derived.Test.YtihnlhfngmbglaaGreatLr1
import Derived.ProofKit
import Derived.OpenShut
import Derived.Deep.Slices
import Derived.Deep.Fields
import Derived.Carry
import Derived.ChangeSame
import Derived.Deep.LoopGhost
import Derived.Maps.RangeWalk
set_option linter.unusedSimpArgs false
set_option linter.unusedVariables false
namespace Go.Proofs.YtihnlhfngmbglaaGreat
open Go.RowKit Go.Cib
attribute [local go_sem] cell_set Later.cell Later.frozen Grw.cell Grw.frozen
section

/-- One byte's rot. -/
def rotV (v mask : Int) (i : Nat) : Int := bits BinOp.xor IntKind.u8 v (IntKind.u8.wrap (mask / 2 ^ (8 * (i : Int)).toNat))
def rotTo (x : List Int) (off : Nat) (mask : Int) : Nat → List Int
  | 0 => x
  | i + 1 => (rotTo x off mask i).set (off + i) (rotV (((rotTo x off mask i)[off + i]?).getD 0) mask i)
theorem rotTo_len (x : List Int) (off : Nat) (mask : Int) : ∀ i, (rotTo x off mask i).length = x.length
  | 0 => rfl
  | i + 1 => by rw [rotTo, List.length_set, rotTo_len x off mask i]
def DSt.rotAt (st : DSt) (a off : Nat) (mask : Int) (i : Nat) : DSt := { st with stored := st.stored.set a (rotTo ((st.stored[a]?).getD []) off mask i) }
def DSt.rot (st : DSt) (a off : Nat) (mask : Int) : DSt := { st.rotAt a off mask 4 with rotten := st.rotten.set a true }
theorem rotAt_zero (st : DSt) (a off : Nat) (mask : Int) : st.rotAt a off mask 0 = st := by
  simp only [DSt.rotAt, rotTo]
  by_cases h : a < st.stored.length
  · rw [List.getElem?_eq_getElem h]; simp
  · rw [List.set_eq_of_length_le (by omega)]
theorem flatten_setOne {α : Type} {s : Nat} : ∀ (css : List (List α)) (_ : ∀ cs ∈ css, cs.length = s) (i : Nat) (cs : List α) (j : Nat) (u : α), css[i]? = some cs → j < s → css.flatten.set (i * s + j) u = (css.set i (cs.set j u)).flatten
  | [], _, i, cs, j, u, h, _ => by simp at h
  | c :: css, hl, 0, cs, j, u, h, hj => by
    have h1 : c.length = s := hl c (by simp)
    simp only [List.getElem?_cons_zero, Option.some.injEq] at h
    subst h
    rw [List.flatten_cons, Nat.zero_mul, Nat.zero_add, List.set_append_left _ _ (by omega)]; rfl
  | c :: css, hl, i + 1, cs, j, u, h, hj => by
    have h1 : c.length = s := hl c (by simp)
    have ih := flatten_setOne css (fun x hx => hl x (List.mem_cons_of_mem _ hx)) i cs j u (by simpa using h) hj
    have e : (i + 1) * s + j - c.length = i * s + j := by rw [Nat.add_mul]; omega
    rw [List.flatten_cons, List.set_append_right _ _ (by rw [Nat.add_mul]; omega), e, ih]; rfl
/-- One byte of a sector is set. -/
theorem DrvB.byte {w w' : World} {p n sb sc rb rc : Nat} {A : Option Addr} {cc mb : Nat} {st : DSt} (h : DrvB w p n sb sc rb rc A cc mb st) {a j : Nat} {x : List Int} {v : Int} (ha : a < n) (hx : st.stored[a]? = some x) (hj : j < 64)
    (hw : w' = (w.setCell ⟨sb, a * 64 + j, none⟩ (.int .u8 v)).drew) : DrvB w' p n sb sc rb rc A cc mb { st with stored := st.stored.set a (x.set j v) } := by
  have hok := h.ok
  have hl : x.length = 64 := hok.s64 x (List.mem_of_getElem? hx)
  have hc64 : ∀ cs ∈ st.stored.map secCells, cs.length = 64 := fun cs hcs => by obtain ⟨y, hy, rfl⟩ := List.mem_map.1 hcs; simp [secCells, hok.s64 y hy]
  have o1 := (h.so.stored (a * 64 + j) (.int .u8 v)).1
  rw [flatten_setOne _ hc64 a (secCells x) j _ (by simp [hx]) hj] at o1
  have e1 : (secCells x).set j (.int .u8 v) = secCells (x.set j v) := by simp [secCells, List.map_set]
  rw [e1] at o1
  have hr : st.rotten.set a ((st.rotten[a]?).getD false) = st.rotten := by
    rw [List.getElem?_eq_getElem (by rw [hok.rl]; exact ha)]; simp
  have hr2 : (st.rotten.map Value.bool).set a (.bool ((st.rotten[a]?).getD false)) = st.rotten.map Value.bool := by rw [← List.map_set, hr]
  have := h.put (w' := w') (s := x.set j v) (r := (st.rotten[a]?).getD false) ha (by simp [hl]) (fun k h1 h2 => by rw [hw]; exact Below.heap_setCell _ _ _ _ h1) (by rw [hw]; exact o1) (by
    rw [hr2, hw]; exact ownsRow_keep h.ro (by rintro k ⟨⟩; exact Below.heap_setCell _ _ _ _ (fun e => h.sr e.symm)))
  rw [hr] at this
  exact this
theorem DrvB.mark {w : World} {p n sb sc rb rc : Nat} {A : Option Addr} {cc mb : Nat} {st : DSt} (h : DrvB w p n sb sc rb rc A cc mb st) {a : Nat} (ha : a < n) (r : Bool) : DrvB (w.setCell ⟨rb, a, none⟩ (.bool r)) p n sb sc rb rc A cc mb { st with rotten := st.rotten.set a r } := by
  have hok := h.ok
  have hal : a < st.stored.length := by rw [hok.sl]; exact ha
  have hs : st.stored.set a st.stored[a] = st.stored := by simp
  have hs2 : (st.stored.map secCells).set a (secCells st.stored[a]) = st.stored.map secCells := by rw [← List.map_set, hs]
  have := h.put (w' := w.setCell ⟨rb, a, none⟩ (.bool r)) (s := st.stored[a]) (r := r) ha (hok.s64 _ (List.getElem_mem _)) (fun k h1 h2 => Below.heap_setCell _ _ _ _ h2) (by
    rw [hs2]; exact ownsRow_keep h.so (by rintro k ⟨⟩; exact Below.heap_setCell _ _ _ _ h.sr)) ((h.ro.stored a (.bool r)).1)
  rw [hs] at this
  exact this

set_option maxRecDepth 100000 in
set_option maxHeartbeats 4000000 in
theorem rot_good {F : Nat → Prop} {w : World} {p n : Nat} {st : DSt} (h : Hid (DrvAt F w p n st)) (hd : st.dead = false) (a : Nat) (ha : a < n) (off : Nat) (hoff : off ≤ 60) (mask : Int) (hm : ¬ mask = 0) (hr : st.rotten[a]? = some false) :
    Calls Tryz.prog 78 #[.pointer (some ⟨p, 0, none⟩), .int .i64 a, .int .i64 off, .int .u32 mask] w fun e w' => e = .returned (.int .i64 0) ∧ Upd F w w' p n (st.rot a off mask) := by
  obtain ⟨sb, sc, rb, rc, A, cc, mb, H⟩ := h.out.box
  rw [hd] at H
  go_enter Tryz.func78, Tryz.ntmps78
  go_wp2_with fail
  refine (dready_any a H).mono ?_
  rintro e w1 ⟨rfl, h1⟩
  have e1 : readyE false n a = 0 := by simp [readyE, ha]
  rw [e1]
  clear e1 H
  have D := Lib.hid (h.out.below h1)
  have U := Lib.hid (Keep.of_below (F := F) h1)
  have s1 := h1.size
  clear h h1
  obtain ⟨sb, sc, rb, rc, A, cc, mb, hB, f1, f2, f3, f4, f5, lt⟩ := D.out
  obtain ⟨k0, k1, k2, k3, k4⟩ := drv_cells hB.box
  have r0 : w1.cell? ⟨rb, a, none⟩ = some (.bool false) := by rw [hB.ro.cellAt a (by omega)]; simp [hr]
  have hk0 : (0 : Int) ≤ (a : Int) := Int.natCast_nonneg _
  have hk1 : (a : Int) < (n : Int) := by omega
  have ho0 : (0 : Int) ≤ (off : Int) := Int.natCast_nonneg _
  have ho1 : ¬ (off : Int) < 0 := by omega
  have ho2 : ¬ (60 : Int) < (off : Int) := by omega
  have ho3 : (off : Int) ≤ 60 := by omega
  have hmb : (mask == 0) = false := by simpa using hm
  have HB := Lib.hid hB
  clear hB
  go_wp2_with fail
  clear k0 k1 k2 k3 k4 r0
  go_loopw [36] (fun vi wr => ∃ i : Nat, i ≤ 4 ∧ vi = .int .i64 i ∧ Hid (DrvB wr p n sb sc rb rc A cc mb (st.rotAt a off mask i)) ∧ Hid (Keep F w1 wr)) (fun vi _ => 4 - (intOf vi).toNat)
  case atStart => exact ⟨0, by omega, rfl, by rw [rotAt_zero]; exact HB, Lib.hid (Keep.refl _ _)⟩
  case round =>
    obtain ⟨i, hi, rfl, hD, hK⟩ := hrel
    by_cases hlt : i < 4
    · obtain ⟨k0, k1, k2, k3, k4⟩ := drv_cells hD.out.box
      have hal : a < st.stored.length := by rw [HB.out.ok.sl]; exact ha
      obtain ⟨y, hy⟩ : ∃ y, (st.rotAt a off mask i).stored[a]? = some y := ⟨_, List.getElem?_eq_getElem (by simpa [DSt.rotAt] using hal)⟩
      have hyr : y = rotTo ((st.stored[a]?).getD []) off mask i := by simpa [DSt.rotAt, hal] using hy.symm
      have hyl : y.length = 64 := hD.out.ok.s64 y (List.mem_of_getElem? hy)
      obtain ⟨v, hvy⟩ : ∃ v, y[off + i]? = some v := ⟨_, List.getElem?_eq_getElem (by omega)⟩
      have hv : wr.cell? ⟨sb, a * 64 + (off + i), none⟩ = some (.int .u8 v) := by
        have hc64 : ∀ cs ∈ (st.rotAt a off mask i).stored.map secCells, cs.length = 64 := fun cs hcs => by obtain ⟨u, hu, rfl⟩ := List.mem_map.1 hcs; simp [secCells, hD.out.ok.s64 u hu]
        exact ownsRow_range hD.out.so hc64 (i := a) (cs := secCells y) (by simp [hy]) (by simp [hD.out.ok.sl]) (off + i) _ (by simp [secCells, hvy])
      have HY := Lib.hid (And.intro hy (And.intro hyr hvy))
      clear hy hyr hvy hyl hal
      have hps : p ≠ sb := hD.out.ps
      have z1 : wr.frozen? ⟨sb, a * 64 + (off + i), none⟩ = false := hD.out.so.frozenAt _
      have hoi : IntKind.i64.wrap ((off : Int) + (i : Int)) = (off : Int) + (i : Int) := by rw [IntKind.wrap_i64]; omega
      have hoj : (0 : Int) ≤ (off : Int) + (i : Int) := by omega
      have hok : (off : Int) + (i : Int) < 64 := by omega
      have hot : ((off : Int) + (i : Int)).toNat = off + i := by omega
      have h8 : IntKind.i64.wrap (8 * (i : Int)) = ((8 * i : Nat) : Int) := by rw [IntKind.wrap_i64]; omega
      have h80 : (0 : Int) ≤ ((8 * i : Nat) : Int) := Int.natCast_nonneg _
      go_wp2_with fail
      refine wp_region_held_drew (S := (fun w' => w'.cell? ⟨p, 0, none⟩ = some (.slice (some ⟨sb, 0, none⟩) n sc))) (by kernel_rfl) (by first | exact k0 | (exact cell_setCell_ne (w := World.drew _) k0 hps)) (fun hHeld => ?_)
      refine wpAnyH_take (i := 0) (v := ?_) rfl (by kernel_rfl) (by kernel_rfl) (by kernel_rfl) (fun _ _ _ h => h) (Or.inl ⟨by rfl, ?_⟩) (by assumption) ?_
      rotate_left
      · (intro wq hSw; (try dsimp only at hSw); (try simp only [zz1, zz2, zz3]); go_simp); try with_reducible rfl
      try simp only [zz1, zz2, zz3, Act.put, zz4, zz5, zz6]
      refine wpAnyH_take (i := 1) (v := ?_) rfl (by kernel_rfl) (by kernel_rfl) (by kernel_rfl) (fun _ _ _ h => h) (Or.inl ⟨by rfl, ?_⟩) (by assumption) ?_
      rotate_left
      · (intro wq hSw; (try dsimp only at hSw); (try simp only [zz1, zz2, zz3]); go_simp); try with_reducible rfl
      try simp only [zz1, zz2, zz3, Act.put, zz4, zz5, zz6]
      refine wpAnyH_take (i := 2) (v := ?_) rfl (by kernel_rfl) (by kernel_rfl) (by kernel_rfl) (fun _ _ _ h => h) (Or.inl ⟨by rfl, ?_⟩) (by assumption) ?_
      rotate_left
      · (intro wq hSw; (try dsimp only at hSw); (try simp only [zz1, zz2, zz3]); go_simp); try with_reducible rfl
      try simp only [zz1, zz2, zz3, Act.put, zz4, zz5, zz6]
      refine wpAnyH_take (i := 3) (v := ?_) rfl (by kernel_rfl) (by kernel_rfl) (by kernel_rfl) (fun _ _ _ h => h) (Or.inl ⟨by rfl, ?_⟩) (by assumption) ?_
      rotate_left
      · (intro wq hSw; (try dsimp only at hSw); (try simp only [zz1, zz2, zz3]); go_simp); try with_reducible rfl
      try simp only [zz1, zz2, zz3, Act.put, zz4, zz5, zz6]
      refine wpAnyH_take (i := 4) (v := ?_) rfl (by kernel_rfl) (by kernel_rfl) (by kernel_rfl) (fun _ _ _ h => h) (Or.inl ⟨by rfl, ?_⟩) (by assumption) ?_
      rotate_left
      · (intro wq hSw; (try dsimp only at hSw); (try simp only [zz1, zz2, zz3]); go_simp); try with_reducible rfl
      try simp only [zz1, zz2, zz3, Act.put, zz4, zz5, zz6]
      refine wpAnyH_take (i := 5) (v := ?_) rfl (by kernel_rfl) (by kernel_rfl) (by kernel_rfl) (fun _ _ _ h => h) (Or.inl ⟨by rfl, ?_⟩) (by assumption) ?_
      rotate_left
      · (intro wq hSw; (try dsimp only at hSw); (try simp only [zz1, zz2, zz3]); go_simp); try with_reducible rfl
      try simp only [zz1, zz2, zz3, Act.put, zz4, zz5, zz6]
      refine wpAnyH_take (i := 6) (v := ?_) rfl (by kernel_rfl) (by kernel_rfl) (by kernel_rfl) (fun _ _ _ h => h) (Or.inl ⟨by rfl, ?_⟩) (by assumption) ?_
      rotate_left
      · (intro wq hSw; (try dsimp only at hSw); (try simp only [zz1, zz2, zz3]); go_simp); try with_reducible rfl
      try simp only [zz1, zz2, zz3, Act.put, zz4, zz5, zz6]
      refine wpAnyH_take (i := 7) (v := ?_) rfl (by kernel_rfl) (by kernel_rfl) (by kernel_rfl) (fun _ _ _ h => h) (Or.inl ⟨by rfl, ?_⟩) (by assumption) ?_
      rotate_left
      · (intro wq hSw; (try dsimp only at hSw); (try simp only [zz1, zz2, zz3]); go_simp); try with_reducible rfl
      try simp only [zz1, zz2, zz3, Act.put, zz4, zz5, zz6]
      refine wpAnyH_take (i := 8) (v := ?_) rfl (by kernel_rfl) (by kernel_rfl) (by kernel_rfl) (fun _ _ _ h => h) (Or.inl ⟨by rfl, ?_⟩) (by assumption) ?_
      rotate_left
      · (intro wq hSw; (try dsimp only at hSw); (try simp only [zz1, zz2, zz3]); go_simp); try with_reducible rfl
      try simp only [zz1, zz2, zz3, Act.put, zz4, zz5, zz6]
      refine wpAnyH_take (i := 11) (v := ?_) rfl (by kernel_rfl) (by kernel_rfl) (by kernel_rfl) (fun _ _ _ h => h) (Or.inl ⟨by rfl, ?_⟩) (by assumption) ?_
      rotate_left
      · (intro wq hSw; (try dsimp only at hSw); (try simp only [zz1, zz2, zz3]); go_simp); try with_reducible rfl
      try simp only [zz1, zz2, zz3, Act.put, zz4, zz5, zz6]
      refine wpAnyH_take (i := 12) (v := ?_) rfl (by kernel_rfl) (by kernel_rfl) (by kernel_rfl) (fun _ _ _ h => h) (Or.inl ⟨by rfl, ?_⟩) (by assumption) ?_
      rotate_left
      · (intro wq hSw; (try dsimp only at hSw); (try simp only [zz1, zz2, zz3]); go_simp); try with_reducible rfl
      try simp only [zz1, zz2, zz3, Act.put, zz4, zz5, zz6]
      refine wpAnyH_take (i := 13) (v := ?_) rfl (by kernel_rfl) (by kernel_rfl) (by kernel_rfl) (fun _ _ _ h => h) (Or.inl ⟨by rfl, ?_⟩) (by assumption) ?_
      rotate_left
      · (intro wq hSw; (try dsimp only at hSw); (try simp only [zz1, zz2, zz3]); go_simp); try with_reducible rfl
      try simp only [zz1, zz2, zz3, Act.put, zz4, zz5, zz6]
      refine wpAnyH_take (i := 14) (v := ?_) rfl (by kernel_rfl) (by kernel_rfl) (by kernel_rfl) (fun _ _ _ h => h) (Or.inl ⟨by rfl, ?_⟩) (by assumption) ?_
      rotate_left
      · (intro wq hSw; (try dsimp only at hSw); (try simp only [zz1, zz2, zz3]); go_simp); try with_reducible rfl
      try simp only [zz1, zz2, zz3, Act.put, zz4, zz5, zz6]
      refine wpAnyH_take (i := 15) (v := ?_) rfl (by kernel_rfl) (by kernel_rfl) (by kernel_rfl) (fun _ _ _ h => h) (Or.inl ⟨by rfl, ?_⟩) (by assumption) ?_
      rotate_left
      · (intro wq hSw; (try dsimp only at hSw); (try simp only [zz1, zz2, zz3]); go_simp); try with_reducible rfl
      try simp only [zz1, zz2, zz3, Act.put, zz4, zz5, zz6]
      refine wpAnyH_take (i := 17) (v := ?_) rfl (by kernel_rfl) (by kernel_rfl) (by kernel_rfl) (fun _ _ _ h => h) (Or.inl ⟨by rfl, ?_⟩) (by assumption) ?_
      rotate_left
      · (intro wq hSw; (try dsimp only at hSw); (try simp only [zz1, zz2, zz3]); go_simp); try with_reducible rfl
      try simp only [zz1, zz2, zz3, Act.put, zz4, zz5, zz6]
      refine rdH 9 rfl fun K hK => ?_
      try simp only [zz1, zz2, zz3]
      go_simp
      refine hK.out _ _ (by first | exact k0 | (exact cell_setCell_ne (w := World.drew _) k0 hps)) (fun hHeld => ?_)
      clear hK K
      try simp only [zz1, zz2, zz3, Act.put, zz4, zz5, zz6]
      refine rdH 10 rfl fun K hK => ?_
      try simp only [zz1, zz2, zz3]
      go_simp
      refine hK.out _ _ (by first | exact k0 | (exact cell_setCell_ne (w := World.drew _) k0 hps)) (fun hHeld => ?_)
      clear hK K
      try simp only [zz1, zz2, zz3, Act.put, zz4, zz5, zz6]
      refine wpAnyH_take (i := 16) (v := ?_) rfl (by kernel_rfl) (by kernel_rfl) (by kernel_rfl) (fun _ _ _ h => h) (Or.inl ⟨by rfl, ?_⟩) (by assumption) ?_
      rotate_left
      · (intro wq hSw; (try dsimp only at hSw); (try simp only [zz1, zz2, zz3]); go_simp); try with_reducible rfl
      try simp only [zz1, zz2, zz3, Act.put, zz4, zz5, zz6]
      refine wpAnyH_take (i := 18) (v := ?_) rfl (by kernel_rfl) (by kernel_rfl) (by kernel_rfl) (fun _ _ _ h => h) (Or.inl ⟨by rfl, ?_⟩) (by assumption) ?_
      rotate_left
      · (intro wq hSw; (try dsimp only at hSw); (try simp only [zz1, zz2, zz3]); go_simp); try with_reducible rfl
      try simp only [zz1, zz2, zz3, Act.put, zz4, zz5, zz6]
      refine rdH 19 rfl fun K hK => ?_
      try simp only [zz1, zz2, zz3]
      go_simp
      refine hK.out _ _ (by first | exact k0 | (exact cell_setCell_ne (w := World.drew _) k0 hps)) (fun hHeld => ?_)
      clear hK K
      try simp only [zz1, zz2, zz3, Act.put, zz4, zz5, zz6]
      refine wpAnyH_done (by kernel_rfl) ?_ _
      go_wp2_with fail
      obtain ⟨hy, hyr, hvy⟩ := HY.out
      refine ⟨⟨i + 1, by omega, by go_num, Lib.hid ?_, Lib.hid ?_⟩, by simp [intOf]; omega⟩
      · have := hD.out.byte (j := off + i) (v := rotV v mask i) ha hy (by omega) rfl
        have e : { st.rotAt a off mask i with stored := (st.rotAt a off mask i).stored.set a (y.set (off + i) (rotV v mask i)) } = st.rotAt a off mask (i + 1) := by
          simp only [DSt.rotAt, rotTo, List.set_set, hyr] at hvy ⊢
          rw [hvy]; rfl
        rw [e] at this
        exact this
      · refine hK.out.trans (G := F) (Keep.trans (F := F) (G := fun _ => False) (Keep.setCell (Keep.refl F wr) (fun _ => f2) _) ⟨rfl, rfl, rfl, Nat.le_refl _, fun _ _ _ => rfl⟩ (fun _ h => h.elim)) (fun k h _ => h)
    · obtain rfl : i = 4 := by omega
      obtain ⟨k0, k1, k2, k3, k4⟩ := drv_cells hD.out.box
      have r0 : wr.cell? ⟨rb, a, none⟩ = some (.bool false) := by rw [hD.out.ro.cellAt a (by omega)]; simp [DSt.rotAt, hr]
      have z0 : wr.frozen? ⟨rb, a, none⟩ = false := hD.out.ro.frozenAt a
      go_wp2_with fail
      go_ret
      have hKF : Keep F w1 (wr.setCell ⟨rb, a, none⟩ (.bool true)) := hK.out.setCell (fun _ => f3) _
      refine ⟨rfl, F, ⟨sb, sc, rb, rc, A, cc, mb, hD.out.mark ha true, f1, f2, f3, f4, f5, fun k hk => ?_⟩, fun k hk _ => hk, U.out.trans hKF (fun k h _ => h)⟩
      exact Nat.lt_of_lt_of_le (lt k hk) hKF.size

set_option maxRecDepth 100000 in
theorem rot_again {F : Nat → Prop} {w : World} {p n : Nat} {st : DSt} (h : Hid (DrvAt F w p n st)) (hd : st.dead = false) (a : Nat) (ha : a < n) (off : Nat) (hoff : off ≤ 60) (mask : Int) (hm : ¬ mask = 0) (hr : st.rotten[a]? = some true) :
    Calls Tryz.prog 78 #[.pointer (some ⟨p, 0, none⟩), .int .i64 a, .int .i64 off, .int .u32 mask] w fun e w' => e = .returned (.int .i64 91) ∧ Below w.heap.size w w' := by
  obtain ⟨sb, sc, rb, rc, A, cc, mb, H⟩ := h.out.box
  rw [hd] at H
  go_enter Tryz.func78, Tryz.ntmps78
  go_wp2_with fail
  refine (dready_any a H).mono ?_
  rintro e w1 ⟨rfl, h1⟩
  have e1 : readyE false n a = 0 := by simp [readyE, ha]
  rw [e1]
  clear e1 H
  have D := Lib.hid (h.out.below h1)
  obtain ⟨sb, sc, rb, rc, A, cc, mb, hB, f1, f2, f3, f4, f5, lt⟩ := D.out
  obtain ⟨k0, k1, k2, k3, k4⟩ := drv_cells hB.box
  have r0 : w1.cell? ⟨rb, a, none⟩ = some (.bool true) := by rw [hB.ro.cellAt a (by omega)]; simp [hr]
  have hk0 : (0 : Int) ≤ (a : Int) := Int.natCast_nonneg _
  have hk1 : (a : Int) < (n : Int) := by omega
  have ho3 : (off : Int) ≤ 60 := by omega
  have hmb : (mask == 0) = false := by simpa using hm
  clear hB h D
  go_wp2_with fail
  go_ret
  exact ⟨rfl, h1⟩

set_option maxRecDepth 100000 in
theorem write_bad {F : Nat → Prop} {w : World} {p n : Nat} {st : DSt} (h : Hid (DrvAt F w p n st)) (z : Int) (hz : readyE st.dead n z ≠ 0) (v : Value) :
    Calls Tryz.prog 215 #[.pointer (some ⟨p, 0, none⟩), .int .i64 z, v] w fun e w' => e = .returned (.int .i64 (readyE st.dead n z)) ∧ Below w.heap.size w w' := by
  obtain ⟨sb, sc, rb, rc, A, cc, mb, H⟩ := h.out.box
  go_enter Tryz.func215, Tryz.ntmps215
  go_wp2_with fail
  refine (dready_any z H).mono ?_
  rintro e w1 ⟨rfl, h1⟩
  obtain ⟨E, hE⟩ : ∃ E, readyE st.dead n z = E := ⟨_, rfl⟩
  rw [hE] at hz ⊢
  have hz2 : (E == 0) = false := by simpa using hz
  have hz3 : (E != 0) = true := by simpa using hz
  have HE := Lib.hid hE
  clear hE H
  go_wp2_with fail
  go_ret
  exact ⟨by rw [HE.out]; rfl, h1⟩
end
section

/-! ### States -/
def rep (z : Int) : List Int := List.replicate 64 z
theorem rep_len (z : Int) : (rep z).length = 64 := by simp [rep]
theorem putL_true : ∀ (c : List (Int × List Int)) (i : Nat) (xs : List (List Int)) (k : Nat), (∀ p ∈ c, 0 ≤ p.1) → k < xs.length →
    (putL (fun _ => true) i c xs)[k]? = (match lastIx c k with | some j => (c[j]?).map (·.2) | none => xs[k]?)
  | [], i, xs, k, _, _ => by simp [putL, lastIx]
  | p :: c, i, xs, k, hc, hk => by
    rw [putL, putL_true c (i + 1) _ k (fun q hq => hc q (List.mem_cons_of_mem _ hq)) (by simpa using hk), lastIx]
    cases h : lastIx c k with
    | some j => simp
    | none =>
      have h0 := hc p (by simp)
      simp only [↓reduceIte]
      by_cases hpk : p.1 = k
      · have : p.1.toNat = k := by omega
        simp [hpk, this, hk]
      · have : p.1.toNat ≠ k := by omega
        simp [hpk, List.getElem?_set_ne this]
theorem DSt.ok.seen_flush {st : DSt} {n : Nat} (h : st.ok n) {k : Nat} (hk : k < n) : (st.settle fun _ => true).seen k = st.seen k := by
  have h1 := putL_true st.cache 0 st.stored k (fun p hp => (h.cat p hp).1) (by rw [h.sl]; exact hk)
  unfold DSt.seen
  have h2 : lastIx (st.settle fun _ => true).cache k = none := rfl
  rw [h2]
  show ((putL (fun _ => true) 0 st.cache st.stored)[k]?).getD [] = _
  rw [h1]
  cases lastIx st.cache k <;> rfl
theorem DSt.seen_nil {st : DSt} (h : st.cache = []) (k : Nat) : st.seen k = (st.stored[k]?).getD [] := by
  unfold DSt.seen; rw [h]; rfl
theorem DSt.seen_new {n k : Nat} (hk : k < n) : (DSt.new n).seen k = rep 0 := by
  rw [DSt.seen_nil rfl]; simp [DSt.new, hk, rep]

/-! ### Bytes as text -/
theorem u8_exact {S : Nat → Prop} {w : World} {A : Option Addr} {n : Nat} {bs : List Int} (h : RdL U8R 1 S w A n bs) (hn : 0 < n) : ∃ b o, A = some ⟨b, o, none⟩ ∧ S b ∧ b < w.heap.size ∧ RdL U8R 1 (· = b) w (some ⟨b, o, none⟩) n bs := by
  obtain ⟨b, o, hA, hS, hlt, hc⟩ := h.2 hn
  exact ⟨b, o, hA, hS, hlt, h.1, fun _ => ⟨b, o, rfl, rfl, hlt, hc⟩⟩
theorem not_new {F F' : Nat → Prop} {w : World} {b : Nat} (hF : ∀ k, F' k → k < w.heap.size → F k) (hb : b < w.heap.size) (h : ¬ F b) : ¬ F' b := fun h2 => h (hF b h2 hb)

theorem below_then {w0 w1 w2 : World} (h2 : Below w1.heap.size w1 w2) (h1 : Below w0.heap.size w0 w1) : Below w0.heap.size w0 w2 := h1.trans (h2.mono h1.size)
/-- The world as it is in the midst of a law, whose drive is its own. -/
structure Own (w : World) (F : Nat → Prop) (w' : World) : Prop where
  below : Below w.heap.size w w'
  own : ∀ b, F b → w.heap.size ≤ b
theorem Own.later {w w1 w2 : World} {F : Nat → Prop} (h : Own w F w1) (hb : Below w1.heap.size w1 w2) : Own w F w2 := ⟨h.below.trans (hb.mono h.below.size), h.own⟩
theorem Own.upd {w w1 w2 : World} {F F' : Nat → Prop} (h : Own w F w1) (hF : ∀ k, F' k → k < w1.heap.size → F k) (hk : Keep F w1 w2) : Own w F' w2 :=
  ⟨h.below.trans (hk.below h.below.size h.own), fun b hb => by
    by_cases hlt : b < w1.heap.size
    · exact h.own b (hF b hb hlt)
    · have := h.below.size; omega⟩

end
section

theorem run_min_as (ts : Array TypeId) (t : TypeId) (x y : Int) (w : World) : (Builtin.min_ ts t #[.int .i64 x, .int .i64 y]).run Tryz.prog w = .ok (.int .i64 (min x y)) w := by
  rw [run_min_int2, show (if y < x then y else x) = min x y by omega]
theorem run_max_as (ts : Array TypeId) (t : TypeId) (x y : Int) (w : World) : (Builtin.max_ ts t #[.int .i64 x, .int .i64 y]).run Tryz.prog w = .ok (.int .i64 (max x y)) w := by
  rw [run_max_int2]
  congr 2
  omega
attribute [local go_sem ↓] run_min_as run_max_as

/-- A put: a place and a byte. -/
def PutR (_ : Nat → Prop) (_ : World) (cs : List Value) (x : Int × Int) : Prop := cs = [.int .i64 x.1, .int .u8 x.2]
theorem PutR.stable : Stable PutR := fun _ _ _ _ _ _ h _ => h

/-- In the midst of a law: what was noted is hl, what the drive's sectors are is sl. -/
structure Mid (w : World) (F : Nat → Prop) (wr : World) (p n hb : Nat) (st : DSt) (hl sl : List Int) : Prop where
  own : Own w F wr
  drv : DrvAt F wr p n st
  live : st.dead = false
  had : BoxAt wr hb ((hl.map (Value.int .u8)).toArray)
  len : hl.length = n
  len2 : sl.length = n
  out : ¬ F hb
  new : w.heap.size ≤ hb
  sees : ∀ k (h : k < n), st.seen k = rep (sl[k]'(by omega))

theorem Mid.later {w w1 w2 : World} {F : Nat → Prop} {p n hb : Nat} {st : DSt} {hl sl : List Int} (h : Mid w F w1 p n hb st hl sl) (hb2 : Below w1.heap.size w1 w2) : Mid w F w2 p n hb st hl sl :=
  { h with own := h.own.later hb2, drv := h.drv.below hb2, had := h.had.below hb2 }
theorem Mid.upd {w w1 w2 : World} {F F' : Nat → Prop} {p n hb : Nat} {st st' : DSt} {hl sl sl' : List Int} (h : Mid w F w1 p n hb st hl sl) (hD : DrvAt F' w2 p n st') (hF : ∀ k, F' k → k < w1.heap.size → F k) (hK : Keep F w1 w2) (hd : st'.dead = false)
    (h2 : sl'.length = n) (hs : ∀ k (h : k < n), st'.seen k = rep (sl'[k]'(by omega))) : Mid w F' w2 p n hb st' hl sl' :=
  ⟨h.own.upd hF hK, hD, hd, h.had.keeps hK h.out, h.len, h2, not_new hF h.had.lt h.out, h.new, hs⟩
theorem Mid.write {w w1 w2 : World} {F F' : Nat → Prop} {p n hb : Nat} {st : DSt} {hl sl : List Int} (h : Mid w F w1 p n hb st hl sl) {k : Nat} (hk : k < n) {z : Int} (hD : DrvAt F' w2 p n (st.write k (rep z))) (hF : ∀ k, F' k → k < w1.heap.size → F k) (hK : Keep F w1 w2) :
    Mid w F' w2 p n hb (st.write k (rep z)) hl (sl.set k z) := by
  refine h.upd hD hF hK h.live (by simp [h.len2]) (fun j hj => ?_)
  rw [DSt.seen_write]
  by_cases e : k = j
  · subst e; simp
  · have : ¬ (k : Int) = j := by omega
    simp [this, List.getElem_set_ne e, h.sees j hj]
theorem Mid.flush {w w1 w2 : World} {F F' : Nat → Prop} {p n hb : Nat} {st : DSt} {hl sl : List Int} (h : Mid w F w1 p n hb st hl sl) (hD : DrvAt F' w2 p n (st.settle fun _ => true)) (hF : ∀ k, F' k → k < w1.heap.size → F k) (hK : Keep F w1 w2) :
    Mid w F' w2 p n hb (st.settle fun _ => true) hl sl :=
  h.upd hD hF hK h.live h.len2 (fun j hj => (h.drv.ok.seen_flush hj).trans (h.sees j hj))
end
end Go.Proofs.YtihnlhfngmbglaaGreat
set_option linter.unusedSimpArgs false
set_option linter.unusedVariables false
namespace Go.Cib
open Go.RowKit Go.ChangeShapes Go.WideShapes Go.Deep

section
variable {P : Program} {X : Type}

/-- What reads as data of type t reads by R. -/
def Opens (P : Program) (t : TypeId) (R : (Nat → Prop) → World → List Value → X → Prop) (s : Nat) : Prop :=
  P.cellsOf t = s ∧ 0 < s ∧ ∀ (H : Type) (enc : TypeId × Value → H) (w : World) (base : Nat) (spare : Nat → Bool) (held : Bool) (fuel : Nat) (cs : List Value) (x : DataW H × List MemPlace),
    cs.length = s → DataW.trod enc P w base spare held fuel t cs = some x → ∃ y : X, R (fun _ => True) w cs y

theorem opens_slice {R : (Nat → Prop) → World → List Value → X → Prop} {t e : TypeId} {s : Nat} (ht : P.underlying t = some (.slice e)) (ho : Opens P e R s) {H : Type} {enc : TypeId × Value → H} {w : World} {base : Nat} {spare : Nat → Bool} {held : Bool} {fuel : Nat} {cs : List Value} {x : DataW H × List MemPlace}
    (h : DataW.trod enc P w base spare held fuel t cs = some x) : ∃ A n c xs, cs = [.slice A n c] ∧ n ≤ c ∧ c ≤ maxLen ∧ RdL R s (fun _ => True) w A n xs := by
  obtain ⟨hs, hpos, hR⟩ := ho
  rcases open_slice ht h with ⟨rfl, _⟩ | ⟨a, len, cap, m, n, D, Pl, rfl, hb, hl, hm, hmm, hx, hi⟩
  · exact ⟨none, 0, 0, [], rfl, Nat.le_refl _, by simp [maxLen], RdL.nil⟩
  · have hlm : len ≤ m := by rw [hmm]; split <;> omega
    rw [hs] at hi
    have hel : ∀ i, i < len → ∃ (cs' : List Value) (y : X), cs'.length = s ∧ R (fun _ => True) w cs' y ∧ ∀ j v, cs'[j]? = some v → w.cell? ((a.add (i * s)).add j) = some v := by
      intro i hil
      obtain ⟨cs', h1, h2⟩ := hi i (by omega)
      obtain ⟨_, h3, h4⟩ := World.cells?_some h1
      obtain ⟨y, hy⟩ := hR _ _ _ _ _ _ _ _ _ h3 h2
      exact ⟨cs', y, h3, hy, fun j v hj => by
        have hjl := (List.getElem?_eq_some_iff.1 hj).1
        rw [h4 j (by omega), hj]⟩
    rcases Nat.eq_zero_or_pos len with h0 | h0
    · subst h0
      exact ⟨some a, 0, cap, [], rfl, hl, hm, RdL.nil⟩
    · have hspot : a.spot = none := by
        obtain ⟨cs', y, h1, _, h2⟩ := hel 0 h0
        have h3 := h2 0 (cs'[0]'(by omega)) (List.getElem?_eq_getElem (by omega))
        simp only [Nat.zero_mul, Addr.add, if_true] at h3
        unfold World.cell? at h3
        split at h3
        · split at h3
          · cases h3
          · rename_i hs; simpa using hs
        · cases h3
      obtain ⟨b, o, sp⟩ := a
      simp only at hspot
      subst hspot
      have hxs : ∀ k, k ≤ len → ∃ xs : List X, xs.length = k ∧ ∀ i y, xs[i]? = some y → ∃ cs' : List Value, cs'.length = s ∧ R (fun _ => True) w cs' y ∧ ∀ j v, cs'[j]? = some v → w.cell? ⟨b, o + i * s + j, none⟩ = some v := by
        intro k
        induction k with
        | zero => exact fun _ => ⟨[], rfl, by simp⟩
        | succ k ih =>
          intro hk
          obtain ⟨xs, e1, e2⟩ := ih (by omega)
          obtain ⟨cs', y, h1, h2, h3⟩ := hel k (by omega)
          refine ⟨xs ++ [y], by simp [e1], fun i y' hy' => ?_⟩
          by_cases hik : i < k
          · rw [List.getElem?_append_left (by omega)] at hy'
            exact e2 i y' hy'
          · have hie : i = k := by
              have := (List.getElem?_eq_some_iff.1 hy').1
              simp [e1] at this; omega
            subst hie
            rw [List.getElem?_append_right (by omega)] at hy'
            simp only [e1, Nat.sub_self, List.getElem?_cons_zero, Option.some.injEq] at hy'
            subst hy'
            exact ⟨cs', h1, h2, fun j v hj => by have := h3 j v hj; rw [Addr.add_lit, Addr.add_lit] at this; exact this⟩
      obtain ⟨xs, e1, e2⟩ := hxs len (Nat.le_refl _)
      obtain ⟨cs', y, h1, _, h3⟩ := hel 0 h0
      have hblt : b < w.heap.size := by
        have := h3 0 (cs'[0]'(by omega)) (List.getElem?_eq_getElem (by omega))
        have := World.block_lt_of_cell? w _ this
        simpa [Addr.add_lit] using this
      exact ⟨some ⟨b, o, none⟩, len, cap, xs, rfl, hl, hm, e1, fun _ => ⟨b, o, rfl, trivial, hblt, e2⟩⟩

/-- A slice among the arguments. -/
theorem open_rd {R : (Nat → Prop) → World → List Value → X → Prop} {t e : TypeId} {s : Nat} (ht : P.underlying t = some (.slice e)) (ho : Opens P e R s) {H : Type} {enc : TypeId × Value → H} {w : World} {base b0 : Nat} {spare : Nat → Bool} {held : Bool} {r : Reach} {v : Value} {d : DataW H} {ps : List MemPlace}
    (hval : Value.okWide P w r b0 t v) (h : DataW.Trod enc P w base spare held t v d ps) : ∃ A n c xs, v = .slice A n c ∧ n ≤ c ∧ c ≤ maxLen ∧ RdL R s (fun _ => True) w A n xs := by
  obtain ⟨A, n, c, rfl⟩ := okWide_slice ht hval
  obtain ⟨fuel, hf⟩ := h
  obtain ⟨A', n', c', xs, e1, e2, e3, e4⟩ := opens_slice ht ho hf
  simp only [Value.cells, List.cons.injEq, and_true, Value.slice.injEq] at e1
  obtain ⟨rfl, rfl, rfl⟩ := e1
  exact ⟨A, n, c, xs, rfl, e2, e3, e4⟩
end

section
variable {H : Type} {enc : TypeId × Value → H} {P : Program}

theorem trodAll_stays (hl : laidOutB P = true) {W W' : World} (hb : Below W.heap.size W W') : ∀ (ts : List TypeId) (vs : List Value) (ds : List (DataW H)) (ps : List MemPlace), (∀ t ∈ ts, P.readableRec t = true ∧ t < P.types.size) → (∀ x ∈ ps, x.block < W.heap.size) →
    DataW.TrodAll enc P W 0 (fun _ => true) true ts vs ds ps → DataW.TrodAll enc P W' 0 (fun b => decide (b < W.heap.size)) true ts vs ds ps
  | [], vs, ds, ps, _, _, h => by
    obtain ⟨rfl, rfl, rfl⟩ := trodAll_nil h
    exact trodAll_mk0
  | t :: ts, vs, ds, ps, hr, hlt, h => by
    obtain ⟨v, vs', d, ds', p, q, rfl, rfl, rfl, hd, hrest⟩ := trodAll_cons h
    have h1 := Below.trod hl (hr t (by simp)).1 (hr t (by simp)).2 hd hb (fun x hx => hlt x (by simp [hx]))
    have h2 := trodAll_stays hl hb ts vs' ds' q (fun u hu => hr u (List.mem_cons_of_mem _ hu)) (fun x hx => hlt x (by simp [hx])) hrest
    exact trodAll_cons_mk h1 h2

/-- The end of a law's proof: it answered true, and what was there is as it was. -/
theorem law_post {f : Func} {s : ChangeSpec} {W W' : World} {args : Array Value} {ds gs : List (DataW H)} {before : List MemPlace} {tb : TypeId} (hl : laidOutB P = true) (hr : ∀ t ∈ f.params.toList, P.readableRec t = true ∧ t < P.types.size)
    (hres : f.resultTypes = #[tb]) (htb : P.underlying tb = some .bool) (hvars : s.vars = []) (hfn : (s.fn H (ds ++ gs)).results = [.lit (.bool true)] ∧ (s.fn H (ds ++ gs)).args = ds ∧ (s.fn H (ds ++ gs)).vars = [])
    (hW : DataW.Whole enc P f.params.toList s.vars false W args.toList ds gs before) (hb : Below W.heap.size W W') :
    s.post enc P f false true false false W args (.bool true) W' := by
  have hlt : ∀ p ∈ before, p.block < W.heap.size := fun p hp => hW.lt p hp
  have hW2 := hW
  obtain ⟨p, q, hA, hV, rfl, hz, hn⟩ := hW2
  rw [hvars] at hV
  obtain ⟨rfl, rfl⟩ := trodVars_none hV
  simp only [List.append_nil] at hlt hfn hz hW ⊢
  have hargs := trodAll_stays hl hb _ _ _ _ hr hlt hA
  have hr1 : ∀ (b : Nat) (sp : Nat → Bool) (hd : Bool), DataW.TrodAll enc P W' b sp hd f.resultTypes.toList ((Value.bool true).resultList f.resultTypes.size) (s.fn H ds).results [] := fun b sp hd => by
    rw [hres, hfn.1]
    exact trodAll_mk1 (shut_bool htb true)
  refine ⟨ds, [], p, [], p, [], hW, by rw [List.append_nil]; exact hr1 _ _ _, by rw [List.append_nil, hfn.2.1]; exact hargs, by rw [List.append_nil, hvars, hfn.2.2]; exact rfl, World.keptBut_mono (fun x hx => ⟨hx, .inr (.inl hx)⟩) (hb.frame (· ∈ p)), fun h => by cases h⟩
end
end Go.Cib

set_option linter.unusedSimpArgs false
set_option linter.unusedVariables false
namespace Go.Proofs.YtihnlhfngmbglaaGreat
open Go.RowKit Go.Cib
attribute [local go_sem] cell_set Later.cell Later.frozen Grw.cell Grw.frozen
section
open Go.ChangeShapes Go.WideShapes Go.ChangeAt Go.Deep

theorem laidOut_ : laidOutB Tryz.prog = true := by kernel_rfl
theorem ownKnob_ : ownKnob Tryz.prog.godebug = none := by kernel_rfl
end
section

theorem freshL_false (keep : Nat → Bool) : ∀ (c : List (Int × List Int)) (i : Nat) (xs : List Bool), (∀ r ∈ xs, r = false) → ∀ r ∈ freshL keep i c xs, r = false
  | [], i, xs, h, r, hr => h r hr
  | q :: c, i, xs, h, r, hr => by
    refine freshL_false keep c (i + 1) _ ?_ r hr
    intro y hy
    split at hy
    · rcases List.mem_or_eq_of_mem_set hy with h1 | h1
      · exact h y h1
      · exact h1
    · exact h y hy
theorem rotV_eq (v mask : Int) (j : Nat) : rotV v mask j = bits BinOp.xor IntKind.u8 v (mask / 2 ^ (8 * j) % 256) := by
  unfold rotV
  rw [show (8 * (j : Int)).toNat = 8 * j by omega, IntKind.wrap_u8]
end
section
attribute [local go_sem ↓] shut_load shut_load65 shut_zero shut_zero65 shut_store shut_store65
attribute [local go_sem] run_shutZero run_shutZero65 run_shutStore run_shutStore65 run_shutLoad_set there_new there_new65

set_option maxRecDepth 100000 in
theorem write_len {F : Nat → Prop} {w : World} {p n : Nat} {st : DSt} (h : Hid (DrvAt F w p n st)) (z : Int) (hz : readyE st.dead n z = 0) (A : Option Addr) (m c : Nat) (hm : m ≠ 64) :
    Calls Tryz.prog 215 #[.pointer (some ⟨p, 0, none⟩), .int .i64 z, .slice A m c] w fun e w' => e = .returned (.int .i64 2) ∧ Below w.heap.size w w' := by
  obtain ⟨sb, sc, rb, rc, A, cc, mb, H⟩ := h.out.box
  go_enter Tryz.func215, Tryz.ntmps215
  go_wp2_with fail
  refine (dready_any z H).mono ?_
  rintro e w1 ⟨rfl, h1⟩
  rw [hz]
  have hz2 : ((m : Int) == 64) = false := by simp; omega
  have hz3 : ((m : Int) != 64) = true := by simp; omega
  have hz4 : ¬ (m : Int) = 64 := by omega
  clear H
  go_wp2_with fail
  go_ret
  exact ⟨rfl, h1⟩

/-- Write, whatever is asked. -/
theorem write_all {F : Nat → Prop} {w : World} {p n : Nat} {st : DSt} (h : Hid (DrvAt F w p n st)) (z : Int) {S : Nat → Prop} {A : Option Addr} {m c : Nat} {bs : List Int} (hb : Hid (RdL U8R 1 S w A m bs)) (hS : ∀ b, S b → ¬ F b) (hcl : st.cache.length < 1000000) :
    Calls Tryz.prog 215 #[.pointer (some ⟨p, 0, none⟩), .int .i64 z, .slice A m c] w fun e w' => e = .returned (.int .i64 (writeE st.dead n z m)) ∧ Upd F w w' p n (if readyE st.dead n z = 0 ∧ m = 64 then st.write z bs else st) := by
  by_cases hz : readyE st.dead n z = 0
  · by_cases hm : m = 64
    · subst hm
      have hd : st.dead = false := by
        cases hdd : st.dead with
        | false => rfl
        | true => rw [hdd] at hz; simp [readyE] at hz
      have hr : 0 ≤ z ∧ z < n := by
        rw [hd] at hz
        by_cases h0 : 0 ≤ z ∧ z < n
        · exact h0
        · simp [readyE, h0] at hz
      obtain ⟨b, o, rfl, hSb, _⟩ := hb.out.addr (k := 0) (by omega)
      obtain ⟨k, rfl⟩ : ∃ k : Nat, z = k := ⟨z.toNat, by omega⟩
      refine (write_good h hd k (by omega) hb (hS b hSb) hcl).mono ?_
      rintro e w' ⟨rfl, hu⟩
      rw [if_pos ⟨hz, rfl⟩]
      exact ⟨by simp [writeE, hz], hu⟩
    · refine (write_len h z hz A m c hm).mono ?_
      rintro e w' ⟨rfl, hu⟩
      rw [if_neg (fun h => hm h.2)]
      exact ⟨by simp [writeE, hz, hm], h.out.upd hu⟩
  · refine (write_bad h z hz _).mono ?_
    rintro e w' ⟨rfl, hu⟩
    rw [if_neg (fun h => hz h.1)]
    exact ⟨by simp [writeE, hz], h.out.upd hu⟩
end
section

theorem run_clone {P : Program} (w : World) {T E : TypeId} {z : Value} {size bytes : Nat} (st : SlTy P T E z size bytes) (ty : TypeId) {A : Option Addr} {m c : Nat} {xs : List Value} (hown : w.ownsRow 0 E size (.slice A m c) m xs) (h1 : ∀ u ∈ xs, u.oneCell' = true) (hb : m * bytes ≤ 140737488355328) (hm : m ≤ maxLen) :
    ∃ v' w', (Builtin.append_ #[T, T] ty #[.slice none 0 0, .slice A m c]).run P w = .ok v' w' ∧ w'.ownsRow w.heap.size E size v' m xs ∧ w.grownBy w' none := by
  obtain ⟨i, hi, hz, hsz, hby⟩ := info_parts st.info
  have hl := hown.1
  rcases hown.2 with ⟨e, h0⟩ | ⟨g, cap, cur, e, hg, hcell, hnc, hcm, hcs, htake⟩
  · subst h0
    obtain ⟨rfl, rfl⟩ : A = none ∧ c = 0 := by simpa using e
    have hx : xs = [] := List.length_eq_zero_iff.1 (by simpa using hl)
    subst hx
    exact ⟨.slice none 0 0, w, by simp [Builtin.append_, run_underlying st.und, sizeOf, typeInfo, hi, Builtin.lenOf, Builtin.firstCells], World.ownsRow_nil _ _ _ _, ⟨rfl, rfl, rfl, Nat.le_refl _, fun _ _ _ => rfl⟩⟩
  · obtain ⟨rfl, rfl⟩ : A = some ⟨g, 0, none⟩ ∧ c = cap := by simpa using e
    obtain ⟨v', w', h2, h3, h4, _, h6⟩ := run_append_own_at (P := P) w w.heap.size T ty E i z size bytes st.und hi hz hsz hby st.zsz st.pos (.slice none 0 0) 0 [] (World.ownsRow_nil _ _ _ _) ⟨g, 0, none⟩ m c xs hl (fun j u hj => by
      have hjl := (List.getElem?_eq_some_iff.1 hj).1
      rw [Addr.add_mid, Nat.zero_add, hown.cellAt j (by omega)]; exact hj) h1 (by omega) (by rw [Nat.zero_add]; exact hb) (Nat.le_refl _)
    exact ⟨v', w', h2, by simpa using h3, h4⟩
theorem step_clone {P : Program} {ops : Array Oper} {o : Oper} {a : Act} {w : World} {K : Act → World → Prop} {Q : Exit → Act → World → Prop} {X : Prop} (hgd : o.guard = none) (s x : Operand) (T : TypeId)
    (ho : o.op = .call { callee := .builtin .append, args := #[s, x], argTypes := #[T, T] }) {E : TypeId} {z : Value} {size bytes : Nat} (st : SlTy P T E z size bytes) {A : Option Addr} {m c : Nat} {xs : List Value} (hown : w.ownsRow 0 E size (.slice A m c) m xs ∧ ∀ u ∈ xs, u.oneCell' = true)
    (hs : a.eval s = .slice none 0 0) (hx : a.eval x = .slice A m c) (hb : m * bytes ≤ 140737488355328) (hm : m ≤ maxLen)
    (h : ∀ v' w', w'.ownsRow w.heap.size E size v' m xs → w.grownBy w' none → K (a.put o.dst v') w') : if Region.wanted o (yielded ops a.tmps) = true then Oper.wp P o a w K Q else X := by
  have hw : Region.wanted o (yielded ops a.tmps) = true := by simp [Region.wanted, hgd]
  rw [if_pos hw]
  obtain ⟨v', w', h1, h2, h3⟩ := run_clone w st o.type hown.1 hown.2 hb hm
  unfold Oper.wp execOp
  simp only [ho, resolve, invoke, builtin, Sem.run_bind, Sem.run_pure, Result.andThen_ok, List.map_toArray, List.map_cons, List.map_nil, hs, hx, h1]
  exact h v' w' h2 h3

theorem slSec : SlTy Tryz.prog 185 198 (.agg secZC) 64 64 := ⟨Tryz.underlying185, by kernel_rfl, secZC_size, by omega⟩
theorem slWait : SlTy Tryz.prog 186 244 (.agg waitZC) 65 72 := ⟨Tryz.underlying186, by kernel_rfl, waitZC_size, by omega⟩
theorem slBool : SlTy Tryz.prog 118 4 (.bool false) 1 1 := ⟨Tryz.underlying118, by kernel_rfl, rfl, by omega⟩
theorem rows_one {α : Type} {f : α → List Value} (hf : ∀ x, ∀ u ∈ f x, u.oneCell' = true) (xs : List α) : ∀ u ∈ (xs.map f).flatten, u.oneCell' = true := by
  intro u hu
  obtain ⟨l, hl, hul⟩ := List.mem_flatten.1 hu
  obtain ⟨x, _, rfl⟩ := List.mem_map.1 hl
  exact hf x u hul
theorem bools_one (xs : List Bool) : ∀ u ∈ xs.map Value.bool, u.oneCell' = true := by
  intro u hu
  obtain ⟨x, _, rfl⟩ := List.mem_map.1 hu
  rfl
theorem undrew {w w' : World} {r : Option Nat} (h : w.drew.grownBy w' r) : w.grownBy w' r := ⟨h.os, h.tape, h.output, h.size, h.block⟩
theorem own_form {w : World} {b : Nat} {e : TypeId} {size : Nat} {v : Value} {n : Nat} {xs : List Value} (h : w.ownsRow b e size v n xs) : ∃ A c, v = .slice A n c := by
  rcases h.2 with ⟨rfl, rfl⟩ | ⟨g, cap, cur, rfl, _⟩
  · exact ⟨none, 0, rfl⟩
  · exact ⟨_, cap, rfl⟩
theorem own_base {w : World} {b b2 : Nat} {e : TypeId} {size : Nat} {v : Value} {n : Nat} {xs : List Value} (h : w.ownsRow b e size v n xs) (hb : b2 ≤ b) : w.ownsRow b2 e size v n xs := by
  rcases h with ⟨h1, h2 | ⟨g, cap, cur, rfl, h3, h4⟩⟩
  · exact ⟨h1, .inl h2⟩
  · exact ⟨h1, .inr ⟨g, cap, cur, rfl, Nat.le_trans hb h3, h4⟩⟩
theorem grown_below {w w' : World} (h : w.grownBy w' none) : Below w.heap.size w w' := ⟨h.os, h.tape, h.output, h.size, fun k hk => h.block k hk (by simp)⟩

set_option maxRecDepth 100000 in
set_option maxHeartbeats 8000000 in
theorem copy_any {F : Nat → Prop} {w : World} {p n : Nat} {st : DSt} (h : Hid (DrvAt F w p n st)) (hcl : st.cache.length < 1000000) :
    Calls Tryz.prog 76 #[.pointer (some ⟨p, 0, none⟩)] w fun e w' => ∃ p' F', e = .returned (.pointer (some ⟨p', 0, none⟩)) ∧ DrvAt F' w' p' n st ∧ (∀ b, F' b → w.heap.size ≤ b) ∧ Below w.heap.size w w' := by
  obtain ⟨sb, sc, rb, rc, A, cc, mb, H⟩ := h.out.box
  go_enter Tryz.func76, Tryz.ntmps76
  go_wp2_with fail
  refine (dnone_any H).mono ?_
  rintro e w1 ⟨rfl, h1⟩
  clear H
  obtain ⟨sb, sc, rb, rc, A, cc, mb, hB, f1, f2, f3, f4, f5, lt⟩ := h.out.below h1
  obtain ⟨k0, k1, k2, k3, k4⟩ := drv_cells hB.box
  have h1s := h1.size
  have HB := Lib.hid hB
  have H1 := Lib.hid h1
  have m3 := @run_makeMap Tryz.prog
  have k4a : ∀ o, (w1.alloc o).cell? ⟨p, 4, none⟩ = some (.bool st.dead) := fun o => cell_alloc2 k4 o
  obtain ⟨mq, hmq⟩ : ∃ mq, w1.heap.size = mq := ⟨_, rfl⟩
  obtain ⟨W, hW⟩ : ∃ W, (w1.alloc (.map #[] 0)).alloc (.cells #[.slice none 0 0, .slice none 0 0, .slice none 0 0, .map (some mq), .bool st.dead] 189) = W := ⟨_, rfl⟩
  obtain ⟨q, hq⟩ : ∃ q, mq + 1 = q := ⟨_, rfl⟩
  have a1 : Below w1.heap.size w1 W := by rw [← hW]; exact ((Below.refl _ _).alloc (Nat.le_refl _) _).alloc (by simp) _
  have X1 : BoxAt W q #[.slice none 0 0, .slice none 0 0, .slice none 0 0, .map (some mq), .bool st.dead] := by
    rw [← hW, ← hq]
    have := BoxAt.new (w1.alloc (.map #[] 0)) #[.slice none 0 0, .slice none 0 0, .slice none 0 0, .map (some mq), .bool st.dead] 189
    simpa [hmq] using this
  have Mq : MapAt (Value.int .i64) W mq ([] : List (Int × Value)) := by
    rw [← hW, ← hmq]
    exact (MapAt.new (Value.int .i64) w1).alloc _
  have hpq : p ≠ q := by have := lt p f1; omega
  have A1 := Lib.hid a1
  have HX := Lib.hid X1
  have HM := Lib.hid Mq
  have hpl : p < w1.heap.size := lt p f1
  have hmqq : mq ≠ q := by omega
  have hqs : w1.heap.size ≤ q := by omega
  have h600 := hB.n600
  have hq0 : q < W.heap.size := X1.lt
  have hqa := hq0
  clear hB h a1 X1 Mq h1 f1 f2 f3 f4 f5 lt
  go_wp2_with fail
  clear m3 hW k4a
  have kd0 : W.cell? ⟨p, 0, none⟩ = some (.slice (some ⟨sb, 0, none⟩) n sc) := by rw [A1.out.cell (p := ⟨p, 0, none⟩) hpl]; exact k0
  have kq0 : W.cell? ⟨q, 0, none⟩ = some (.slice none 0 0) := HX.out.cell 0
  have kf0 : W.frozen? ⟨q, 0, none⟩ = false := HX.out.frozen 0
  have KA0 : ∀ w', World.grownBy (World.drew W) w' none → w'.cell? ⟨p, 0, none⟩ = some (.slice (some ⟨sb, 0, none⟩) n sc) := fun w' hg => cell_far2 (w := World.drew W) kd0 hg (by simp)
  have KQ0 : ∀ w', World.grownBy (World.drew W) w' none → w'.cell? ⟨q, 0, none⟩ = some (.slice none 0 0) ∧ w'.frozen? ⟨q, 0, none⟩ = false := fun w' hg => ⟨cell_far2 (w := World.drew W) kq0 hg (by simp), frozen_far2 (w := World.drew W) kq0 kf0 hg (by simp)⟩
  have KS0 : ∀ (w' : World) (v : Value), w'.cell? ⟨p, 0, none⟩ = some (.slice (some ⟨sb, 0, none⟩) n sc) → (w'.setCell ⟨q, 0, none⟩ v).cell? ⟨p, 0, none⟩ = some (.slice (some ⟨sb, 0, none⟩) n sc) := fun w' v h => cell_setCell_ne h hpq
  have KO0 := And.intro (World.ownsRow.drew (ownsRow_keep (w' := W) HB.out.so (fun k hk => A1.out.block k (HB.out.so.lt k hk).2))) (rows_one (f := secCells) (fun x u hu => secCells_one u hu) st.stored)
  have KK0 := Lib.hid KQ0
  clear KQ0
  refine wp_region_held_drew (S := (fun w' => w'.cell? ⟨p, 0, none⟩ = some (.slice (some ⟨sb, 0, none⟩) n sc))) (by kernel_rfl) (by first | exact kd0 | exact KA0 _ hg0 | exact KS0 _ _ (KA0 _ hg0)) (fun hHeld => ?_)
  refine wpAnyH_take (i := 0) (v := ?_) rfl (by kernel_rfl) (by kernel_rfl) (by kernel_rfl) (fun _ _ _ h => h) (Or.inl ⟨by rfl, ?_⟩) (by assumption) ?_
  rotate_left
  · (intro wq hSw; (try dsimp only at hSw); (try simp only [zz1, zz2, zz3]); go_simp); try with_reducible rfl
  try simp only [zz1, zz2, zz3, Act.put, zz4, zz5, zz6]
  refine wpAnyH_take (i := 1) (v := ?_) rfl (by kernel_rfl) (by kernel_rfl) (by kernel_rfl) (fun _ _ _ h => h) (Or.inl ⟨by rfl, ?_⟩) (by assumption) ?_
  rotate_left
  · (intro wq hSw; (try dsimp only at hSw); (try simp only [zz1, zz2, zz3]); go_simp); try with_reducible rfl
  try simp only [zz1, zz2, zz3, Act.put, zz4, zz5, zz6]
  refine wpAnyH_take (i := 2) (v := ?_) rfl (by kernel_rfl) (by kernel_rfl) (by kernel_rfl) (fun _ _ _ h => h) (Or.inl ⟨by rfl, ?_⟩) (by assumption) ?_
  rotate_left
  · (intro wq hSw; (try dsimp only at hSw); (try simp only [zz1, zz2, zz3]); go_simp); try with_reducible rfl
  try simp only [zz1, zz2, zz3, Act.put, zz4, zz5, zz6]
  refine wpAnyH_take (i := 3) (v := ?_) rfl (by kernel_rfl) (by kernel_rfl) (by kernel_rfl) (fun _ _ _ h => h) (Or.inl ⟨by rfl, ?_⟩) (by assumption) ?_
  rotate_left
  · (intro wq hSw; (try dsimp only at hSw); (try simp only [zz1, zz2, zz3]); go_simp); try with_reducible rfl
  try simp only [zz1, zz2, zz3, Act.put, zz4, zz5, zz6]
  refine wpAnyH_take (i := 5) (v := ?_) rfl (by kernel_rfl) (by kernel_rfl) (by kernel_rfl) (fun _ _ _ h => h) (Or.inl ⟨by rfl, ?_⟩) (by assumption) ?_
  rotate_left
  · (intro wq hSw; (try dsimp only at hSw); (try simp only [zz1, zz2, zz3]); go_simp); try with_reducible rfl
  try simp only [zz1, zz2, zz3, Act.put, zz4, zz5, zz6]
  refine wpAnyH_take (i := 6) (v := ?_) rfl (by kernel_rfl) (by kernel_rfl) (by kernel_rfl) (fun _ _ _ h => h) (Or.inl ⟨by rfl, ?_⟩) (by assumption) ?_
  rotate_left
  · (intro wq hSw; (try dsimp only at hSw); (try simp only [zz1, zz2, zz3]); go_simp); try with_reducible rfl
  try simp only [zz1, zz2, zz3, Act.put, zz4, zz5, zz6]
  refine wpAnyH_take (i := 7) (v := ?_) rfl (by kernel_rfl) (by kernel_rfl) (by kernel_rfl) (fun _ _ _ h => h) (Or.inl ⟨by rfl, ?_⟩) (by assumption) ?_
  rotate_left
  · (intro wq hSw; (try dsimp only at hSw); (try simp only [zz1, zz2, zz3]); go_simp); try with_reducible rfl
  try simp only [zz1, zz2, zz3, Act.put, zz4, zz5, zz6]
  refine wpAnyH_take (i := 8) (v := ?_) rfl (by kernel_rfl) (by kernel_rfl) (by kernel_rfl) (fun _ _ _ h => h) (Or.inl ⟨by rfl, ?_⟩) (by assumption) ?_
  rotate_left
  · (intro wq hSw; (try dsimp only at hSw); (try simp only [zz1, zz2, zz3]); go_simp); try with_reducible rfl
  try simp only [zz1, zz2, zz3, Act.put, zz4, zz5, zz6]
  refine rdH 4 rfl fun K hK => ?_
  try simp only [zz1, zz2, zz3]
  go_simp
  refine hK.out _ _ (by first | exact kd0 | exact KA0 _ hg0 | exact KS0 _ _ (KA0 _ hg0)) (fun hHeld => ?_)
  clear hK K
  try simp only [zz1, zz2, zz3, Act.put, zz4, zz5, zz6]
  refine rdH 9 rfl fun K hK => ?_
  refine step_clone (by rfl) _ _ 185 (by rfl) slSec KO0 (by rfl) (by rfl) (by omega) (by unfold maxLen; omega) ?_
  intro v0 w40 own0 hg0
  obtain ⟨B0, C0, rfl⟩ := own_form own0
  obtain ⟨kz0, zz0⟩ := KK0.out w40 hg0
  have gg0 := undrew hg0
  refine hK.out _ _ (by first | exact kd0 | exact KA0 _ hg0 | exact KS0 _ _ (KA0 _ hg0)) (fun hHeld => ?_)
  clear hK K
  try simp only [zz1, zz2, zz3, Act.put, zz4, zz5, zz6]
  refine wpAnyH_take (i := 10) (v := ?_) rfl (by kernel_rfl) (by kernel_rfl) (by kernel_rfl) (fun _ _ _ h => h) (Or.inl ⟨by rfl, ?_⟩) (by assumption) ?_
  rotate_left
  · (intro wq hSw; (try dsimp only at hSw); (try simp only [zz1, zz2, zz3]); go_simp); try with_reducible rfl
  try simp only [zz1, zz2, zz3, Act.put, zz4, zz5, zz6]
  refine wpAnyH_take (i := 11) (v := ?_) rfl (by kernel_rfl) (by kernel_rfl) (by kernel_rfl) (fun _ _ _ h => h) (Or.inl ⟨by rfl, ?_⟩) (by assumption) ?_
  rotate_left
  · (intro wq hSw; (try dsimp only at hSw); (try simp only [zz1, zz2, zz3]); go_simp); try with_reducible rfl
  try simp only [zz1, zz2, zz3, Act.put, zz4, zz5, zz6]
  refine rdH 12 rfl fun K hK => ?_
  try simp only [zz1, zz2, zz3]
  go_simp
  refine hK.out _ _ (by first | exact kd0 | exact KA0 _ hg0 | exact KS0 _ _ (KA0 _ hg0)) (fun hHeld => ?_)
  clear hK K
  try simp only [zz1, zz2, zz3, Act.put, zz4, zz5, zz6]
  refine wpAnyH_done (by kernel_rfl) ?_ _
  obtain ⟨Wa, hWa⟩ : ∃ x, w40.setCell ⟨q, 0, none⟩ (.slice B0 n C0) = x := ⟨_, rfl⟩
  have Aa : Hid (Below w1.heap.size w1 Wa) := Lib.hid (by rw [← hWa]; exact (A1.out.trans ((grown_below gg0).mono A1.out.size)).setCell hqs _)
  have Xa : Hid (BoxAt Wa q #[.slice B0 n C0, .slice none 0 0, .slice none 0 0, .map (some mq), .bool st.dead]) := Lib.hid (by rw [← hWa]; exact (HX.out.keep (gg0.block q HX.out.lt (by simp))).set 0 (.slice B0 n C0))
  have Ma : Hid (MapAt (Value.int .i64) Wa mq ([] : List (Int × Value))) := Lib.hid (by rw [← hWa]; exact (HM.out.keep (gg0.block mq HM.out.lt (by simp))).keep (Below.heap_setCell _ _ _ _ hmqq))
  have P0a : Hid (Wa.ownsRow W.heap.size _ _ (.slice B0 n C0) _ _) := Lib.hid (by rw [← hWa]; exact ownsRow_keep own0 (fun k hk => Below.heap_setCell _ _ _ _ (by have h1 := (own0.lt k hk).1; have h2 := HX.out.lt; show k ≠ q; simp at h1; omega)))
  have G0 : Hid (∀ k, Value.ownBlock (.slice B0 n C0) = some k → W.heap.size ≤ k ∧ k < Wa.heap.size) := Lib.hid (fun k hk => P0a.out.lt k hk)
  have hqa : q < Wa.heap.size := Xa.out.lt
  clear kd0 kq0 kf0 KA0 KS0 KO0 KK0 hg0 gg0 kz0 zz0 own0 hHeld
  try rw [hWa]
  go_wp2_with fail
  try rw [hWa]
  clear hWa
  have kd1 : Wa.cell? ⟨p, 1, none⟩ = some (.slice (some ⟨rb, 0, none⟩) n rc) := by rw [Aa.out.cell (p := ⟨p, 1, none⟩) hpl]; exact k1
  have kq1 : Wa.cell? ⟨q, 1, none⟩ = some (.slice none 0 0) := Xa.out.cell 1
  have kf1 : Wa.frozen? ⟨q, 1, none⟩ = false := Xa.out.frozen 1
  have KA1 : ∀ w', World.grownBy (World.drew Wa) w' none → w'.cell? ⟨p, 1, none⟩ = some (.slice (some ⟨rb, 0, none⟩) n rc) := fun w' hg => cell_far2 (w := World.drew Wa) kd1 hg (by simp)
  have KQ1 : ∀ w', World.grownBy (World.drew Wa) w' none → w'.cell? ⟨q, 1, none⟩ = some (.slice none 0 0) ∧ w'.frozen? ⟨q, 1, none⟩ = false := fun w' hg => ⟨cell_far2 (w := World.drew Wa) kq1 hg (by simp), frozen_far2 (w := World.drew Wa) kq1 kf1 hg (by simp)⟩
  have KS1 : ∀ (w' : World) (v : Value), w'.cell? ⟨p, 1, none⟩ = some (.slice (some ⟨rb, 0, none⟩) n rc) → (w'.setCell ⟨q, 1, none⟩ v).cell? ⟨p, 1, none⟩ = some (.slice (some ⟨rb, 0, none⟩) n rc) := fun w' v h => cell_setCell_ne h hpq
  have KO1 := And.intro (World.ownsRow.drew (ownsRow_keep (w' := Wa) HB.out.ro (fun k hk => Aa.out.block k (HB.out.ro.lt k hk).2))) (bools_one st.rotten)
  have KK1 := Lib.hid KQ1
  clear KQ1
  refine wp_region_held_drew (S := (fun w' => w'.cell? ⟨p, 1, none⟩ = some (.slice (some ⟨rb, 0, none⟩) n rc))) (by kernel_rfl) (by first | exact kd1 | exact KA1 _ hg1 | exact KS1 _ _ (KA1 _ hg1)) (fun hHeld => ?_)
  refine wpAnyH_take (i := 0) (v := ?_) rfl (by kernel_rfl) (by kernel_rfl) (by kernel_rfl) (fun _ _ _ h => h) (Or.inl ⟨by rfl, ?_⟩) (by assumption) ?_
  rotate_left
  · (intro wq hSw; (try dsimp only at hSw); (try simp only [zz1, zz2, zz3]); go_simp); try with_reducible rfl
  try simp only [zz1, zz2, zz3, Act.put, zz4, zz5, zz6]
  refine wpAnyH_take (i := 1) (v := ?_) rfl (by kernel_rfl) (by kernel_rfl) (by kernel_rfl) (fun _ _ _ h => h) (Or.inl ⟨by rfl, ?_⟩) (by assumption) ?_
  rotate_left
  · (intro wq hSw; (try dsimp only at hSw); (try simp only [zz1, zz2, zz3]); go_simp); try with_reducible rfl
  try simp only [zz1, zz2, zz3, Act.put, zz4, zz5, zz6]
  refine wpAnyH_take (i := 2) (v := ?_) rfl (by kernel_rfl) (by kernel_rfl) (by kernel_rfl) (fun _ _ _ h => h) (Or.inl ⟨by rfl, ?_⟩) (by assumption) ?_
  rotate_left
  · (intro wq hSw; (try dsimp only at hSw); (try simp only [zz1, zz2, zz3]); go_simp); try with_reducible rfl
  try simp only [zz1, zz2, zz3, Act.put, zz4, zz5, zz6]
  refine wpAnyH_take (i := 3) (v := ?_) rfl (by kernel_rfl) (by kernel_rfl) (by kernel_rfl) (fun _ _ _ h => h) (Or.inl ⟨by rfl, ?_⟩) (by assumption) ?_
  rotate_left
  · (intro wq hSw; (try dsimp only at hSw); (try simp only [zz1, zz2, zz3]); go_simp); try with_reducible rfl
  try simp only [zz1, zz2, zz3, Act.put, zz4, zz5, zz6]
  refine wpAnyH_take (i := 5) (v := ?_) rfl (by kernel_rfl) (by kernel_rfl) (by kernel_rfl) (fun _ _ _ h => h) (Or.inl ⟨by rfl, ?_⟩) (by assumption) ?_
  rotate_left
  · (intro wq hSw; (try dsimp only at hSw); (try simp only [zz1, zz2, zz3]); go_simp); try with_reducible rfl
  try simp only [zz1, zz2, zz3, Act.put, zz4, zz5, zz6]
  refine wpAnyH_take (i := 6) (v := ?_) rfl (by kernel_rfl) (by kernel_rfl) (by kernel_rfl) (fun _ _ _ h => h) (Or.inl ⟨by rfl, ?_⟩) (by assumption) ?_
  rotate_left
  · (intro wq hSw; (try dsimp only at hSw); (try simp only [zz1, zz2, zz3]); go_simp); try with_reducible rfl
  try simp only [zz1, zz2, zz3, Act.put, zz4, zz5, zz6]
  refine wpAnyH_take (i := 7) (v := ?_) rfl (by kernel_rfl) (by kernel_rfl) (by kernel_rfl) (fun _ _ _ h => h) (Or.inl ⟨by rfl, ?_⟩) (by assumption) ?_
  rotate_left
  · (intro wq hSw; (try dsimp only at hSw); (try simp only [zz1, zz2, zz3]); go_simp); try with_reducible rfl
  try simp only [zz1, zz2, zz3, Act.put, zz4, zz5, zz6]
  refine wpAnyH_take (i := 8) (v := ?_) rfl (by kernel_rfl) (by kernel_rfl) (by kernel_rfl) (fun _ _ _ h => h) (Or.inl ⟨by rfl, ?_⟩) (by assumption) ?_
  rotate_left
  · (intro wq hSw; (try dsimp only at hSw); (try simp only [zz1, zz2, zz3]); go_simp); try with_reducible rfl
  try simp only [zz1, zz2, zz3, Act.put, zz4, zz5, zz6]
  refine rdH 4 rfl fun K hK => ?_
  try simp only [zz1, zz2, zz3]
  go_simp
  refine hK.out _ _ (by first | exact kd1 | exact KA1 _ hg1 | exact KS1 _ _ (KA1 _ hg1)) (fun hHeld => ?_)
  clear hK K
  try simp only [zz1, zz2, zz3, Act.put, zz4, zz5, zz6]
  refine rdH 9 rfl fun K hK => ?_
  refine step_clone (by rfl) _ _ 118 (by rfl) slBool KO1 (by rfl) (by rfl) (by omega) (by unfold maxLen; omega) ?_
  intro v1 w41 own1 hg1
  obtain ⟨B1, C1, rfl⟩ := own_form own1
  obtain ⟨kz1, zz1⟩ := KK1.out w41 hg1
  have gg1 := undrew hg1
  refine hK.out _ _ (by first | exact kd1 | exact KA1 _ hg1 | exact KS1 _ _ (KA1 _ hg1)) (fun hHeld => ?_)
  clear hK K
  try simp only [zz1, zz2, zz3, Act.put, zz4, zz5, zz6]
  refine wpAnyH_take (i := 10) (v := ?_) rfl (by kernel_rfl) (by kernel_rfl) (by kernel_rfl) (fun _ _ _ h => h) (Or.inl ⟨by rfl, ?_⟩) (by assumption) ?_
  rotate_left
  · (intro wq hSw; (try dsimp only at hSw); (try simp only [zz1, zz2, zz3]); go_simp); try with_reducible rfl
  try simp only [zz1, zz2, zz3, Act.put, zz4, zz5, zz6]
  refine wpAnyH_take (i := 11) (v := ?_) rfl (by kernel_rfl) (by kernel_rfl) (by kernel_rfl) (fun _ _ _ h => h) (Or.inl ⟨by rfl, ?_⟩) (by assumption) ?_
  rotate_left
  · (intro wq hSw; (try dsimp only at hSw); (try simp only [zz1, zz2, zz3]); go_simp); try with_reducible rfl
  try simp only [zz1, zz2, zz3, Act.put, zz4, zz5, zz6]
  refine rdH 12 rfl fun K hK => ?_
  try simp only [zz1, zz2, zz3]
  go_simp
  refine hK.out _ _ (by first | exact kd1 | exact KA1 _ hg1 | exact KS1 _ _ (KA1 _ hg1)) (fun hHeld => ?_)
  clear hK K
  try simp only [zz1, zz2, zz3, Act.put, zz4, zz5, zz6]
  refine wpAnyH_done (by kernel_rfl) ?_ _
  obtain ⟨Wb, hWb⟩ : ∃ x, w41.setCell ⟨q, 1, none⟩ (.slice B1 n C1) = x := ⟨_, rfl⟩
  have Ab : Hid (Below w1.heap.size w1 Wb) := Lib.hid (by rw [← hWb]; exact (Aa.out.trans ((grown_below gg1).mono Aa.out.size)).setCell hqs _)
  have Xb : Hid (BoxAt Wb q #[.slice B0 n C0, .slice B1 n C1, .slice none 0 0, .map (some mq), .bool st.dead]) := Lib.hid (by rw [← hWb]; exact (Xa.out.keep (gg1.block q Xa.out.lt (by simp))).set 1 (.slice B1 n C1))
  have Mb : Hid (MapAt (Value.int .i64) Wb mq ([] : List (Int × Value))) := Lib.hid (by rw [← hWb]; exact (Ma.out.keep (gg1.block mq Ma.out.lt (by simp))).keep (Below.heap_setCell _ _ _ _ hmqq))
  have P0b := Lib.hid (ownsRow_keep (w' := Wb) P0a.out (fun k hk => by rw [← hWb]; exact (Below.heap_setCell _ _ _ _ (by have := (P0a.out.lt k hk).1; have := hq0; have := hqa; show k ≠ q; omega)).trans (gg1.block k (P0a.out.lt k hk).2 (by simp))))
  have P1b : Hid (Wb.ownsRow Wa.heap.size _ _ (.slice B1 n C1) _ _) := Lib.hid (by rw [← hWb]; exact ownsRow_keep own1 (fun k hk => Below.heap_setCell _ _ _ _ (by have h1 := (own1.lt k hk).1; have h2 := Xa.out.lt; show k ≠ q; simp at h1; omega)))
  have G1 : Hid (∀ k, Value.ownBlock (.slice B1 n C1) = some k → Wa.heap.size ≤ k ∧ k < Wb.heap.size) := Lib.hid (fun k hk => P1b.out.lt k hk)
  have hqb : q < Wb.heap.size := Xb.out.lt
  clear kd1 kq1 kf1 KA1 KS1 KO1 KK1 hg1 gg1 kz1 zz1 own1 hHeld
  try rw [hWb]
  go_wp2_with fail
  try rw [hWb]
  clear hWb
  have kd2 : Wb.cell? ⟨p, 2, none⟩ = some (.slice A st.cache.length cc) := by rw [Ab.out.cell (p := ⟨p, 2, none⟩) hpl]; exact k2
  have kq2 : Wb.cell? ⟨q, 2, none⟩ = some (.slice none 0 0) := Xb.out.cell 2
  have kf2 : Wb.frozen? ⟨q, 2, none⟩ = false := Xb.out.frozen 2
  have KA2 : ∀ w', World.grownBy (World.drew Wb) w' none → w'.cell? ⟨p, 2, none⟩ = some (.slice A st.cache.length cc) := fun w' hg => cell_far2 (w := World.drew Wb) kd2 hg (by simp)
  have KQ2 : ∀ w', World.grownBy (World.drew Wb) w' none → w'.cell? ⟨q, 2, none⟩ = some (.slice none 0 0) ∧ w'.frozen? ⟨q, 2, none⟩ = false := fun w' hg => ⟨cell_far2 (w := World.drew Wb) kq2 hg (by simp), frozen_far2 (w := World.drew Wb) kq2 kf2 hg (by simp)⟩
  have KS2 : ∀ (w' : World) (v : Value), w'.cell? ⟨p, 2, none⟩ = some (.slice A st.cache.length cc) → (w'.setCell ⟨q, 2, none⟩ v).cell? ⟨p, 2, none⟩ = some (.slice A st.cache.length cc) := fun w' v h => cell_setCell_ne h hpq
  have KO2 := And.intro (World.ownsRow.drew (ownsRow_keep (w' := Wb) HB.out.co (fun k hk => Ab.out.block k (HB.out.co.lt k hk).2))) (rows_one (f := waitCells) (fun x u hu => waitCells_one u hu) st.cache)
  have KK2 := Lib.hid KQ2
  clear KQ2
  refine wp_region_held_drew (S := (fun w' => w'.cell? ⟨p, 2, none⟩ = some (.slice A st.cache.length cc))) (by kernel_rfl) (by first | exact kd2 | exact KA2 _ hg2 | exact KS2 _ _ (KA2 _ hg2)) (fun hHeld => ?_)
  refine wpAnyH_take (i := 0) (v := ?_) rfl (by kernel_rfl) (by kernel_rfl) (by kernel_rfl) (fun _ _ _ h => h) (Or.inl ⟨by rfl, ?_⟩) (by assumption) ?_
  rotate_left
  · (intro wq hSw; (try dsimp only at hSw); (try simp only [zz1, zz2, zz3]); go_simp); try with_reducible rfl
  try simp only [zz1, zz2, zz3, Act.put, zz4, zz5, zz6]
  refine wpAnyH_take (i := 1) (v := ?_) rfl (by kernel_rfl) (by kernel_rfl) (by kernel_rfl) (fun _ _ _ h => h) (Or.inl ⟨by rfl, ?_⟩) (by assumption) ?_
  rotate_left
  · (intro wq hSw; (try dsimp only at hSw); (try simp only [zz1, zz2, zz3]); go_simp); try with_reducible rfl
  try simp only [zz1, zz2, zz3, Act.put, zz4, zz5, zz6]
  refine wpAnyH_take (i := 2) (v := ?_) rfl (by kernel_rfl) (by kernel_rfl) (by kernel_rfl) (fun _ _ _ h => h) (Or.inl ⟨by rfl, ?_⟩) (by assumption) ?_
  rotate_left
  · (intro wq hSw; (try dsimp only at hSw); (try simp only [zz1, zz2, zz3]); go_simp); try with_reducible rfl
  try simp only [zz1, zz2, zz3, Act.put, zz4, zz5, zz6]
  refine wpAnyH_take (i := 3) (v := ?_) rfl (by kernel_rfl) (by kernel_rfl) (by kernel_rfl) (fun _ _ _ h => h) (Or.inl ⟨by rfl, ?_⟩) (by assumption) ?_
  rotate_left
  · (intro wq hSw; (try dsimp only at hSw); (try simp only [zz1, zz2, zz3]); go_simp); try with_reducible rfl
  try simp only [zz1, zz2, zz3, Act.put, zz4, zz5, zz6]
  refine wpAnyH_take (i := 5) (v := ?_) rfl (by kernel_rfl) (by kernel_rfl) (by kernel_rfl) (fun _ _ _ h => h) (Or.inl ⟨by rfl, ?_⟩) (by assumption) ?_
  rotate_left
  · (intro wq hSw; (try dsimp only at hSw); (try simp only [zz1, zz2, zz3]); go_simp); try with_reducible rfl
  try simp only [zz1, zz2, zz3, Act.put, zz4, zz5, zz6]
  refine wpAnyH_take (i := 6) (v := ?_) rfl (by kernel_rfl) (by kernel_rfl) (by kernel_rfl) (fun _ _ _ h => h) (Or.inl ⟨by rfl, ?_⟩) (by assumption) ?_
  rotate_left
  · (intro wq hSw; (try dsimp only at hSw); (try simp only [zz1, zz2, zz3]); go_simp); try with_reducible rfl
  try simp only [zz1, zz2, zz3, Act.put, zz4, zz5, zz6]
  refine wpAnyH_take (i := 7) (v := ?_) rfl (by kernel_rfl) (by kernel_rfl) (by kernel_rfl) (fun _ _ _ h => h) (Or.inl ⟨by rfl, ?_⟩) (by assumption) ?_
  rotate_left
  · (intro wq hSw; (try dsimp only at hSw); (try simp only [zz1, zz2, zz3]); go_simp); try with_reducible rfl
  try simp only [zz1, zz2, zz3, Act.put, zz4, zz5, zz6]
  refine wpAnyH_take (i := 8) (v := ?_) rfl (by kernel_rfl) (by kernel_rfl) (by kernel_rfl) (fun _ _ _ h => h) (Or.inl ⟨by rfl, ?_⟩) (by assumption) ?_
  rotate_left
  · (intro wq hSw; (try dsimp only at hSw); (try simp only [zz1, zz2, zz3]); go_simp); try with_reducible rfl
  try simp only [zz1, zz2, zz3, Act.put, zz4, zz5, zz6]
  refine rdH 4 rfl fun K hK => ?_
  try simp only [zz1, zz2, zz3]
  go_simp
  refine hK.out _ _ (by first | exact kd2 | exact KA2 _ hg2 | exact KS2 _ _ (KA2 _ hg2)) (fun hHeld => ?_)
  clear hK K
  try simp only [zz1, zz2, zz3, Act.put, zz4, zz5, zz6]
  refine rdH 9 rfl fun K hK => ?_
  refine step_clone (by rfl) _ _ 186 (by rfl) slWait KO2 (by rfl) (by rfl) (by omega) (by unfold maxLen; omega) ?_
  intro v2 w42 own2 hg2
  obtain ⟨B2, C2, rfl⟩ := own_form own2
  obtain ⟨kz2, zz2⟩ := KK2.out w42 hg2
  have gg2 := undrew hg2
  refine hK.out _ _ (by first | exact kd2 | exact KA2 _ hg2 | exact KS2 _ _ (KA2 _ hg2)) (fun hHeld => ?_)
  clear hK K
  try simp only [zz1, zz2, zz3, Act.put, zz4, zz5, zz6]
  refine wpAnyH_take (i := 10) (v := ?_) rfl (by kernel_rfl) (by kernel_rfl) (by kernel_rfl) (fun _ _ _ h => h) (Or.inl ⟨by rfl, ?_⟩) (by assumption) ?_
  rotate_left
  · (intro wq hSw; (try dsimp only at hSw); (try simp only [zz1, zz2, zz3]); go_simp); try with_reducible rfl
  try simp only [zz1, zz2, zz3, Act.put, zz4, zz5, zz6]
  refine wpAnyH_take (i := 11) (v := ?_) rfl (by kernel_rfl) (by kernel_rfl) (by kernel_rfl) (fun _ _ _ h => h) (Or.inl ⟨by rfl, ?_⟩) (by assumption) ?_
  rotate_left
  · (intro wq hSw; (try dsimp only at hSw); (try simp only [zz1, zz2, zz3]); go_simp); try with_reducible rfl
  try simp only [zz1, zz2, zz3, Act.put, zz4, zz5, zz6]
  refine rdH 12 rfl fun K hK => ?_
  try simp only [zz1, zz2, zz3]
  go_simp
  refine hK.out _ _ (by first | exact kd2 | exact KA2 _ hg2 | exact KS2 _ _ (KA2 _ hg2)) (fun hHeld => ?_)
  clear hK K
  try simp only [zz1, zz2, zz3, Act.put, zz4, zz5, zz6]
  refine wpAnyH_done (by kernel_rfl) ?_ _
  obtain ⟨Wc, hWc⟩ : ∃ x, w42.setCell ⟨q, 2, none⟩ (.slice B2 st.cache.length C2) = x := ⟨_, rfl⟩
  have Ac : Hid (Below w1.heap.size w1 Wc) := Lib.hid (by rw [← hWc]; exact (Ab.out.trans ((grown_below gg2).mono Ab.out.size)).setCell hqs _)
  have Xc : Hid (BoxAt Wc q #[.slice B0 n C0, .slice B1 n C1, .slice B2 st.cache.length C2, .map (some mq), .bool st.dead]) := Lib.hid (by rw [← hWc]; exact (Xb.out.keep (gg2.block q Xb.out.lt (by simp))).set 2 (.slice B2 st.cache.length C2))
  have Mc : Hid (MapAt (Value.int .i64) Wc mq ([] : List (Int × Value))) := Lib.hid (by rw [← hWc]; exact (Mb.out.keep (gg2.block mq Mb.out.lt (by simp))).keep (Below.heap_setCell _ _ _ _ hmqq))
  have P0c := Lib.hid (ownsRow_keep (w' := Wc) P0b.out (fun k hk => by rw [← hWc]; exact (Below.heap_setCell _ _ _ _ (by have := (P0b.out.lt k hk).1; have := hq0; have := hqa; show k ≠ q; omega)).trans (gg2.block k (P0b.out.lt k hk).2 (by simp))))
  have P1c := Lib.hid (ownsRow_keep (w' := Wc) P1b.out (fun k hk => by rw [← hWc]; exact (Below.heap_setCell _ _ _ _ (by have := (P1b.out.lt k hk).1; have := hq0; have := hqa; show k ≠ q; omega)).trans (gg2.block k (P1b.out.lt k hk).2 (by simp))))
  have P2c : Hid (Wc.ownsRow Wb.heap.size _ _ (.slice B2 st.cache.length C2) _ _) := Lib.hid (by rw [← hWc]; exact ownsRow_keep own2 (fun k hk => Below.heap_setCell _ _ _ _ (by have h1 := (own2.lt k hk).1; have h2 := Xb.out.lt; show k ≠ q; simp at h1; omega)))
  have G2 : Hid (∀ k, Value.ownBlock (.slice B2 st.cache.length C2) = some k → Wb.heap.size ≤ k ∧ k < Wc.heap.size) := Lib.hid (fun k hk => P2c.out.lt k hk)
  have hqc : q < Wc.heap.size := Xc.out.lt
  clear kd2 kq2 kf2 KA2 KS2 KO2 KK2 hg2 gg2 kz2 zz2 own2 hHeld
  try rw [hWc]
  clear hWc

  obtain ⟨es, hm1, hm2⟩ := HB.out.ma
  have kc3 : Wc.cell? ⟨p, 3, none⟩ = some (.map (some mb)) := by rw [Ac.out.cell (p := ⟨p, 3, none⟩) hpl]; exact k3
  have hbl := HB.out.blocks
  have hmc : Hid (MapAt (Value.int .i64) Wc mb es) := Lib.hid (hm1.keep (Ac.out.block mb hbl.2.2.2.1))
  have hmbq : mb ≠ mq := by have := hbl.2.2.2.1; omega
  have hmnd := hm1.1
  have HL := Lib.hid (fun k v (h : (k, v) ∈ es) => look_of_mem hmnd h)
  have HND := Lib.hid hmnd
  have HM2 := Lib.hid hm2
  clear hm1 hm2 hmnd hbl k0 k1 k2 k3 k4
  go_wp2_with (refine wpList_range mapTy rfl rfl (by exact rfl) hmc.out ?_; intro y hit hys)
  have hit := Lib.hid hit
  have hK0 : Hid (Keep (fun k => k = mq) Wc y.to) := Lib.hid (Keep.of_below y.ok)
  have hM0 : Hid (MapAt (Value.int .i64) y.to mq ([] : List (Int × Value))) := Lib.hid (Mc.out.below y.ok)
  have hmb1 : mb < Wc.heap.size := by have := hmc.out.lt; omega
  have hmq1 : mq < Wc.heap.size := by have := Mc.out.lt; omega
  go_frame
  go_loopg [4, 5] es.length (fun g x4 x5 wr => ∃ (left es2 : List (Int × Value)), left.length = g ∧ Hid (IterAt (Value.int .i64) wr Wc.heap.size mb left) ∧ Hid (MapAt (Value.int .i64) wr mq es2) ∧ Hid (Keep (fun k => k = mq) Wc wr) ∧ Wc.heap.size < wr.heap.size ∧ Hid ((left.map (·.1)).Nodup ∧ (∀ k v, (k, v) ∈ left → mlook es k = some v) ∧ ∀ k, mlook es2 k = if k ∈ left.map (·.1) then none else mlook es k))
  case atStart => exact ⟨es, [], rfl, hit, hM0, hK0, hys, Lib.hid ⟨HND.out, HL.out, fun k => by
    by_cases h : k ∈ es.map (·.1)
    · simp [h, mlook]
    · rw [if_neg h]
      symm
      exact look_none.2 (fun p hp e => h (List.mem_map.2 ⟨p, hp, e⟩))⟩⟩
  case round =>
    clear hit hM0 hK0 hys
    obtain ⟨left, es2, rfl, hit, hM, hK, hys, hrelm⟩ := hrel
    go_wp2_with (refine wpList_next rfl rfl rfl hit.out ?hDone ?hMore)
    case hMore =>
      intro k v left' u hperm hit2 hus hent
      have hlen : left'.length < left.length := by have := hperm.length_eq; simp at this; omega
      have hub : Keep (fun k => k = mq) Wc u.to := hK.out.trans (Keep.of_grown u.ok) (fun k hk hlt => by injection hk with hk; omega)
      have hMu : MapAt (Value.int .i64) u.to mq es2 := hM.out.grw u.ok (by intro e; injection e with e; omega)
      have HP := Lib.hid hperm
      obtain ⟨w5, r5, m5, g5, s5⟩ := run_mapUpdate (P := Tryz.prog) ktInt mapTy hMu k v
      have kq3 : u.to.cell? ⟨q, 3, none⟩ = some (.map (some mq)) := (World.cell?_of_block (hub.block q hqc (by show ¬ q = mq; omega))).trans (Xc.out.cell 3)
      have hK5 : Hid (Keep (fun k => k = mq) Wc w5) := Lib.hid (hub.trans (Keep.of_grown g5) (fun k hk _ => by injection hk))
      have hit5 : Hid (IterAt (Value.int .i64) w5 Wc.heap.size mb left') := Lib.hid (hit2.keep (g5.block mb hit2.lt.2 (by simpa using hmbq)) (g5.block _ hit2.lt.1 (by intro e; injection e with e; omega)))
      have M5 := Lib.hid m5
      have S5 : Wc.heap.size < w5.heap.size := by rw [s5, hus]; exact hys
      have hit2 := Lib.hid hit2
      clear hperm hub hMu m5 g5 s5 hus hK hM
      go_wp2_with fail
      go_roundg left'.length
      case measure => exact hlen
      case rel =>
        obtain ⟨n1, n2, n3⟩ := hrelm.out
        have hpk := HP.out.map (·.1)
        have hnd2 := hpk.nodup_iff.1 n1
        simp only [List.map_cons, List.nodup_cons] at hnd2
        refine ⟨left', _, rfl, hit5, M5, hK5, S5, Lib.hid ⟨hnd2.2, fun k2 v2 h2 => n2 k2 v2 (HP.out.mem_iff.2 (List.mem_cons_of_mem _ h2)), fun j => ?_⟩⟩
        rw [look_put, n3]
        by_cases e : k = j
        · subst e
          rw [if_pos rfl, if_neg hnd2.1, n2 k v (HP.out.mem_iff.2 (by simp))]
        · have hm : j ∈ left.map (·.1) ↔ j ∈ left'.map (·.1) := by
            rw [hpk.mem_iff]
            simp only [List.map_cons, List.mem_cons]
            exact ⟨fun h => h.resolve_left (fun h2 => e h2.symm), .inr⟩
          rw [if_neg e]
          by_cases hj : j ∈ left'.map (·.1)
          · rw [if_pos (hm.2 hj), if_pos hj]
          · rw [if_neg (fun h => hj (hm.1 h)), if_neg hj]
    case hDone =>
      intro hl0
      subst hl0
      go_wp2_with fail
      go_ret
      have hok := HB.out.ok
      have hn1 := HB.out.n1
      obtain ⟨g0, c0', e0, _, _⟩ := P0c.out.form (by omega)
      obtain ⟨rfl, rfl⟩ : B0 = some ⟨g0, 0, none⟩ ∧ C0 = c0' := by simpa using e0
      obtain ⟨g1, c1', e1, _, _⟩ := P1c.out.form (by omega)
      obtain ⟨rfl, rfl⟩ : B1 = some ⟨g1, 0, none⟩ ∧ C1 = c1' := by simpa using e1
      obtain ⟨a0, a0'⟩ := G0.out g0 rfl
      obtain ⟨a1, a1'⟩ := G1.out g1 rfl
      have hwc : Wc.heap.size ≤ wr.heap.size := hK.out.size
      have hs1 : w.heap.size ≤ q := by omega
      have hk : ∀ k, k < Wc.heap.size → k ≠ mq → wr.heap[k]? = Wc.heap[k]? := fun k h1 h2 => hK.out.block k h1 h2
      have l0 := (P0c.out.lt g0 rfl).2
      have l1 := (P1c.out.lt g1 rfl).2
      have hbW : Below w.heap.size w wr := (H1.out.trans (Ac.out.mono h1s)).trans (hK.out.below (B := w.heap.size) (by omega) (by rintro k rfl; omega))
      have hq2 : q ≠ mq := fun e => hmqq e.symm
      refine ⟨q, fun b => w.heap.size ≤ b ∧ b < wr.heap.size, rfl, ⟨g0, C0, g1, C1, B2, C2, mq, ⟨hok, hn1, h600, Xc.out.keep (hk q hqc hq2), ?_, ?_, ?_, ⟨es2, hM.out, fun k => ?_⟩, by omega, by omega, hq2, by omega, by omega, by omega, ?_, ?_, ?_, ?_⟩, ⟨hs1, by omega⟩, ⟨by omega, by omega⟩, ⟨by omega, by omega⟩, ⟨by omega, by omega⟩, fun k hk2 => ?_, fun k hk2 => hk2.2⟩, fun b hb => hb.1, hbW⟩
      · exact own_base (ownsRow_keep P0c.out (by rintro k ⟨⟩; exact hk g0 l0 (by omega))) (Nat.zero_le _)
      · exact own_base (ownsRow_keep P1c.out (by rintro k ⟨⟩; exact hk g1 l1 (by omega))) (Nat.zero_le _)
      · exact own_base (ownsRow_keep P2c.out (fun k hk2 => hk k (P2c.out.lt k hk2).2 (by have := (P2c.out.lt k hk2).1; omega))) (Nat.zero_le _)
      · obtain ⟨_, _, n3⟩ := hrelm.out
        rw [n3 k, if_neg (by simp)]
        exact HM2.out k
      · intro e; have := (G2.out _ e).1; omega
      · intro e; have := (G2.out _ e).1; omega
      · intro e; have := (G2.out _ e).1; omega
      · intro e; have := (G2.out _ e).1; omega
      · obtain ⟨b1, b2⟩ := G2.out k hk2
        exact ⟨by omega, by omega⟩
end
section

set_option maxRecDepth 100000 in
theorem rot_unready {F : Nat → Prop} {w : World} {p n : Nat} {st : DSt} (h : Hid (DrvAt F w p n st)) (z off mask : Int) (hz : readyE st.dead n z ≠ 0) :
    Calls Tryz.prog 78 #[.pointer (some ⟨p, 0, none⟩), .int .i64 z, .int .i64 off, .int .u32 mask] w fun e w' => e = .returned (.int .i64 (readyE st.dead n z)) ∧ Below w.heap.size w w' := by
  obtain ⟨sb, sc, rb, rc, A, cc, mb, H⟩ := h.out.box
  go_enter Tryz.func78, Tryz.ntmps78
  go_wp2_with fail
  refine (dready_any z H).mono ?_
  rintro e w1 ⟨rfl, h1⟩
  obtain ⟨E, hE⟩ : ∃ E, readyE st.dead n z = E := ⟨_, rfl⟩
  rw [hE] at hz ⊢
  have hz2 : (E == 0) = false := by simpa using hz
  have hz3 : (E != 0) = true := by simpa using hz
  have HE := Lib.hid hE
  clear hE H
  go_wp2_with fail
  go_ret
  exact ⟨by rw [HE.out]; rfl, h1⟩
set_option maxRecDepth 100000 in
theorem rot_off {F : Nat → Prop} {w : World} {p n : Nat} {st : DSt} (h : Hid (DrvAt F w p n st)) (z off mask : Int) (hz : readyE st.dead n z = 0) (ho : ¬ ((0 ≤ off ∧ off ≤ 60) ∧ ¬ mask = 0)) :
    Calls Tryz.prog 78 #[.pointer (some ⟨p, 0, none⟩), .int .i64 z, .int .i64 off, .int .u32 mask] w fun e w' => e = .returned (.int .i64 2) ∧ Below w.heap.size w w' := by
  obtain ⟨sb, sc, rb, rc, A, cc, mb, H⟩ := h.out.box
  by_cases h1 : off < 0
  · have d1 : decide (off < 0) = true := by simpa using h1
    clear ho
    go_enter Tryz.func78, Tryz.ntmps78
    go_wp2_with fail
    refine (dready_any z H).mono ?_
    rintro e w1 ⟨rfl, t1⟩
    rw [hz]
    clear H
    go_wp2_with fail
    go_ret
    exact ⟨rfl, t1⟩
  have d1 : decide (off < 0) = false := by simpa using h1
  by_cases h2 : 60 < off
  · have d2 : decide (60 < off) = true := by simpa using h2
    clear ho
    go_enter Tryz.func78, Tryz.ntmps78
    go_wp2_with fail
    refine (dready_any z H).mono ?_
    rintro e w1 ⟨rfl, t1⟩
    rw [hz]
    clear H
    go_wp2_with fail
    go_ret
    exact ⟨rfl, t1⟩
  have d2 : decide (60 < off) = false := by simpa using h2
  have h3 : (mask == 0) = true := by
    simp only [beq_iff_eq]
    exact Classical.byContradiction fun h => ho ⟨⟨by omega, by omega⟩, h⟩
  clear ho
  go_enter Tryz.func78, Tryz.ntmps78
  go_wp2_with fail
  refine (dready_any z H).mono ?_
  rintro e w1 ⟨rfl, t1⟩
  rw [hz]
  clear H
  go_wp2_with fail
  go_ret
  exact ⟨rfl, t1⟩
theorem ready_iff (st : DSt) (n : Nat) (z : Int) : readyE st.dead n z = 0 ↔ st.dead = false ∧ 0 ≤ z ∧ z < n := by
  cases hd : st.dead with
  | true => simp [readyE]
  | false => by_cases h : 0 ≤ z ∧ z < n <;> simp [readyE, h]

def rotDOk (st : DSt) (n : Nat) (z off mask : Int) : Prop := (st.dead = false ∧ 0 ≤ z ∧ z < n) ∧ ((0 ≤ off ∧ off ≤ 60) ∧ ¬ mask = 0) ∧ st.rotten[z.toNat]? = some false
instance (st : DSt) (n : Nat) (z off mask : Int) : Decidable (rotDOk st n z off mask) := by unfold rotDOk; infer_instance
end
section

/-- A pointer, whole. -/
def PtrR (_ : Nat → Prop) (_ : World) (cs : List Value) (x : Nat) : Prop := cs = [.pointer (some ⟨x, 0, none⟩)]
theorem PtrR.stable : Stable PtrR := fun _ _ _ _ _ _ h _ => h
theorem PtrR.one : ∀ S w cs x, PtrR S w cs x → ∀ u ∈ cs, u.oneCell' = true := by
  rintro S w cs x rfl u hu
  simp at hu
  subst hu; rfl
structure ArrB (U : Nat → Prop) (w : World) (a : Nat) (v : Value) (Fs : Nat → Nat → Prop) (ps : List Nat) (s : Nat) (sts : List DSt) : Prop where
  box : BoxAt w a #[v]
  own : OwnL PtrR 113 1 0 (fun _ => False) w v ps.length ps
  len : sts.length = ps.length
  drv : ∀ i p st, ps[i]? = some p → sts[i]? = some st → DrvAt (Fs i) w p s st
  apart : ∀ i j k, Fs i k → Fs j k → i = j
  va : v.ownBlock ≠ some a
  fx : ∀ i k, Fs i k → k ≠ a ∧ v.ownBlock ≠ some k
  ua : U a
  uv : ∀ k, v.ownBlock = some k → U k
  uf : ∀ i k, Fs i k → U k
  lt : ∀ k, U k → k < w.heap.size
def ArrAt (U : Nat → Prop) (w : World) (a s : Nat) (sts : List DSt) : Prop := ∃ v Fs ps, ArrB U w a v Fs ps s sts
def AUpd (U : Nat → Prop) (w w' : World) (a s : Nat) (sts : List DSt) : Prop := ∃ U', ArrAt U' w' a s sts ∧ (∀ k, U' k → k < w.heap.size → U k) ∧ Keep U w w'

theorem ArrB.keep {U G : Nat → Prop} {w w' : World} {a s : Nat} {v : Value} {Fs : Nat → Nat → Prop} {ps : List Nat} {sts : List DSt} (h : ArrB U w a v Fs ps s sts) (hk : Keep G w w') (hd : ∀ k, U k → ¬ G k) : ArrB U w' a v Fs ps s sts := by
  have hh : ∀ k, U k → w'.heap[k]? = w.heap[k]? := fun k hu => hk.block k (h.lt k hu) (hd k hu)
  refine ⟨h.box.keep (hh a h.ua), ?_, h.len, fun i p st h1 h2 => (h.drv i p st h1 h2).keep hk (fun k hf => hd k (h.uf i k hf)), h.apart, h.va, h.fx, h.ua, h.uv, h.uf, fun k hu => Nat.lt_of_lt_of_le (h.lt k hu) hk.size⟩
  obtain ⟨css, h1, h2, h3, h4, h5⟩ := h.own
  exact ⟨css, ownsRow_keep h1 (fun k hk2 => hh k (h.uv k hk2)), h2, h3, h4, fun i cs x hc hx => h5 i cs x hc hx⟩
theorem ArrB.below {U : Nat → Prop} {w w' : World} {a s : Nat} {v : Value} {Fs : Nat → Nat → Prop} {ps : List Nat} {sts : List DSt} (h : ArrB U w a v Fs ps s sts) (hk : Below w.heap.size w w') : ArrB U w' a v Fs ps s sts := h.keep (Keep.of_below (F := fun _ => False) hk) (fun _ _ h => h)
theorem ArrAt.keep {U G : Nat → Prop} {w w' : World} {a s : Nat} {sts : List DSt} (h : ArrAt U w a s sts) (hk : Keep G w w') (hd : ∀ k, U k → ¬ G k) : ArrAt U w' a s sts := by
  obtain ⟨v, Fs, ps, h⟩ := h; exact ⟨v, Fs, ps, h.keep hk hd⟩
theorem ArrAt.below {U : Nat → Prop} {w w' : World} {a s : Nat} {sts : List DSt} (h : ArrAt U w a s sts) (hk : Below w.heap.size w w') : ArrAt U w' a s sts := by
  obtain ⟨v, Fs, ps, h⟩ := h; exact ⟨v, Fs, ps, h.below hk⟩
theorem ArrAt.lt {U : Nat → Prop} {w : World} {a s : Nat} {sts : List DSt} (h : ArrAt U w a s sts) {k : Nat} (hk : U k) : k < w.heap.size := by
  obtain ⟨v, Fs, ps, h⟩ := h; exact h.lt k hk
theorem ArrAt.ok {U : Nat → Prop} {w : World} {a s : Nat} {sts : List DSt} (h : ArrAt U w a s sts) : ∀ st ∈ sts, st.ok s := by
  obtain ⟨v, Fs, ps, h⟩ := h
  intro st hst
  obtain ⟨i, hi, rfl⟩ := List.mem_iff_getElem.1 hst
  exact (h.drv i (ps[i]'(by rw [← h.len]; exact hi)) _ (List.getElem?_eq_getElem _) (List.getElem?_eq_getElem _)).ok
theorem ArrAt.upd {U : Nat → Prop} {w w' : World} {a s : Nat} {sts : List DSt} (h : ArrAt U w a s sts) (hk : Below w.heap.size w w') : AUpd U w w' a s sts := ⟨U, h.below hk, fun _ h _ => h, Keep.of_below hk⟩
theorem AUpd.trans {U U1 : Nat → Prop} {w w1 w2 : World} {a s : Nat} {sts : List DSt} (hU : ∀ k, U1 k → k < w.heap.size → U k) (hK : Keep U w w1) (h : AUpd U1 w1 w2 a s sts) : AUpd U w w2 a s sts := by
  obtain ⟨U2, hA, h2, hK2⟩ := h
  exact ⟨U2, hA, fun k h1 hlt => hU k (h2 k h1 (Nat.lt_of_lt_of_le hlt hK.size)) hlt, hK.trans hK2 (fun k h hlt => hU k h hlt)⟩
/-- One drive went on. -/
theorem ArrB.upd1 {U : Nat → Prop} {w w' : World} {a s : Nat} {v : Value} {Fs : Nat → Nat → Prop} {ps : List Nat} {sts : List DSt} (h : ArrB U w a v Fs ps s sts) {i p : Nat} {st' : DSt} (hp : ps[i]? = some p) (hu : Upd (Fs i) w w' p s st') :
    ∃ U' Fs', ArrB U' w' a v Fs' ps s (sts.set i st') ∧ (∀ k, U' k → k < w.heap.size → U k) ∧ Keep U w w' := by
  obtain ⟨F', hD, hF, hK⟩ := hu
  have hil : i < sts.length := by rw [h.len]; exact (List.getElem?_eq_some_iff.1 hp).1
  have hKU : Keep U w w' := hK.mono (fun k hf _ => h.uf i k hf)
  have hlt' : ∀ k, F' k → k < w'.heap.size := fun k hk => hD.lt hk
  refine ⟨fun k => U k ∨ F' k, fun j k => if j = i then F' k else Fs j k, ⟨?_, ?_, by simpa using h.len, ?_, ?_, h.va, ?_, .inl h.ua, fun k hk => .inl (h.uv k hk), ?_, ?_⟩, fun k hk hlt => hk.elim id (fun hf => h.uf i k (hF k hf hlt)), hKU⟩
  · exact h.box.keep (hK.block a (h.lt a h.ua) (fun hf => (h.fx i a hf).1 rfl))
  · obtain ⟨css, h1, h2, h3, h4, h5⟩ := h.own
    exact ⟨css, ownsRow_keep h1 (fun k hk2 => hK.block k (h.lt k (h.uv k hk2)) (fun hf => (h.fx i k hf).2 hk2)), h2, h3, h4, fun i cs x hc hx => h5 i cs x hc hx⟩
  · intro j q st h1 h2
    by_cases hj : j = i
    · subst hj
      rw [hp] at h1
      injection h1 with h1
      subst h1
      rw [List.getElem?_set_self hil] at h2
      injection h2 with h2
      subst h2
      simpa using hD
    · rw [List.getElem?_set_ne (fun e => hj e.symm)] at h2
      simp only [if_neg hj]
      exact (h.drv j q st h1 h2).keep hK (fun k hf hf2 => hj (h.apart j i k hf hf2))
  · intro j1 j2 k
    by_cases e1 : j1 = i <;> by_cases e2 : j2 = i <;> simp only [e1, e2, if_pos, if_neg, not_false_eq_true]
    · intros; trivial
    · intro hf hg
      exact (h.apart _ _ k (hF k hf (h.lt k (h.uf _ k hg))) hg)
    · intro hf hg
      exact e1 (h.apart _ _ k hf (hF k hg (h.lt k (h.uf _ k hf))))
    · exact h.apart j1 j2 k
  · intro j k hf
    by_cases e1 : j = i
    · simp only [e1, if_pos] at hf
      constructor
      · rintro rfl
        exact (h.fx i k (hF k hf (h.lt k h.ua))).1 rfl
      · intro hv
        exact (h.fx i k (hF k hf (h.lt k (h.uv k hv)))).2 hv
    · simp only [e1, if_neg, not_false_eq_true] at hf
      exact h.fx j k hf
  · intro j k hf
    by_cases e1 : j = i
    · simp only [e1, if_pos] at hf; exact .inr hf
    · simp only [e1, if_neg, not_false_eq_true] at hf; exact .inl (h.uf j k hf)
  · rintro k (hk | hk)
    · exact Nat.lt_of_lt_of_le (h.lt k hk) hK.size
    · exact hlt' k hk
theorem arr_cells {U : Nat → Prop} {w : World} {a s : Nat} {v : Value} {Fs : Nat → Nat → Prop} {ps : List Nat} {sts : List DSt} (h : ArrB U w a v Fs ps s sts) : ∃ A c, v = .slice A sts.length c ∧ w.cell? ⟨a, 0, none⟩ = some (.slice A sts.length c) ∧
    ∀ i, i < sts.length → ∃ g p st, A = some ⟨g, 0, none⟩ ∧ ps[i]? = some p ∧ sts[i]? = some st ∧ w.cell? ⟨g, i, none⟩ = some (.pointer (some ⟨p, 0, none⟩)) ∧ DrvAt (Fs i) w p s st := by
  obtain ⟨A, c, rfl, _⟩ := h.own.form
  refine ⟨A, c, by rw [h.len], by rw [h.len]; exact h.box.cell 0, fun i hi => ?_⟩
  rw [h.len] at hi
  obtain ⟨css, h1, h2, h3, h4, h5⟩ := h.own
  obtain ⟨g, cap, e0, _, _⟩ := h1.form (by omega)
  obtain ⟨rfl, rfl⟩ : A = some ⟨g, 0, none⟩ ∧ c = cap := by simpa using e0
  have hic : css[i]? = some (css[i]'(by omega)) := List.getElem?_eq_getElem (by omega)
  have hip : ps[i]? = some (ps[i]'(by omega)) := List.getElem?_eq_getElem (by omega)
  have his : sts[i]? = some (sts[i]'(by rw [h.len]; exact hi)) := List.getElem?_eq_getElem _
  have hcs := h5 i _ _ hic hip
  refine ⟨g, _, _, rfl, hip, his, ?_, h.drv i _ _ hip his⟩
  have := h1.cellAt i (by omega)
  rw [this]
  have := flatten_get css h4 i _ 0 hic (by omega)
  rw [Nat.mul_one, Nat.add_zero] at this
  rw [this]
  rw [show css[i] = [.pointer (some ⟨ps[i], 0, none⟩)] from hcs]; rfl
end
section

section
variable {U : Nat → Prop} {w : World} {a s : Nat} {v : Value} {Fs : Nat → Nat → Prop} {ps : List Nat} {sts : List DSt}
set_option maxRecDepth 100000 in
theorem anone (h : Hid (ArrB U w a v Fs ps s sts)) (hk : 0 < sts.length) :
    Calls Tryz.prog 75 #[.pointer (some ⟨a, 0, none⟩)] w fun e w' => e = .returned (.bool false) ∧ Below w.heap.size w w' := by
  obtain ⟨A, c, _, c0, _⟩ := arr_cells h.out
  have hk0 : ((sts.length : Int) == 0) = false := by rw [beq_eq_false_iff_ne]; omega
  go_enter Tryz.func75, Tryz.ntmps75
  go_wp2_with fail
  go_ret
  exact ⟨rfl, Below.refl _ _⟩
set_option maxRecDepth 100000 in
theorem an_any (h : Hid (ArrB U w a v Fs ps s sts)) (hk : 0 < sts.length) :
    Calls Tryz.prog 83 #[.pointer (some ⟨a, 0, none⟩)] w fun e w' => e = .returned (.int .i64 sts.length) ∧ Below w.heap.size w w' := by
  go_enter Tryz.func83, Tryz.ntmps83
  go_wp2_with fail
  refine (anone h hk).mono ?_
  rintro e w1 ⟨rfl, t1⟩
  obtain ⟨A, c, _, c0, _⟩ := arr_cells (h.out.below t1)
  go_wp2_with fail
  go_ret
  exact ⟨rfl, t1⟩
set_option maxRecDepth 100000 in
theorem aat_in (h : Hid (ArrB U w a v Fs ps s sts)) (d : Nat) (hd : d < sts.length) {p : Nat} (hp : ps[d]? = some p) :
    Calls Tryz.prog 119 #[.pointer (some ⟨a, 0, none⟩), .int .i64 d] w fun e w' => e = .returned (.pointer (some ⟨p, 0, none⟩)) ∧ Below w.heap.size w w' := by
  have h0 : (0 : Int) ≤ (d : Int) := Int.natCast_nonneg _
  have h1 : (d : Int) < (sts.length : Int) := by omega
  go_enter Tryz.func119, Tryz.ntmps119
  go_wp2_with fail
  refine (anone h (by omega)).mono ?_
  rintro e w1 ⟨rfl, t1⟩
  obtain ⟨A, c, _, c0, hc⟩ := arr_cells (h.out.below t1)
  obtain ⟨g, p', st, rfl, hp', hst, cg, _⟩ := hc d hd
  obtain rfl : p' = p := by rw [hp] at hp'; injection hp' with hp'; exact hp'.symm
  clear hc hst
  go_wp2_with fail
  go_ret
  exact ⟨rfl, t1⟩
set_option maxRecDepth 100000 in
theorem aat_out (h : Hid (ArrB U w a v Fs ps s sts)) (hk : 0 < sts.length) (d : Int) (hd : ¬ (0 ≤ d ∧ d < sts.length)) :
    Calls Tryz.prog 119 #[.pointer (some ⟨a, 0, none⟩), .int .i64 d] w fun e w' => e = .returned (.pointer none) ∧ Below w.heap.size w w' := by
  by_cases h0 : d < 0
  · have d0 : decide (d < 0) = true := by simpa using h0
    clear hd
    go_enter Tryz.func119, Tryz.ntmps119
    go_wp2_with fail
    refine (anone h hk).mono ?_
    rintro e w1 ⟨rfl, t1⟩
    go_wp2_with fail
    go_ret
    exact ⟨rfl, t1⟩
  · have d0 : decide (d < 0) = false := by simpa using h0
    have d1 : decide ((sts.length : Int) ≤ d) = true := by simp; omega
    clear hd
    go_enter Tryz.func119, Tryz.ntmps119
    go_wp2_with fail
    refine (anone h hk).mono ?_
    rintro e w1 ⟨rfl, t1⟩
    obtain ⟨A, c, _, c0, _⟩ := arr_cells (h.out.below t1)
    go_wp2_with fail
    go_ret
    exact ⟨rfl, t1⟩
set_option maxRecDepth 100000 in
theorem areach_in (h : Hid (ArrB U w a v Fs ps s sts)) (d : Nat) (hd : d < sts.length) {p : Nat} (hp : ps[d]? = some p) :
    Calls Tryz.prog 77 #[.pointer (some ⟨a, 0, none⟩), .int .i64 d] w fun e w' => e = .returned (.tuple #[.pointer (some ⟨p, 0, none⟩), .int .i64 0]) ∧ Below w.heap.size w w' := by
  go_enter Tryz.func77, Tryz.ntmps77
  go_wp2_with fail
  refine (anone h (by omega)).mono ?_
  rintro e w1 ⟨rfl, t1⟩
  have H1 := Lib.hid (h.out.below t1)
  go_wp2_with fail
  refine (aat_in H1 d hd hp).mono ?_
  rintro e w2 ⟨rfl, t2⟩
  go_wp2_with fail
  go_ret2
  exact ⟨rfl, t1.trans (t2.mono t1.size)⟩
set_option maxRecDepth 100000 in
theorem areach_out (h : Hid (ArrB U w a v Fs ps s sts)) (hk : 0 < sts.length) (d : Int) (hd : ¬ (0 ≤ d ∧ d < sts.length)) :
    Calls Tryz.prog 77 #[.pointer (some ⟨a, 0, none⟩), .int .i64 d] w fun e w' => e = .returned (.tuple #[.pointer none, .int .i64 2]) ∧ Below w.heap.size w w' := by
  go_enter Tryz.func77, Tryz.ntmps77
  go_wp2_with fail
  refine (anone h hk).mono ?_
  rintro e w1 ⟨rfl, t1⟩
  have H1 := Lib.hid (h.out.below t1)
  go_wp2_with fail
  refine (aat_out H1 hk d hd).mono ?_
  rintro e w2 ⟨rfl, t2⟩
  go_wp2_with fail
  go_ret2
  exact ⟨rfl, t1.trans (t2.mono t1.size)⟩

end
end
section

theorem BoxAt.bools {w : World} {b : Nat} {xs : List Bool} (h : BoxAt w b (xs.map Value.bool).toArray) {S : Nat → Prop} (hS : S b) : RdL BoolR 1 S w (some ⟨b, 0, none⟩) xs.length xs :=
  ⟨rfl, fun _ => ⟨b, 0, rfl, hS, h.lt, fun i x hx => ⟨[.bool x], rfl, rfl, fun j v hj => by
    match j, hj with
    | 0, hj =>
      simp only [List.getElem?_cons_zero, Option.some.injEq] at hj
      subst hj
      rw [h.cell]
      simp [hx]⟩⟩⟩
theorem bool_at {S : Nat → Prop} {w : World} {A : Option Addr} {m : Nat} {xs : List Bool} (h : RdL BoolR 1 S w A m xs) {i : Nat} (hi : i < m) : ∃ b o x, A = some ⟨b, o, none⟩ ∧ xs[i]? = some x ∧ w.cell? ⟨b, o + i, none⟩ = some (.bool x) := by
  obtain ⟨b, o, rfl, _, hlt⟩ := h.addr hi
  obtain ⟨hl, cs, h1, h2, h3⟩ := h.at hi
  have h4 : cs = [.bool xs[i]] := h2
  subst h4
  refine ⟨b, o, xs[i], rfl, by simp [hl], ?_⟩
  simpa using h3 0 _ rfl
def cnt (l : List Bool) : Nat := l.count true
theorem cnt_snoc (l : List Bool) (x : Bool) : cnt (l ++ [x]) = cnt l + (if x then 1 else 0) := by cases x <;> simp [cnt]
theorem cnt_le (l : List Bool) : cnt l ≤ l.length := List.count_le_length
set_option maxRecDepth 100000 in
theorem counted_any {S : Nat → Prop} {w : World} {A : Option Addr} {m c : Nat} {xs : List Bool} (R : Hid (RdL BoolR 1 S w A m xs)) (hm : m < 1000000) :
    Calls Tryz.prog 72 #[.slice A m c] w fun e w' => e = .returned (.int .i64 (cnt xs)) ∧ Below w.heap.size w w' := by
  go_enter Tryz.func72, Tryz.ntmps72
  go_wp2_with fail
  go_loopw [3, 8] (fun vn vi wr => ∃ i : Nat, i ≤ m ∧ vn = .int .i64 (cnt (xs.take i)) ∧ vi = .int .i64 i ∧ wr = w) (fun _ vi _ => m - (intOf vi).toNat)
  case atStart => exact ⟨0, Nat.zero_le _, rfl, rfl, rfl⟩
  case round =>
    obtain ⟨i, hi, rfl, rfl, rfl⟩ := hrel
    by_cases hlt : i < m
    · obtain ⟨b, o, x, rfl, hx, y0⟩ := bool_at R.out hlt
      have h1 : (i : Int) < (m : Int) := by omega
      have h2 : (0 : Int) ≤ (i : Int) := Int.natCast_nonneg _
      have h3 : (i : Int) < 1000000 := by omega
      have htk : xs.take (i + 1) = xs.take i ++ [x] := by
        have hil := (List.getElem?_eq_some_iff.1 hx).1
        rw [List.take_succ_eq_append_getElem hil, (List.getElem?_eq_some_iff.1 hx).2]
      have hc := cnt_snoc (xs.take i) x
      rw [← htk] at hc
      have hcl := cnt_le (xs.take i)
      have hcl2 : (xs.take i).length ≤ i := by simp; omega
      have hw : IntKind.i64.wrap ((cnt (xs.take i) : Int) + 1) = (cnt (xs.take i) : Int) + 1 := by rw [IntKind.wrap_i64]; omega
      have HC := Lib.hid hc
      clear hc htk hx hcl hcl2
      cases x with
      | true =>
        go_wp2_with fail
        refine ⟨⟨i + 1, by omega, ?_, by go_num, trivial⟩, by simp [intOf]; omega⟩
        rw [HC.out]; rfl
      | false =>
        go_wp2_with fail
        refine ⟨⟨i + 1, by omega, ?_, by go_num, trivial⟩, by simp [intOf]; omega⟩
        rw [HC.out]; rfl
    · obtain rfl : i = m := by omega
      have h1 : ¬ (i : Int) < (i : Int) := by omega
      have hx : xs.take i = xs := by rw [List.take_of_length_le]; rw [R.out.1]; exact Nat.le_refl _
      have HX := Lib.hid hx
      clear hx
      go_wp2_with fail
      go_ret
      rw [HX.out]
      exact ⟨rfl, Below.refl _ _⟩

section
variable {U : Nat → Prop} {w : World} {a s : Nat} {v : Value} {Fs : Nat → Nat → Prop} {ps : List Nat} {sts : List DSt}
theorem ArrB.p_at (h : ArrB U w a v Fs ps s sts) {d : Nat} {st : DSt} (hst : sts[d]? = some st) : ∃ p, ps[d]? = some p ∧ DrvAt (Fs d) w p s st ∧ d < sts.length := by
  have hd : d < sts.length := (List.getElem?_eq_some_iff.1 hst).1
  exact ⟨_, List.getElem?_eq_getElem (by rw [← h.len]; exact hd), h.drv d _ _ (List.getElem?_eq_getElem _) hst, hd⟩
/-- One drive goes on behind something that changed nothing. -/
theorem ArrB.upd2 (h : ArrB U w a v Fs ps s sts) {w1 w2 : World} {i p : Nat} {st' : DSt} (hb : Below w.heap.size w w1) (hp : ps[i]? = some p) (hu : Upd (Fs i) w1 w2 p s st') : AUpd U w w2 a s (sts.set i st') := by
  obtain ⟨U', Fs', hB, h1, h2⟩ := (h.below hb).upd1 hp hu
  exact ⟨U', ⟨v, Fs', ps, hB⟩, fun k hk hlt => h1 k hk (Nat.lt_of_lt_of_le hlt hb.size), (Keep.of_below (F := U) hb).trans h2 (fun k h _ => h)⟩
set_option maxRecDepth 100000 in
theorem achange_in (h : Hid (ArrB U w a v Fs ps s sts)) (d : Nat) {st st' : DSt} (hst : sts[d]? = some st) (f : FuncId)
    (hc : ∀ (F : Nat → Prop) (p : Nat) (w' : World), Hid (DrvAt F w' p s st) → Calls Tryz.prog f #[.pointer (some ⟨p, 0, none⟩)] w' fun e w'' => e = .returned (.tuple #[]) ∧ Upd F w' w'' p s st') (hcf : ∀ args w, (callFunc f args).run Tryz.prog w = .ok (.enter f args) w) :
    Calls Tryz.prog 59 #[.pointer (some ⟨a, 0, none⟩), .int .i64 d, .func (.func f) #[] #[]] w fun e w' => e = .returned (.int .i64 0) ∧ AUpd U w w' a s (sts.set d st') := by
  obtain ⟨p, hp, hD, hd⟩ := h.out.p_at hst
  have HD := Lib.hid hD
  have HC := Lib.hid hc
  clear hD hc
  go_enter Tryz.func59, Tryz.ntmps59
  go_wp2_with fail
  refine (areach_in h d hd hp).mono ?_
  rintro e w1 ⟨rfl, t1⟩
  have T1 := Lib.hid t1
  clear t1
  go_wp2_with fail
  refine (HC.out _ _ w1 (Lib.hid (HD.out.below T1.out))).mono ?_
  rintro e w2 ⟨rfl, u2⟩
  have U2 := Lib.hid u2
  clear u2 hcf
  go_wp2_with fail
  go_ret
  exact ⟨rfl, h.out.upd2 T1.out hp U2.out⟩
set_option maxRecDepth 100000 in
theorem achange_out (h : Hid (ArrB U w a v Fs ps s sts)) (hk : 0 < sts.length) (d : Int) (hd : ¬ (0 ≤ d ∧ d < sts.length)) (x : Value) :
    Calls Tryz.prog 59 #[.pointer (some ⟨a, 0, none⟩), .int .i64 d, x] w fun e w' => e = .returned (.int .i64 2) ∧ Below w.heap.size w w' := by
  go_enter Tryz.func59, Tryz.ntmps59
  go_wp2_with fail
  refine (areach_out h hk d hd).mono ?_
  rintro e w1 ⟨rfl, t1⟩
  go_wp2_with fail
  go_ret
  exact ⟨rfl, t1⟩
end
theorem call_fail (args : Array Value) (w : World) : (callFunc 60 args).run Tryz.prog w = .ok (.enter 60 args) w := by go_simp
theorem call_repl (args : Array Value) (w : World) : (callFunc 110 args).run Tryz.prog w = .ok (.enter 110 args) w := by go_simp
theorem call_flush (args : Array Value) (w : World) : (callFunc 74 args).run Tryz.prog w = .ok (.enter 74 args) w := by go_simp
/-- Fail, whatever is asked. -/
def failA (s : Nat) (sts : List DSt) (d : Int) : List DSt := if 0 ≤ d ∧ d < sts.length then sts.set d.toNat (DSt.gone s) else sts
def replA (s : Nat) (sts : List DSt) (d : Int) : List DSt := if 0 ≤ d ∧ d < sts.length then sts.set d.toNat (DSt.new s) else sts
set_option maxRecDepth 100000 in
theorem afail_any {U : Nat → Prop} {w : World} {a s : Nat} {sts : List DSt} (h : Hid (ArrAt U w a s sts)) (hk : 0 < sts.length) (d : Int) :
    Calls Tryz.prog 18 #[.pointer (some ⟨a, 0, none⟩), .int .i64 d] w fun e w' => e = .returned (.int .i64 (if 0 ≤ d ∧ d < sts.length then 0 else 2)) ∧ AUpd U w w' a s (failA s sts d) := by
  obtain ⟨v, Fs, ps, hB⟩ := h.out
  have HB := Lib.hid hB
  clear hB
  unfold failA
  by_cases hd : 0 ≤ d ∧ d < sts.length
  · rw [if_pos hd, if_pos hd]
    obtain ⟨k, rfl⟩ : ∃ k : Nat, d = k := ⟨d.toNat, by omega⟩
    obtain ⟨st, hst⟩ : ∃ st, sts[k]? = some st := ⟨_, List.getElem?_eq_getElem (by omega)⟩
    clear hd
    go_enter Tryz.func18, Tryz.ntmps18
    go_wp2_with fail
    refine (achange_in HB k hst _ (fun F p w' hD => fail_any hD) call_fail).mono ?_
    rintro e w1 ⟨rfl, u⟩
    have UU := Lib.hid u
    clear u
    go_wp2_with fail
    go_ret
    exact ⟨rfl, UU.out⟩
  · rw [if_neg hd, if_neg hd]
    go_enter Tryz.func18, Tryz.ntmps18
    go_wp2_with fail
    refine (achange_out HB hk d hd _).mono ?_
    rintro e w1 ⟨rfl, t1⟩
    go_wp2_with fail
    go_ret
    exact ⟨rfl, h.out.upd t1⟩
set_option maxRecDepth 100000 in
theorem arepl_any {U : Nat → Prop} {w : World} {a s : Nat} {sts : List DSt} (h : Hid (ArrAt U w a s sts)) (hk : 0 < sts.length) (d : Int) :
    Calls Tryz.prog 49 #[.pointer (some ⟨a, 0, none⟩), .int .i64 d] w fun e w' => e = .returned (.int .i64 (if 0 ≤ d ∧ d < sts.length then 0 else 2)) ∧ AUpd U w w' a s (replA s sts d) := by
  obtain ⟨v, Fs, ps, hB⟩ := h.out
  have HB := Lib.hid hB
  clear hB
  unfold replA
  by_cases hd : 0 ≤ d ∧ d < sts.length
  · rw [if_pos hd, if_pos hd]
    obtain ⟨k, rfl⟩ : ∃ k : Nat, d = k := ⟨d.toNat, by omega⟩
    obtain ⟨st, hst⟩ : ∃ st, sts[k]? = some st := ⟨_, List.getElem?_eq_getElem (by omega)⟩
    clear hd
    go_enter Tryz.func49, Tryz.ntmps49
    go_wp2_with fail
    refine (achange_in HB k hst _ (fun F p w' hD => replace_any hD) call_repl).mono ?_
    rintro e w1 ⟨rfl, u⟩
    have UU := Lib.hid u
    clear u
    go_wp2_with fail
    go_ret
    exact ⟨rfl, UU.out⟩
  · rw [if_neg hd, if_neg hd]
    go_enter Tryz.func49, Tryz.ntmps49
    go_wp2_with fail
    refine (achange_out HB hk d hd _).mono ?_
    rintro e w1 ⟨rfl, t1⟩
    go_wp2_with fail
    go_ret
    exact ⟨rfl, h.out.upd t1⟩
end
end Go.Proofs.YtihnlhfngmbglaaGreat
