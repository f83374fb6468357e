/-
  New, Fail, Replace.
-/
import Derived.Test.YtolmpopjonkfgaaDrvE
set_option linter.unusedSimpArgs false
set_option linter.unusedVariables false
namespace Go.Proofs.Ytolmpopjonkfgaa
open Go.RowKit Go.Cib
attribute [local go_sem] cell_set Later.cell Later.frozen Grw.cell Grw.frozen

set_option maxRecDepth 100000 in
theorem new_good (n : Nat) (h1 : 1 ≤ n) (h2 : n ≤ 600) (w : World) :
    Calls Try.prog 11 #[.int .i64 n] w fun e w' => ∃ p F, e = .returned (.pointer (some ⟨p, 0, none⟩)) ∧ DrvAt F w' p n (DSt.new n) ∧ (∀ b, F b → w.heap.size ≤ b) ∧ Below w.heap.size w w' := by
  go_enter Try.func11, Try.ntmps11
  go_wp2_with fail
  have hb := BoxAt.new w #[.slice none 0 0, .slice none 0 0, .slice none 0 0, .map none, .bool false] 91
  refine (empty_any w.heap.size n h1 h2 _ _ _ _ _ _ (Lib.hid hb)).mono ?_
  rintro e w1 ⟨rfl, F', hD, hF, hK⟩
  have hb1 : Below w.heap.size w w1 := ((Below.refl w.heap.size w).alloc (Nat.le_refl _) _).trans (hK.below (B := w.heap.size) (by simp) (by rintro k rfl; exact Nat.le_refl _))
  have hF2 : ∀ b, F' b → w.heap.size ≤ b := fun b h => by
    rcases hF b h with h | h
    · omega
    · simp at h; omega
  clear hK hb hF
  go_wp2_with fail
  go_ret
  exact ⟨_, F', rfl, hD, hF2, hb1⟩

set_option maxRecDepth 100000 in
theorem new_nil (z : Int) (h : ¬ (1 ≤ z ∧ z ≤ 600)) (w : World) :
    Calls Try.prog 11 #[.int .i64 z] w fun e w' => e = .returned (.pointer none) ∧ Below w.heap.size w w' := by
  by_cases hz : z < 1
  · have e1 : decide (z < 1) = true := by simpa using hz
    go_enter Try.func11, Try.ntmps11
    go_wp2_with fail
    go_ret
    exact ⟨rfl, Below.refl _ _⟩
  · have e1 : decide (z < 1) = false := by simpa using hz
    have e2 : decide (600 < z) = true := by simp; omega
    have e3 : 600 < z := by omega
    go_enter Try.func11, Try.ntmps11
    go_wp2_with fail
    go_ret
    exact ⟨rfl, Below.refl _ _⟩

theorem fresh_upd {F : Nat → Prop} {w w' : World} {p n : Nat} (hp : F p) (h : Fresh w w' p n) : Upd F w w' p n (DSt.new n) := by
  obtain ⟨F', hD, hF, hK⟩ := h
  exact ⟨F', hD, fun k hk hlt => by rcases hF k hk with h | h; exact h ▸ hp; omega, hK.mono (fun k h _ => h ▸ hp)⟩
theorem DrvAt.at_ {F : Nat → Prop} {w : World} {p n : Nat} {st : DSt} (h : DrvAt F w p n st) : F p ∧ 1 ≤ n ∧ n ≤ 600 := by
  obtain ⟨sb, sc, rb, rc, A, cc, mb, hB, f1, _⟩ := h
  exact ⟨f1, hB.n1, hB.n600⟩
theorem Upd.trans {F : Nat → Prop} {w w1 w2 : World} {p n : Nat} {st : DSt} (hK : Keep F w w1) (h : Upd F w1 w2 p n st) : Upd F w w2 p n st := by
  obtain ⟨F', hD, hF, hK2⟩ := h
  exact ⟨F', hD, fun k hk hlt => hF k hk (Nat.lt_of_lt_of_le hlt hK.size), hK.trans hK2 (fun k h _ => h)⟩

set_option maxRecDepth 100000 in
theorem replace_any {F : Nat → Prop} {w : World} {p n : Nat} {st : DSt} (h : Hid (DrvAt F w p n st)) :
    Calls Try.prog 22 #[.pointer (some ⟨p, 0, none⟩)] w fun e w' => e = .returned (.tuple #[]) ∧ Upd F w w' p n (DSt.new n) := by
  obtain ⟨sb, sc, rb, rc, A, cc, mb, H⟩ := h.out.box
  obtain ⟨f1, n1, n2⟩ := h.out.at_
  go_enter Try.func22, Try.ntmps22
  go_wp2_with fail
  refine (none_any H).mono ?_
  rintro e w1 ⟨rfl, h1⟩
  have HB := Lib.hid (H.out.below h1)
  obtain ⟨k0, k1, k2, k3, k4⟩ := drv_cells HB.out
  have HK := Lib.hid (Keep.of_below (F := F) h1)
  clear H h h1
  go_wp2_with fail
  refine (empty_any p n n1 n2 _ _ _ _ _ _ HB).mono ?_
  rintro e w2 ⟨rfl, hf⟩
  have hu := Lib.hid (Upd.trans HK.out (fresh_upd f1 hf))
  clear hf HB HK k0 k1 k2 k3 k4
  go_wp2_with fail
  go_end0
  exact ⟨rfl, hu.out⟩

theorem DrvAt.setDead {F : Nat → Prop} {w : World} {p n : Nat} {st : DSt} (h : DrvAt F w p n st) (d : Bool) : DrvAt F (w.setCell ⟨p, 4, none⟩ (.bool d)) p n { st with dead := d } := by
  obtain ⟨sb, sc, rb, rc, A, cc, mb, hB, f1, f2, f3, f4, f5, lt⟩ := h
  have hs : ∀ k, k ≠ p → (w.setCell ⟨p, 4, none⟩ (.bool d)).heap[k]? = w.heap[k]? := fun k hk => Below.heap_setCell _ _ _ _ hk
  refine ⟨sb, sc, rb, rc, A, cc, mb, ⟨⟨hB.ok.sl, hB.ok.rl, hB.ok.s64, hB.ok.c64, hB.ok.cat⟩, hB.n1, hB.n600, hB.box.set 4 _, ownsRow_keep hB.so (by rintro k ⟨⟩; exact hs sb (fun e => hB.ps e.symm)), ownsRow_keep hB.ro (by rintro k ⟨⟩; exact hs rb (fun e => hB.pr e.symm)), ownsRow_keep hB.co (fun k hk => hs k (fun e => hB.pc (e ▸ hk))), ?_, hB.ps, hB.pr, hB.pm, hB.sr, hB.sm, hB.rm, hB.pc, hB.sc, hB.rc, hB.mc⟩, f1, f2, f3, f4, f5, fun k hk => by simpa using lt k hk⟩
  obtain ⟨es, h1, h2⟩ := hB.ma
  exact ⟨es, h1.keep (hs mb (fun e => hB.pm e.symm)), h2⟩
def DSt.gone (n : Nat) : DSt := { DSt.new n with dead := true }

set_option maxRecDepth 100000 in
theorem fail_any {F : Nat → Prop} {w : World} {p n : Nat} {st : DSt} (h : Hid (DrvAt F w p n st)) :
    Calls Try.prog 20 #[.pointer (some ⟨p, 0, none⟩)] w fun e w' => e = .returned (.tuple #[]) ∧ Upd F w w' p n (DSt.gone n) := by
  obtain ⟨sb, sc, rb, rc, A, cc, mb, H⟩ := h.out.box
  obtain ⟨f1, n1, n2⟩ := h.out.at_
  go_enter Try.func20, Try.ntmps20
  go_wp2_with fail
  refine (none_any H).mono ?_
  rintro e w1 ⟨rfl, h1⟩
  have HB := Lib.hid (H.out.below h1)
  obtain ⟨k0, k1, k2, k3, k4⟩ := drv_cells HB.out
  have HK := Lib.hid (Keep.of_below (F := F) h1)
  clear H h h1
  go_wp2_with fail
  refine (empty_any p n n1 n2 _ _ _ _ _ _ HB).mono ?_
  rintro e w2 ⟨rfl, hf⟩
  obtain ⟨F', hD, hF, hK⟩ := Upd.trans HK.out (fresh_upd f1 hf)
  obtain ⟨sb2, sc2, rb2, rc2, A2, cc2, mb2, H2⟩ := hD.box
  have q4 := (drv_cells H2.out).2.2.2.2
  have z4 := H2.out.frozen 4
  have HD := Lib.hid hD
  have HK2 := Lib.hid hK
  clear hf HB HK k0 k1 k2 k3 k4 H2 hK hD
  go_wp2_with fail
  go_end0
  exact ⟨rfl, F', HD.out.setDead true, hF, HK2.out.setCell (fun _ => f1) _⟩
end Go.Proofs.Ytolmpopjonkfgaa
