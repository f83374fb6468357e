/-
  Flush, Crash.
-/
import Derived.Test.YtolmpopjonkfgaaDrvS
set_option linter.unusedSimpArgs false
set_option linter.unusedVariables false
namespace Go.Proofs.Ytolmpopjonkfgaa
open Go.RowKit Go.Cib
attribute [local go_sem] cell_set Later.cell Later.frozen Grw.cell Grw.frozen

theorem call50 (args : Array Value) (w : World) : (callFunc 59 args).run Try.prog w = .ok (.enter 59 args) w := by go_simp
theorem call51 (args : Array Value) (w : World) : (callFunc 60 args).run Try.prog w = .ok (.enter 60 args) w := by go_simp
theorem all_kept (k : Nat) (w : World) : Calls Try.prog 59 #[.int .i64 k] w fun e w' => e = .returned (.bool true) ∧ Below w.heap.size w w' := by
  go_enter Try.func59, Try.ntmps59
  go_wp2_with fail
  go_ret
  exact ⟨rfl, Below.refl _ _⟩

set_option maxRecDepth 100000 in
theorem flush_good {F : Nat → Prop} {w : World} {p n : Nat} {st : DSt} (h : Hid (DrvAt F w p n st)) (hd : st.dead = false) (hcl : st.cache.length < 1000000) :
    Calls Try.prog 15 #[.pointer (some ⟨p, 0, none⟩)] w fun e w' => e = .returned (.int .i64 0) ∧ Upd F w w' p n (st.settle fun _ => true) := by
  obtain ⟨sb, sc, rb, rc, A, cc, mb, H⟩ := h.out.box
  rw [hd] at H
  go_enter Try.func15, Try.ntmps15
  go_wp2_with fail
  refine (none_any H).mono ?_
  rintro e w1 ⟨rfl, h1⟩
  have D := Lib.hid (h.out.below h1)
  obtain ⟨k0, k1, k2, k3, k4⟩ := drv_cells (H.out.below h1)
  go_wp2_with fail
  refine (settle_any D (fun _ => true) 59 #[] (fun k w' _ _ => by simpa using all_kept k w') call50 hcl).mono ?_
  rintro e w2 ⟨rfl, F', hD', hF, hK⟩
  have hKF := (Keep.of_below (F := F) h1).trans hK (fun k h _ => h)
  have s1 := h1.size
  clear k0 k1 k2 k3 k4 H h D h1 hK
  go_wp2_with fail
  go_ret
  exact ⟨rfl, F', hD', fun k hk hlt => hF k hk (by omega), hKF⟩

set_option maxRecDepth 100000 in
theorem flush_dead {F : Nat → Prop} {w : World} {p n : Nat} {st : DSt} (h : Hid (DrvAt F w p n st)) (hd : st.dead = true) :
    Calls Try.prog 15 #[.pointer (some ⟨p, 0, none⟩)] w fun e w' => e = .returned (.int .i64 90) ∧ Below w.heap.size w w' := by
  obtain ⟨sb, sc, rb, rc, A, cc, mb, H⟩ := h.out.box
  rw [hd] at H
  go_enter Try.func15, Try.ntmps15
  go_wp2_with fail
  refine (none_any H).mono ?_
  rintro e w1 ⟨rfl, h1⟩
  obtain ⟨k0, k1, k2, k3, k4⟩ := drv_cells (H.out.below h1)
  go_wp2_with fail
  go_ret
  exact ⟨rfl, h1⟩

/-- What a crash keeps. -/
def keepOf (ks : List Bool) (k : Nat) : Bool := (ks[k]?).getD false
set_option maxRecDepth 100000 in
theorem crash_keeps (k : Nat) (w : World) {bb : Nat} {S : Nat → Prop} {A : Option Addr} {m c : Nat} {ks : List Bool} (hx : BoxAt w bb #[.slice A m c]) (hr : Hid (RdL BoolR 1 S w A m ks)) :
    Calls Try.prog 60 #[.int .i64 k, .pointer (some ⟨bb, 0, none⟩)] w fun e w' => e = .returned (.bool (keepOf ks k)) ∧ Below w.heap.size w w' := by
  have q0 : w.cell? ⟨bb, 0, none⟩ = some (.slice A m c) := hx.cell 0
  have hl := hr.out.1
  by_cases hk : k < m
  · obtain ⟨b, o, rfl, _, hlt⟩ := hr.out.addr hk
    obtain ⟨hkl, cs, h1, h2, h3⟩ := hr.out.at hk
    have h4 : cs = [.bool ks[k]] := h2
    subst h4
    have q1 : w.cell? ⟨b, o + k, none⟩ = some (.bool ks[k]) := by have := h3 0 _ rfl; simpa using this
    have e1 : keepOf ks k = ks[k] := by simp [keepOf, hkl]
    obtain ⟨v, hv⟩ : ∃ v, ks[k] = v := ⟨_, rfl⟩
    rw [hv] at q1 e1
    have E1 := Lib.hid e1
    clear h2 h3 hv e1 h1
    go_enter Try.func60, Try.ntmps60
    go_wp2_with fail
    go_ret
    exact ⟨by rw [E1.out]; rfl, Below.refl _ _⟩
  · have e1 : keepOf ks k = false := by simp [keepOf, List.getElem?_eq_none (by omega : ks.length ≤ k)]
    have E1 := Lib.hid e1
    clear e1
    go_enter Try.func60, Try.ntmps60
    go_wp2_with fail
    go_ret
    exact ⟨by rw [E1.out]; rfl, Below.refl _ _⟩

set_option maxRecDepth 100000 in
theorem crash_any {F : Nat → Prop} {w : World} {p n : Nat} {st : DSt} (h : Hid (DrvAt F w p n st)) (hcl : st.cache.length < 1000000) {S : Nat → Prop} {A : Option Addr} {m c : Nat} {ks : List Bool} (hr : Hid (RdL BoolR 1 S w A m ks)) (hS : ∀ b, S b → ¬ F b) :
    Calls Try.prog 16 #[.pointer (some ⟨p, 0, none⟩), .slice A m c] w fun e w' => e = .returned (.tuple #[]) ∧ Upd F w w' p n (st.settle (keepOf ks)) := by
  have hx := Lib.hid (BoxAt.new w #[.slice A m c] 23)
  have hb0 : Below w.heap.size w (w.alloc (.cells #[.slice A m c] 23)) := (Below.refl _ _).alloc (Nat.le_refl _) _
  obtain ⟨W, hW⟩ : ∃ W, w.alloc (.cells #[.slice A m c] 23) = W := ⟨_, rfl⟩
  obtain ⟨bb, hbb⟩ : ∃ bb, w.heap.size = bb := ⟨_, rfl⟩
  rw [hW] at hb0 hx
  rw [hbb] at hx
  have D0 := Lib.hid (h.out.below hb0)
  have R0 := Lib.hid (hr.out.below BoolR.stable hb0)
  have hbF : ¬ F bb := fun hf => by have := h.out.lt hf; omega
  obtain ⟨sb, sc, rb, rc, A2, cc, mb, H⟩ := D0.out.box
  have K0 := Lib.hid (Keep.of_below (F := F) hb0)
  have s0 := hb0.size
  have HW := Lib.hid hW
  have HBB := Lib.hid hbb
  clear h hr hb0
  go_enter Try.func16, Try.ntmps16
  go_wp2_with fail
  refine (none_any H).mono ?_
  rintro e w1 ⟨rfl, h1⟩
  have D := Lib.hid (D0.out.below h1)
  have X := Lib.hid (hx.out.below h1)
  have R := Lib.hid (R0.out.below BoolR.stable h1)
  clear D0 hx R0 H HW HBB hW hbb
  go_wp2_with fail
  refine (settle_any D (keepOf ks) 60 #[.pointer (some ⟨bb, 0, none⟩)] (fun k w' _ hk => by simpa using crash_keeps k w' (X.out.keeps hk hbF) (Lib.hid (R.out.keep BoolR.stable hk hS))) call51 hcl).mono ?_
  rintro e w2 ⟨rfl, F', hD', hF, hK⟩
  have hKF := (K0.out.trans (Keep.of_below (F := F) h1) (fun k h _ => h)).trans hK (fun k h _ => h)
  have s1 := h1.size
  clear X R D hK h1 K0
  go_wp2_with fail
  go_end0
  exact ⟨rfl, F', hD', fun k hk hlt => hF k hk (by omega), hKF⟩
end Go.Proofs.Ytolmpopjonkfgaa
