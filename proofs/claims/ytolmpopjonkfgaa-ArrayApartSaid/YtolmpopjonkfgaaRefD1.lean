/-
  The document's drive: its state as lists, in memory; New, has, Fail, Replace.
-/
import Derived.Test.YtolmpopjonkfgaaDrvY
set_option linter.unusedSimpArgs false
set_option linter.unusedVariables false
namespace Go.Proofs.Ytolmpopjonkfgaa
open Go.RowKit Go.Cib
attribute [local go_sem] cell_set Later.cell Later.frozen Grw.cell Grw.frozen

/-- A builtin's law at a list of operations, as a step of a region that draws its order. -/
theorem step_of_list {P : Program} {ops : Array Oper} {o : Oper} {a : Act} {w : World} {K : Act → World → Prop} {Q : Exit → Act → World → Prop} {X : Prop} (hgd : o.guard = none)
    (h : wpList P ops (fun e a w => e = .normal ∧ K a w) [o] a w) : if Region.wanted o (yielded ops a.tmps) = true then Oper.wp P o a w K Q else X := by
  have hw : Region.wanted o (yielded ops a.tmps) = true := by simp [Region.wanted, hgd]
  rw [if_pos hw]
  unfold wpList at h
  rw [if_pos hw] at h
  rcases h with h | ⟨_, a', w', h, _⟩
  · unfold Oper.wp at h ⊢
    generalize (execOp a.eval o).run P w = r at *
    cases r with
    | ok n w' =>
      cases n <;> simp only [Oper.upon, wpList] at h ⊢
      case value v => exact h.2
      case skip => exact h.2
      case defer d => exact h.2
      case enter f args =>
        refine Calls.mono h fun e w'' he => ?_
        cases e with
        | returned u => exact he.2
        | panicked c => cases he.1
        | outgrown => obtain ⟨_, _, he, _⟩ := he; cases he
      case row row args => exact Rows.mono h fun u w'' he => he.2
    | halt x w' =>
      cases x <;> simp only [Oper.upon] at h ⊢
      case panic v => cases h.1
  · cases h

structure Ev where
  at_ : Int
  b : List Int
  off : Int
  mask : Int
/-- An event. -/
def EvR (S : Nat → Prop) (w : World) (cs : List Value) (e : Ev) : Prop := ∃ A m c, cs = [.int .i64 e.at_, .slice A m c, .int .i64 e.off, .int .u32 e.mask] ∧ RdL U8R 1 S w A m e.b
theorem EvR.stable : Stable EvR := by
  rintro S S' w w' cs e ⟨A, m, c, rfl, h⟩ hk
  exact ⟨A, m, c, rfl, h.stable U8R.stable hk⟩
theorem EvR.one : ∀ S w cs x, EvR S w cs x → ∀ u ∈ cs, u.oneCell' = true := by
  rintro S w cs x ⟨A, m, c, rfl, _⟩ u hu
  simp at hu
  rcases hu with rfl | rfl | rfl | rfl <;> rfl
theorem slEv : SlTy Try.prog 55 124 (.agg #[.int .i64 0, .slice none 0 0, .int .i64 0, .int .u32 0]) 4 48 := ⟨Try.underlying55, by kernel_rfl, rfl, by omega⟩

structure RSt where
  L : List Ev
  wait : List Ev
  gone : Bool

/-- The document's drive of n sectors, at x; its blocks are G. -/
structure RefB (Sb : Nat → Prop) (w : World) (x n : Nat) (vL vW : Value) (rs : RSt) : Prop where
  box : BoxAt w x #[.int .i64 n, vL, vW, .bool rs.gone]
  oL : OwnL EvR 124 4 0 Sb w vL rs.L.length rs.L
  oW : OwnL EvR 124 4 0 Sb w vW rs.wait.length rs.wait
  sx : ∀ b, Sb b → b ≠ x ∧ some b ≠ vL.ownBlock ∧ some b ≠ vW.ownBlock
  lx : vL.ownBlock ≠ some x
  wx : vW.ownBlock ≠ some x
  lw : vL.ownBlock = none ∨ vL.ownBlock ≠ vW.ownBlock
def RefAt (G : Nat → Prop) (w : World) (x n : Nat) (rs : RSt) : Prop := ∃ Sb vL vW, RefB Sb w x n vL vW rs ∧ G x ∧ (∀ b, Sb b → G b) ∧ (∀ k, vL.ownBlock = some k → G k) ∧ (∀ k, vW.ownBlock = some k → G k) ∧ ∀ k, G k → k < w.heap.size

theorem ownL_blocks {X : Type} {R : (Nat → Prop) → World → List Value → X → Prop} {E : TypeId} {s base : Nat} {S : Nat → Prop} {w w' : World} {v : Value} {n : Nat} {xs : List X} (hR : Stable R) (h : OwnL R E s base S w v n xs)
    (hv : ∀ k, v.ownBlock = some k → w'.heap[k]? = w.heap[k]?) (hS : ∀ b, S b → w'.heap[b]? = w.heap[b]?) : OwnL R E s base S w' v n xs := by
  obtain ⟨css, h1, h2, h3, h4, h5⟩ := h
  exact ⟨css, ownsRow_keep h1 hv, h2, h3, h4, fun i cs x hc hx => hR _ _ _ _ _ _ (h5 i cs x hc hx) fun b hb _ => ⟨hb, hS b hb.1⟩⟩
theorem RefAt.keep {F G : Nat → Prop} {w w' : World} {x n : Nat} {rs : RSt} (h : RefAt G w x n rs) (hk : Keep F w w') (hd : ∀ k, G k → ¬ F k) : RefAt G w' x n rs := by
  obtain ⟨Sb, vL, vW, hb, g1, g2, g3, g4, lt⟩ := h
  have hh : ∀ k, G k → w'.heap[k]? = w.heap[k]? := fun k hf => hk.block k (lt k hf) (hd k hf)
  exact ⟨Sb, vL, vW, ⟨hb.box.keep (hh x g1), ownL_blocks EvR.stable hb.oL (fun k hk => hh k (g3 k hk)) (fun b hs => hh b (g2 b hs)), ownL_blocks EvR.stable hb.oW (fun k hk => hh k (g4 k hk)) (fun b hs => hh b (g2 b hs)), hb.sx, hb.lx, hb.wx, hb.lw⟩, g1, g2, g3, g4, fun k hf => Nat.lt_of_lt_of_le (lt k hf) hk.size⟩
theorem RefAt.below {G : Nat → Prop} {w w' : World} {x n : Nat} {rs : RSt} (h : RefAt G w x n rs) (hk : Below w.heap.size w w') : RefAt G w' x n rs := h.keep (Keep.of_below (F := fun _ => False) hk) (fun _ _ h => h)
theorem RefAt.lt {G : Nat → Prop} {w : World} {x n : Nat} {rs : RSt} (h : RefAt G w x n rs) {k : Nat} (hk : G k) : k < w.heap.size := by
  obtain ⟨Sb, vL, vW, hb, _, _, _, _, lt⟩ := h; exact lt k hk
/-- A call changed the document's drive. -/
def RUpd (G : Nat → Prop) (w w' : World) (x n : Nat) (rs' : RSt) : Prop := ∃ G', RefAt G' w' x n rs' ∧ (∀ k, G' k → k < w.heap.size → G k) ∧ Keep G w w'

def RSt.new : RSt := ⟨[], [], false⟩
set_option maxRecDepth 100000 in
theorem rnew_good (n : Nat) (h1 : 1 ≤ n) (h2 : n ≤ 600) (w : World) :
    Calls Try.prog 24 #[.int .i64 n] w fun e w' => ∃ x G, e = .returned (.pointer (some ⟨x, 0, none⟩)) ∧ RefAt G w' x n RSt.new ∧ (∀ b, G b → w.heap.size ≤ b) ∧ Below w.heap.size w w' := by
  go_enter Try.func24, Try.ntmps24
  go_wp2_with fail
  go_ret
  have hb := BoxAt.new w #[.int .i64 n, .slice none 0 0, .slice none 0 0, .bool false] 57
  refine ⟨w.heap.size, fun b => b = w.heap.size, rfl, ⟨fun _ => False, .slice none 0 0, .slice none 0 0, ⟨hb, OwnL.nil_, OwnL.nil_, fun _ h => h.elim, by simp [Value.ownBlock], by simp [Value.ownBlock], .inl rfl⟩, rfl, fun _ h => h.elim, by simp [Value.ownBlock], by simp [Value.ownBlock], ?_⟩, ?_, (Below.refl _ _).alloc (Nat.le_refl _) _⟩
  · rintro k rfl; exact hb.lt
  · rintro k rfl; exact Nat.le_refl _

theorem ref_cells {Sb : Nat → Prop} {w : World} {x n : Nat} {vL vW : Value} {rs : RSt} (h : RefB Sb w x n vL vW rs) : w.cell? ⟨x, 0, none⟩ = some (.int .i64 n) ∧ w.cell? ⟨x, 1, none⟩ = some vL ∧ w.cell? ⟨x, 2, none⟩ = some vW ∧ w.cell? ⟨x, 3, none⟩ = some (.bool rs.gone) :=
  ⟨h.box.cell 0, h.box.cell 1, h.box.cell 2, h.box.cell 3⟩
/-- All events let go, the mark set anew. -/
theorem RefAt.blank {G : Nat → Prop} {w : World} {x n : Nat} {rs : RSt} (h : RefAt G w x n rs) (d : Bool) : RUpd G w (((w.setCell ⟨x, 3, none⟩ (.bool d)).setCell ⟨x, 1, none⟩ (.slice none 0 0)).setCell ⟨x, 2, none⟩ (.slice none 0 0)) x n ⟨[], [], d⟩ := by
  obtain ⟨Sb, vL, vW, hb, g1, g2, g3, g4, lt⟩ := h
  have hx := ((hb.box.set 3 (.bool d)).set 1 (.slice none 0 0)).set 2 (.slice none 0 0)
  have hK : Keep G w (((w.setCell ⟨x, 3, none⟩ (.bool d)).setCell ⟨x, 1, none⟩ (.slice none 0 0)).setCell ⟨x, 2, none⟩ (.slice none 0 0)) := (((Keep.refl G w).setCell (p := ⟨x, 3, none⟩) (fun _ => g1) _).setCell (p := ⟨x, 1, none⟩) (fun _ => g1) _).setCell (p := ⟨x, 2, none⟩) (fun _ => g1) _
  refine ⟨fun b => b = x, ⟨fun _ => False, .slice none 0 0, .slice none 0 0, ⟨hx, OwnL.nil_, OwnL.nil_, fun _ h => h.elim, by simp [Value.ownBlock], by simp [Value.ownBlock], .inl rfl⟩, rfl, fun _ h => h.elim, by simp [Value.ownBlock], by simp [Value.ownBlock], ?_⟩, ?_, hK⟩
  · rintro k rfl; exact hx.lt
  · rintro k rfl _; exact g1

set_option maxRecDepth 100000 in
theorem rfail_any {G : Nat → Prop} {w : World} {x n : Nat} {rs : RSt} (h : Hid (RefAt G w x n rs)) :
    Calls Try.prog 65 #[.pointer (some ⟨x, 0, none⟩)] w fun e w' => e = .returned (.tuple #[]) ∧ RUpd G w w' x n ⟨[], [], true⟩ := by
  obtain ⟨Sb, vL, vW, hb, _⟩ := h.out
  obtain ⟨k0, k1, k2, k3⟩ := ref_cells hb
  have z1 := hb.box.frozen 1; have z2 := hb.box.frozen 2; have z3 := hb.box.frozen 3
  clear hb
  go_enter Try.func65, Try.ntmps65
  go_wp2_with fail
  go_end0
  exact ⟨rfl, h.out.blank true⟩
set_option maxRecDepth 100000 in
theorem rreplace_any {G : Nat → Prop} {w : World} {x n : Nat} {rs : RSt} (h : Hid (RefAt G w x n rs)) :
    Calls Try.prog 66 #[.pointer (some ⟨x, 0, none⟩)] w fun e w' => e = .returned (.tuple #[]) ∧ RUpd G w w' x n ⟨[], [], false⟩ := by
  obtain ⟨Sb, vL, vW, hb, _⟩ := h.out
  obtain ⟨k0, k1, k2, k3⟩ := ref_cells hb
  have z1 := hb.box.frozen 1; have z2 := hb.box.frozen 2; have z3 := hb.box.frozen 3
  clear hb
  go_enter Try.func66, Try.ntmps66
  go_wp2_with fail
  go_end0
  exact ⟨rfl, h.out.blank false⟩

set_option maxRecDepth 100000 in
theorem rhas_any {G : Nat → Prop} {w : World} {x n : Nat} {rs : RSt} (h : Hid (RefAt G w x n rs)) (z : Int) :
    Calls Try.prog 89 #[.pointer (some ⟨x, 0, none⟩), .int .i64 z] w fun e w' => e = .returned (.bool (decide (0 ≤ z ∧ z < n))) ∧ Below w.heap.size w w' := by
  obtain ⟨Sb, vL, vW, hb, _⟩ := h.out
  obtain ⟨k0, k1, k2, k3⟩ := ref_cells hb
  clear hb
  by_cases h0 : 0 ≤ z
  · go_enter Try.func89, Try.ntmps89
    go_wp2_with fail
    go_ret
    exact ⟨ret_bool2 (by simp [h0] <;> omega), Below.refl _ _⟩
  · go_enter Try.func89, Try.ntmps89
    go_wp2_with fail
    go_ret
    exact ⟨ret_bool2 (by simp [h0] <;> omega), Below.refl _ _⟩
end Go.Proofs.Ytolmpopjonkfgaa
