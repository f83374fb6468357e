/-
  The small questions about a drive: none, has, ready.
-/
import Derived.Test.YtolmpopjonkfgaaDrive1
set_option linter.unusedSimpArgs false
set_option linter.unusedVariables false
namespace Go.Proofs.Ytolmpopjonkfgaa
open Go.RowKit Go.Cib
attribute [local go_sem] cell_set Later.cell Later.frozen Grw.cell Grw.frozen

@[local go_sem] theorem eql_map_some (m : Nat) (w : World) : (binOp .eql 89 (.map (some m)) (.map none)).run Try.prog w = .ok (.bool false) w := by kernel_rfl
@[local go_sem] theorem eql_map_none (w : World) : (binOp .eql 89 (.map none) (.map none)).run Try.prog w = .ok (.bool true) w := by kernel_rfl

/-- A drive's own five cells. -/
def drvCells (A : Option Addr) (n c : Nat) (A2 : Option Addr) (n2 c2 : Nat) (A3 : Option Addr) (n3 c3 : Nat) (m : Nat) (d : Bool) : Array Value := #[.slice A n c, .slice A2 n2 c2, .slice A3 n3 c3, .map (some m), .bool d]

section
variable {A A2 A3 : Option Addr} {n c n2 c2 n3 c3 m : Nat} {d : Bool} {p : Nat} {w : World}
theorem drv_cells (h : BoxAt w p (drvCells A n c A2 n2 c2 A3 n3 c3 m d)) : w.cell? ⟨p, 0, none⟩ = some (.slice A n c) ∧ w.cell? ⟨p, 1, none⟩ = some (.slice A2 n2 c2) ∧ w.cell? ⟨p, 2, none⟩ = some (.slice A3 n3 c3) ∧ w.cell? ⟨p, 3, none⟩ = some (.map (some m)) ∧ w.cell? ⟨p, 4, none⟩ = some (.bool d) :=
  ⟨h.cell 0, h.cell 1, h.cell 2, h.cell 3, h.cell 4⟩

set_option maxRecDepth 100000 in
theorem none_any (h : Hid (BoxAt w p (drvCells A n c A2 n2 c2 A3 n3 c3 m d))) : Calls Try.prog 57 #[.pointer (some ⟨p, 0, none⟩)] w fun e w' => e = .returned (.bool false) ∧ Below w.heap.size w w' := by
  obtain ⟨k0, k1, k2, k3, k4⟩ := drv_cells h.out
  go_enter Try.func57, Try.ntmps57
  go_wp2_with fail
  go_ret
  exact ⟨rfl, Below.refl _ _⟩

set_option maxRecDepth 100000 in
theorem has_any (z : Int) (h : Hid (BoxAt w p (drvCells A n c A2 n2 c2 A3 n3 c3 m d))) : Calls Try.prog 61 #[.pointer (some ⟨p, 0, none⟩), .int .i64 z] w fun e w' => e = .returned (.bool (decide (0 ≤ z ∧ z < n))) ∧ Below w.heap.size w w' := by
  obtain ⟨k0, k1, k2, k3, k4⟩ := drv_cells h.out
  by_cases h0 : 0 ≤ z
  · go_enter Try.func61, Try.ntmps61
    go_wp2_with fail
    go_ret
    exact ⟨ret_bool2 (by simp [h0] <;> omega), Below.refl _ _⟩
  · go_enter Try.func61, Try.ntmps61
    go_wp2_with fail
    go_ret
    exact ⟨ret_bool2 (by simp [h0] <;> omega), Below.refl _ _⟩

/-- Why nothing can be done. -/
def readyE (d : Bool) (n : Nat) (z : Int) : Int := if d then 90 else if 0 ≤ z ∧ z < n then 0 else 2
set_option maxRecDepth 100000 in
theorem ready_any (z : Int) (h : Hid (BoxAt w p (drvCells A n c A2 n2 c2 A3 n3 c3 m d))) : Calls Try.prog 55 #[.pointer (some ⟨p, 0, none⟩), .int .i64 z] w fun e w' => e = .returned (.int .i64 (readyE d n z)) ∧ Below w.heap.size w w' := by
  go_enter Try.func55, Try.ntmps55
  go_wp2_with fail
  refine (none_any h).mono ?_
  rintro e w1 ⟨rfl, h1⟩
  have H1 := Lib.hid (h.out.below h1)
  obtain ⟨k0, k1, k2, k3, k4⟩ := drv_cells H1.out
  cases d
  · go_wp2_with fail
    refine (has_any z H1).mono ?_
    rintro e w2 ⟨rfl, h2⟩
    have t2 := h1.trans (h2.mono h1.size)
    by_cases hz : 0 ≤ z ∧ z < n
    · have e1 : readyE false n z = 0 := by simp [readyE, hz]
      have e2 : decide (0 ≤ z ∧ z < n) = true := by simpa using hz
      rw [e2]
      have E1 := Lib.hid e1
      clear e1 e2 hz
      go_wp2_with fail
      go_ret
      exact ⟨by show Ending.returned (.int .i64 0) = Ending.returned (.int .i64 (readyE false n z)); rw [E1.out], t2⟩
    · have e1 : readyE false n z = 2 := by simp [readyE, hz]
      have e2 : decide (0 ≤ z ∧ z < n) = false := by simpa using hz
      rw [e2]
      have E1 := Lib.hid e1
      clear e1 e2 hz
      go_wp2_with fail
      go_ret
      exact ⟨by show Ending.returned (.int .i64 2) = Ending.returned (.int .i64 (readyE false n z)); rw [E1.out], t2⟩
  · go_wp2_with fail
    go_ret
    exact ⟨rfl, h1⟩
end
end Go.Proofs.Ytolmpopjonkfgaa
