/-
  Waits, Sectors, Dead.
-/
import Derived.Test.YtolmpopjonkfgaaDrive2
set_option linter.unusedSimpArgs false
set_option linter.unusedVariables false
namespace Go.Proofs.Ytolmpopjonkfgaa
open Go.RowKit Go.Cib
attribute [local go_sem] cell_set Later.cell Later.frozen Grw.cell Grw.frozen

section
variable {A A2 A3 : Option Addr} {n c n2 c2 n3 c3 m : Nat} {d : Bool} {p : Nat} {w : World}
set_option maxRecDepth 100000 in
theorem waits_any (h : Hid (BoxAt w p (drvCells A n c A2 n2 c2 A3 n3 c3 m d))) : Calls Try.prog 17 #[.pointer (some ⟨p, 0, none⟩)] w fun e w' => e = .returned (.int .i64 n3) ∧ Below w.heap.size w w' := by
  go_enter Try.func17, Try.ntmps17
  go_wp2_with fail
  refine (none_any h).mono ?_
  rintro e w1 ⟨rfl, h1⟩
  obtain ⟨k0, k1, k2, k3, k4⟩ := drv_cells (h.out.below h1)
  go_wp2_with fail
  go_ret
  exact ⟨rfl, h1⟩
set_option maxRecDepth 100000 in
theorem sectors_any (h : Hid (BoxAt w p (drvCells A n c A2 n2 c2 A3 n3 c3 m d))) : Calls Try.prog 53 #[.pointer (some ⟨p, 0, none⟩)] w fun e w' => e = .returned (.int .i64 n) ∧ Below w.heap.size w w' := by
  go_enter Try.func53, Try.ntmps53
  go_wp2_with fail
  refine (none_any h).mono ?_
  rintro e w1 ⟨rfl, h1⟩
  obtain ⟨k0, k1, k2, k3, k4⟩ := drv_cells (h.out.below h1)
  go_wp2_with fail
  go_ret
  exact ⟨rfl, h1⟩
set_option maxRecDepth 100000 in
theorem dead_any (h : Hid (BoxAt w p (drvCells A n c A2 n2 c2 A3 n3 c3 m d))) : Calls Try.prog 21 #[.pointer (some ⟨p, 0, none⟩)] w fun e w' => e = .returned (.bool d) ∧ Below w.heap.size w w' := by
  go_enter Try.func21, Try.ntmps21
  go_wp2_with fail
  refine (none_any h).mono ?_
  rintro e w1 ⟨rfl, h1⟩
  obtain ⟨k0, k1, k2, k3, k4⟩ := drv_cells (h.out.below h1)
  cases d
  all_goals
    go_wp2_with fail
    go_ret
    exact ⟨rfl, h1⟩
end
end Go.Proofs.Ytolmpopjonkfgaa
