/-
  Sorting a row of uint64: where the row lies, and what it holds; the small walks.
-/
import Derived.Test.YtpibaahiboajhaaOsq2
import Derived.Sort.WalkA
import Derived.Sort.WalkB12
import Derived.Sort.WalkD2
import Derived.Deep.LoopGhost
import Derived.Sort.LotD7
set_option linter.unusedSimpArgs false
set_option linter.unusedVariables false
namespace Go.Proofs.Ytpibaahiboajhaa
open Go.RowKit Go.Cib
attribute [local go_sem] cell_set Later.cell Later.frozen Grw.cell Grw.frozen
open Go.Sort Go.Proofs

/-- Block blk holds, from off on, the numbers of d, as many as n; all else that was in w is as it was. -/
structure RowIs (w : World) (blk off n : Nat) (wr : World) (d : Array Int) : Prop where
  size : d.size = n
  row : ∃ (cur cur' : Array Value) (e : TypeId), w.heap[blk]? = some (.cells cur e (0, 0)) ∧ wr.heap[blk]? = some (.cells cur' e (0, 0)) ∧ cur'.size = cur.size ∧ off + n ≤ cur.size ∧
    (∀ t, t < n → cur'[off + t]? = some (.int .u64 d[t]!)) ∧ ∀ k, k < off ∨ off + n ≤ k → cur'[k]? = cur[k]?
  grown : w.grownBy wr (some blk)
section
variable {w wr wr' : World} {blk off n : Nat} {d : Array Int}
theorem RowIs.lt (h : RowIs w blk off n wr d) : blk < w.heap.size := by
  obtain ⟨cur, cur', e, h1, _⟩ := h.row
  exact (Array.getElem?_eq_some_iff.1 h1).1
theorem RowIs.cell (h : RowIs w blk off n wr d) {t : Nat} (ht : t < n) : wr.cell? ⟨blk, off + t, none⟩ = some (.int .u64 d[t]!) := by
  obtain ⟨cur, cur', e, h1, h2, h3, h4, h5, h6⟩ := h.row
  simp [World.cell?, h2, h5 t ht]
theorem RowIs.frozen (h : RowIs w blk off n wr d) (t : Nat) : wr.frozen? ⟨blk, off + t, none⟩ = false := by
  obtain ⟨cur, cur', e, h1, h2, h3, h4, h5, h6⟩ := h.row
  simp [World.frozen?, h2]
theorem RowIs.later (h : RowIs w blk off n wr d) {row : Option Nat} (hg : wr.grownBy wr' row) (hr : ∀ k, row = some k → w.heap.size ≤ k) : RowIs w blk off n wr' d := by
  have hlt := h.lt
  obtain ⟨cur, cur', e, h1, h2, h3⟩ := h.row
  refine ⟨h.size, ⟨cur, cur', e, h1, (hg.block blk (Array.getElem?_eq_some_iff.1 h2).1 (fun e' => by have := hr blk e'.symm; omega)).trans h2, h3⟩, h.grown.andThen hg (fun j e => Or.inl (hr j e))⟩
theorem RowIs.drewN (h : RowIs w blk off n wr d) (q : Nat) : RowIs w blk off n (wr.drewN q) d := ⟨h.size, h.row, ⟨h.grown.os, h.grown.tape, h.grown.output, h.grown.size, h.grown.block⟩⟩
theorem RowIs.drew (h : RowIs w blk off n wr d) : RowIs w blk off n wr.drew d := ⟨h.size, h.row, ⟨h.grown.os, h.grown.tape, h.grown.output, h.grown.size, h.grown.block⟩⟩
theorem RowIs.set (h : RowIs w blk off n wr d) {i : Nat} (hi : i < n) (x : Int) : RowIs w blk off n (wr.setCell ⟨blk, off + i, none⟩ (.int .u64 x)) (d.setIfInBounds i x) := by
  have hs := h.size
  obtain ⟨cur, cur', e, h1, h2, h3, h4, h5, h6⟩ := h.row
  refine ⟨by rw [Array.size_setIfInBounds]; exact hs, ⟨cur, cur'.setIfInBounds (off + i) (.int .u64 x), e, h1, ?_, by rw [Array.size_setIfInBounds]; exact h3, h4, fun t ht => ?_, fun k hk => ?_⟩, h.grown.andThen (row' := some blk) ⟨rfl, rfl, rfl, by rw [setCell_eq]; simp [mapBlock], fun k hk hne => ?_⟩ (fun j e => by cases e; exact Or.inr rfl)⟩
  · rw [setCell_eq]
    simp [mapBlock, Array.getElem?_modify, h2, onCells]
  · rw [Array.getElem?_setIfInBounds]
    by_cases e2 : off + i = off + t
    · obtain rfl : i = t := by omega
      rw [if_pos rfl, if_pos (by omega), getElem!_set_same d i x (by omega)]
    · rw [if_neg e2, getElem!_set_other d i t x (by omega)]
      exact h5 t ht
  · rw [Array.getElem?_setIfInBounds, if_neg (by omega)]
    exact h6 k hk
  · rw [setCell_eq]
    have : blk ≠ k := fun e' => hne (by rw [e'])
    simp [mapBlock, Array.getElem?_modify, this]
theorem RowIs.swap (h : RowIs w blk off n wr d) {i j : Nat} (hi : i < n) (hj : j < n) {x y : Int} (hx : x = d[j]!) (hy : y = d[i]!) :
    RowIs w blk off n ((wr.setCell ⟨blk, off + i, none⟩ (.int .u64 x)).setCell ⟨blk, off + j, none⟩ (.int .u64 y)) (swp d i j) := by
  subst hx; subst hy
  exact (h.set hi d[j]!).set hj d[i]!
end

set_option maxHeartbeats 1000000 in
theorem isNaN_u (x : Int) (w : World) : Calls Try.prog 177 #[.int .u64 x] w fun e w' => e = .returned (.bool false) ∧ w' = w := by
  go_enter Try.func177, Try.ntmps177
  go_wp2
  go_ret
  exact ⟨by simp, rfl⟩
set_option maxHeartbeats 1000000 in
theorem less_u (x y : Int) (w : World) : Calls Try.prog 152 #[.int .u64 x, .int .u64 y] w fun e w' => e = .returned (.bool (Sort.ltInt x y)) ∧ w' = w := by
  go_enter Try.func152, Try.ntmps152
  go_wp2_with (go_at_call 177; refine (isNaN_u _ _).mono ?_; rintro e w' ⟨rfl, rfl⟩)
  go_ret
  exact ⟨rfl, rfl⟩

set_option maxRecDepth 100000 in
set_option maxHeartbeats 4000000 in
theorem reverse_u {w wr : World} {blk off n cap a b : Nat} {d : Array Int} (h : RowIs w blk off n wr d) (hab : a ≤ b) (hb : b ≤ n) (hn : n ≤ 1000000) :
    Calls Try.prog 150 #[.slice (some ⟨blk, off, none⟩) n cap, .int .i64 a, .int .i64 b] wr fun e w' => e = .returned (.tuple #[]) ∧ RowIs w blk off n w' (reverseRange d a b) := by
  have H := Lib.hid h
  clear h
  go_enter Try.func150, Try.ntmps150
  go_wp2
  go_loopg [6, 7] (b - a) (fun k s6 s7 wq => ∃ (i jn : Nat) (jz : Int) (dk : Array Int), s6 = .int .i64 i ∧ s7 = .int .i64 jz ∧ ((i : Int) < jz → jz = jn ∧ jn < n) ∧ (¬ (i : Int) < jz → ¬ i < jn) ∧ jn - i ≤ k ∧
    Hid (RowIs w blk off n wq dk) ∧ Hid (reverseLoop i jn dk = reverseLoop a (b - 1) d))
  case atStart => exact ⟨a, b - 1, (b : Int) - 1, d, rfl, rfl, fun h => ⟨by omega, by omega⟩, fun h => by omega, by omega, H, Lib.hid rfl⟩
  case round =>
    obtain ⟨wq, rfl⟩ : ∃ wq, wq = wr := ⟨_, rfl⟩
    obtain ⟨i, jn, jz, dk, rfl, rfl, h1, h2, hk, HR, HE⟩ := hrel
    by_cases hlt : (i : Int) < jz
    · obtain ⟨rfl, hjn⟩ := h1 hlt
      have hij : i < jn := by omega
      have ci := HR.out.cell (t := i) (by omega)
      have fi := HR.out.frozen i
      have cj := HR.out.cell (t := jn) hjn
      have fj := HR.out.frozen jn
      obtain ⟨X, hX⟩ : ∃ X, dk[i]! = X := ⟨_, rfl⟩
      obtain ⟨Y, hY⟩ : ∃ Y, dk[jn]! = Y := ⟨_, rfl⟩
      rw [hX] at ci
      rw [hY] at cj
      have HX := Lib.hid hX
      have HY := Lib.hid hY
      clear hX hY h1 h2
      go_wp2_with fail
      go_region
      go_wp2
      go_roundg (jn - 1 - (i + 1))
      case measure => omega
      case rel =>
        have heq := HE.out
        rw [reverseLoop, if_pos hij] at heq
        exact ⟨i + 1, jn - 1, (jn : Int) - 1, swp dk i jn, by simp, rfl, fun h => ⟨by omega, by omega⟩, fun h => by omega, Nat.le_refl _, Lib.hid (HR.out.swap (by omega) hjn HY.out.symm HX.out.symm).drew, Lib.hid heq⟩
    · have hnot := h2 hlt
      go_wp2
      go_end0
      refine ⟨rfl, ?_⟩
      have heq := HE.out
      rw [reverseLoop, if_neg hnot] at heq
      rw [reverseRange, ← heq]
      exact HR.out
end Go.Proofs.Ytpibaahiboajhaa
