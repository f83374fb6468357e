/-
  A matrix at work: its rows in memory; how it begins.
-/
import Derived.Test.YthhljmlpjnkfgaaGreatMat3
import Derived.Test.YthhljmlpjnkfgaaGreatApz
set_option linter.unusedSimpArgs false
set_option linter.unusedVariables false
namespace Go.Proofs.YthhljmlpjnkfgaaGreat
open Go.RowKit Go.Cib
attribute [local go_sem] cell_set Later.cell Later.frozen Grw.cell Grw.frozen

theorem sl_rows : SlTy Tryz.prog 38 29 (.slice none 0 0) 1 24 := ⟨by kernel_rfl, by kernel_rfl, by kernel_rfl, by omega⟩
theorem by_mk {S : Nat → Prop} {w : World} {b o n : Nat} {xs : List Nat} (hl : xs.length = n) (hx : Byt xs) (hS : S b) (hb : b < w.heap.size) (h : ∀ k, k < n → w.cell? ⟨b, o + k, none⟩ = some (.int .u8 (gt xs k))) : RdL ByR 1 S w (some ⟨b, o, none⟩) n xs := by
  refine ⟨hl, fun _ => ⟨b, o, rfl, hS, hb, fun i x hi => ⟨[.int .u8 (x : Int)], rfl, ⟨hx x (List.mem_of_getElem? hi), rfl⟩, fun j v hj => ?_⟩⟩⟩
  rcases j with _ | j
  · simp at hj; subst hj
    have hlt := (List.getElem?_eq_some_iff.1 hi).1
    rw [Nat.mul_one, Nat.add_zero, h i (by omega), Option.some.inj ((gt_of_lt hlt).symm.trans hi)]
  · simp at hj
theorem flat_get : ∀ {V : Rws} {n m : Nat}, Shp n m V → ∀ {i j : Nat}, i < n → j < m → gt V.flatten (i * m + j) = gt (ra V i) j
  | V, n, m, h, i, j, hi, hj => by
    have h1 := flatten_get V (fun r hr => (h.2 r hr).1) i (ra V i) j (ra_of_lt (by rw [h.1]; exact hi)) hj
    unfold gt
    rw [List.getD_eq_getElem?_getD, List.getD_eq_getElem?_getD, h1]
theorem flat_len : ∀ {V : Rws} {n m : Nat}, Shp n m V → V.flatten.length = n * m
  | [], n, m, h => by have := h.1; simp at this; subst this; simp
  | r :: V, n, m, h => by
    have h1 := h.1
    obtain ⟨k, rfl⟩ : ∃ k, n = k + 1 := ⟨V.length, by simpa using h1.symm⟩
    have h2 : Shp k m V := ⟨by simpa using h1, fun r' hr => h.2 r' (List.mem_cons_of_mem _ hr)⟩
    rw [List.flatten_cons, List.length_append, flat_len h2, (h.2 r (List.mem_cons_self ..)).1, Nat.succ_mul]; omega
theorem flat_byt {V : Rws} {n m : Nat} (h : Shp n m V) : Byt V.flatten := fun x hx => by
  obtain ⟨r, hr, hx⟩ := List.mem_flatten.1 hx
  exact (h.2 r hr).2 x hx
theorem mul_lt {i n m j : Nat} (hi : i < n) (hj : j < m) : i * m + j < n * m := by
  have := Nat.mul_le_mul (show i + 1 ≤ n from hi) (Nat.le_refl m)
  rw [Nat.succ_mul] at this
  omega
theorem row_rd {S : Nat → Prop} {w : World} {A : Option Addr} {V : Rws} {n m : Nat} (hV : Shp n m V) (R : RdL ByR 1 S w A (n * m) V.flatten) {i : Nat} (hi : i < n) (hm : 0 < m) :
    RdL ByR 1 S w (A.map fun x : Addr => x.add (i * m)) m (ra V i) := by
  obtain ⟨b, o, rfl, hS, hb⟩ := R.addr (k := i * m + 0) (mul_lt hi hm)
  have e : Option.map (fun x : Addr => x.add (i * m)) (some ⟨b, o, none⟩) = some ⟨b, o + i * m, none⟩ := by
    simp only [Option.map_some, Addr.add]
    split
    · rename_i e; rw [e]; rfl
    · rfl
  rw [e]
  refine by_mk (hV.row hi).1 (hV.row hi).2 hS hb fun k hk => ?_
  rw [Nat.add_assoc, (by_at R (mul_lt hi hk)).1, flat_get hV hi hk]

/-- A matrix at work. -/
structure WorkAt (w : World) (p b m base g n c : Nat) (a : Rws) : Prop where
  box : BoxAt w p #[.pointer (some ⟨b, 0, none⟩), .slice (some ⟨g, 0, none⟩) n c]
  cur : ∃ cur : Array Value, BoxAt w g cur ∧ n ≤ cur.size ∧ ∀ i, i < n → ∃ A c', cur[i]? = some (.slice A m c') ∧ m ≤ c' ∧ RdL ByR 1 (fun k => base ≤ k ∧ k ≠ g ∧ k ≠ p) w A m (ra a i)
  shp : Shp n m a
  pg : p ≠ g
  hp : base ≤ p
  hg : base ≤ g
  nc : n ≤ c
section
variable {w w' : World} {p b m base g n c : Nat} {a : Rws}
theorem WorkAt.below (h : WorkAt w p b m base g n c a) (hb : Below w.heap.size w w') : WorkAt w' p b m base g n c a := by
  obtain ⟨cur, h1, h2, h3⟩ := h.cur
  refine ⟨h.box.below hb, ⟨cur, h1.below hb, h2, fun i hi => ?_⟩, h.shp, h.pg, h.hp, h.hg, h.nc⟩
  obtain ⟨A, c', e1, e2, e3⟩ := h3 i hi
  exact ⟨A, c', e1, e2, e3.below ByR.stable hb⟩
theorem WorkAt.row (h : WorkAt w p b m base g n c a) {i : Nat} (hi : i < n) : ∃ A c', w.cell? ⟨g, i, none⟩ = some (.slice A m c') ∧ w.frozen? ⟨g, i, none⟩ = false ∧ m ≤ c' ∧ RdL ByR 1 (fun k => base ≤ k ∧ k ≠ g ∧ k ≠ p) w A m (ra a i) := by
  obtain ⟨cur, h1, h2, h3⟩ := h.cur
  obtain ⟨A, c', e1, e2, e3⟩ := h3 i hi
  exact ⟨A, c', (h1.cell i).trans e1, h1.frozen i, e2, e3⟩
/-- A row is laid. -/
theorem WorkAt.set (h : WorkAt w p b m base g n c a) {i c' : Nat} {A : Option Addr} {r : List Nat} (hi : i < n) (hc : m ≤ c') (hr : RdL ByR 1 (fun k => base ≤ k ∧ k ≠ g ∧ k ≠ p) w A m r) :
    WorkAt (w.setCell ⟨g, i, none⟩ (.slice A m c')) p b m base g n c (a.set i r) := by
  obtain ⟨cur, h1, h2, h3⟩ := h.cur
  have hst : ∀ {A : Option Addr} {x : List Nat}, RdL ByR 1 (fun k => base ≤ k ∧ k ≠ g ∧ k ≠ p) w A m x → RdL ByR 1 (fun k => base ≤ k ∧ k ≠ g ∧ k ≠ p) (w.setCell ⟨g, i, none⟩ (.slice A m c')) A m x → True := fun _ _ => trivial
  refine ⟨h.box.set_other (by exact h.pg) _, ⟨_, h1.set i _, by rw [Array.size_setIfInBounds]; exact h2, fun k hk => ?_⟩, .of (by rw [List.length_set, h.shp.1]) fun k hk => ?_, h.pg, h.hp, h.hg, h.nc⟩
  · rw [ra_set _ _ _ (by rw [h.shp.1]; exact hk)]
    by_cases e : k = i
    · subst e
      rw [if_pos rfl, set_eq (by omega)]
      exact ⟨A, c', rfl, hc, hr.setCell ByR.stable (fun h => h.2.1 rfl) _⟩
    · rw [if_neg e, set_ne (fun h => e h.symm)]
      obtain ⟨A1, c1, e1, e2, e3⟩ := h3 k hk
      exact ⟨A1, c1, e1, e2, e3.setCell ByR.stable (fun h => h.2.1 rfl) _⟩
  · rw [ra_set _ _ _ (by rw [h.shp.1]; exact hk)]
    split
    · exact ⟨hr.1, by_byt hr⟩
    · exact h.shp.row hk
/-- Out of rows of the call's own. -/
theorem WorkAt.of_own {v : Value} (hbx : BoxAt w p #[.pointer (some ⟨b, 0, none⟩), v]) (ho : OwnL RowR 29 1 (p + 1) (fun k => p < k) w v n a) (hn : 0 < n) (hbase : base ≤ p) (hs : Shp n m a) :
    ∃ g c, v = .slice (some ⟨g, 0, none⟩) n c ∧ WorkAt w p b m base g n c a := by
  obtain ⟨css, h1, h2, h3, h4, h5⟩ := ho
  rcases h1.2 with ⟨_, e⟩ | ⟨g, cap, cur, rfl, hg, hblk, hnc, hcm, hsz, ht⟩
  · omega
  · refine ⟨g, cap, rfl, hbx, ⟨cur, ⟨_, hblk⟩, by omega, fun i hi => ?_⟩, hs, by omega, hbase, by omega, hnc⟩
    obtain ⟨A, n', c', e1, e2, e3⟩ := h5 i css[i] (ra a i) (List.getElem?_eq_getElem (by omega)) (ra_of_lt (by omega))
    have hm : n' = m := by rw [← e3.1]; exact (hs.row hi).1
    subst hm
    refine ⟨A, c', ?_, e2, e3.stable ByR.stable fun k hk _ => ⟨⟨by have := hk.1; omega, fun e => hk.2 (by rw [e]; rfl), by have := hk.1; omega⟩, rfl⟩⟩
    have hf := flatten_get css h4 i css[i] 0 (List.getElem?_eq_getElem (by omega)) (by omega)
    rw [Nat.mul_one, Nat.add_zero, e1] at hf
    have hc := h1.cells (g := g) rfl i _ hf
    rw [Addr.add_lit, Nat.zero_add] at hc
    rw [← hc]
    exact (BoxAt.cell (w := w) (b := g) (cs := cur) ⟨_, hblk⟩ i).symm
end
end Go.Proofs.YthhljmlpjnkfgaaGreat
