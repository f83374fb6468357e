/-
  slices.Sorted at int, of a slice's values.
-/
import Derived.Test.YthhljmlpjnkfgaaGreatSeq2
set_option linter.unusedSimpArgs false
set_option linter.unusedVariables false
namespace Go.Proofs.YthhljmlpjnkfgaaGreat
open Go.RowKit Go.Cib
attribute [local go_sem] cell_set Later.cell Later.frozen Grw.cell Grw.frozen
open Go.Maps Go.Sort Go.Shelf Go.Proofs

theorem row_rdI {w : World} {base n : Nat} {v : Value} {l : List Int} (h : w.ownsRow base 3 1 v n (l.map (Value.int .i64))) : ∃ A c, v = .slice A n c ∧ n ≤ c ∧ RdL IntR 1 (fun j => base ≤ j) w A n l := by
  have hl : l.length = n := by have := h.1; simpa using this
  rcases h.2 with ⟨rfl, h0⟩ | ⟨g, cap, cur, rfl, hg, hblk, hnc, hcm, hsz, ht⟩
  · subst h0
    exact ⟨none, 0, rfl, Nat.le_refl _, by rw [List.length_eq_zero_iff.1 hl]; exact RdL.nil⟩
  · refine ⟨_, cap, rfl, hnc, hl, fun _ => ⟨g, 0, rfl, hg, (Array.getElem?_eq_some_iff.1 hblk).1, fun i x hx => ⟨[.int .i64 x], rfl, rfl, fun j u hj => ?_⟩⟩⟩
    rcases j with _ | j
    · simp at hj; subst hj
      have hc := h.cells (g := g) rfl i (.int .i64 x) (by rw [List.getElem?_map, hx]; rfl)
      rw [Addr.add_lit, Nat.zero_add] at hc
      rw [show 0 + i * 1 + 0 = i by omega]
      exact hc
    · simp at hj
set_option maxRecDepth 100000 in
theorem collectI_any {w : World} {A : Option Addr} {n c Bs : Nat} {S : Nat → Prop} {xs : List Int} (R : RdL IntR 1 S w A n xs) (hn : n ≤ 1000000) (hbs : BoxAt w Bs #[.slice A n c]) :
    Calls Tryz.prog 52 #[.func (.func 54) #[] #[.pointer (some ⟨Bs, 0, none⟩)]] w fun e w' => ∃ v, e = .returned v ∧ w'.ownsRow w.heap.size 3 1 v xs.length (xs.map (Value.int .i64)) ∧ Below w.heap.size w w' := by
  have hap := appendI_any R hn hbs
  clear R hbs
  go_enter Tryz.func52, Tryz.ntmps52
  go_wp2_with fail
  refine hap.mono ?_
  rintro e w2 ⟨v, rfl, ho, hb⟩
  obtain ⟨RA, RC, rfl⟩ := row_formI ho
  have HO := Lib.hid ho
  have HB := Lib.hid hb
  clear ho hb hap
  go_wp2_with fail
  go_ret
  exact ⟨_, rfl, HO.out, HB.out⟩
def srtF (xs : List Int) : List Int := xs.mergeSort fun x y => decide (x ≤ y)
set_option maxRecDepth 100000 in
set_option maxHeartbeats 4000000 in
theorem sortedI_any {w : World} {A : Option Addr} {n c Bs : Nat} {S : Nat → Prop} {xs : List Int} (R : RdL IntR 1 S w A n xs) (hn : n ≤ 1000000) (hbs : BoxAt w Bs #[.slice A n c]) :
    Calls Tryz.prog 32 #[.func (.func 54) #[] #[.pointer (some ⟨Bs, 0, none⟩)]] w fun e w' => ∃ A' c', e = .returned (.slice A' n c') ∧ n ≤ c' ∧ RdL IntR 1 (fun j => w.heap.size ≤ j) w' A' n (srtF xs) ∧ Below w.heap.size w w' := by
  have hco := collectI_any R hn hbs
  have hxl := R.1
  rw [hxl] at hco
  clear R hbs
  go_enter Tryz.func32, Tryz.ntmps32
  go_wp2_with fail
  refine hco.mono ?_
  rintro e w2 ⟨v, rfl, ho, hb⟩
  have hb0 := hb
  rcases ho.2 with ⟨rfl, h0⟩ | ⟨g, cap, cur, rfl, hg, hblk, hnc, hcm, hsz, ht⟩
  · subst h0
    have hxn : xs = [] := List.length_eq_zero_iff.1 hxl
    subst hxn
    have hs := AnyM.slices_Sort_int_none Tryz.sortI none 0 w2
    change Calls Tryz.prog 53 _ _ _ at hs
    have HB := Lib.hid hb
    clear hb hb0 ho hco
    go_wp2_with fail
    refine hs.mono ?_
    rintro e w9 ⟨rfl, hw9⟩
    rw [hw9]
    clear hw9 hs
    go_wp2_with fail
    go_ret
    exact ⟨none, 0, rfl, Nat.le_refl _, (by rw [show srtF [] = [] by unfold srtF; simp]; exact RdL.nil), HB.out⟩
  · have hH : Holds (Value.int .i64) w2 g 0 xs.toArray := holds_of_block_i hblk (by rw [hxl, ← Nat.mul_one n]; exact ht)
    have hgl : g < w2.heap.size := (Array.getElem?_eq_some_iff.1 hblk).1
    have hs := AnyM.slices_Sort_int Tryz.sortI g 0 cap xs w2 hH hgl (by omega)
    change Calls Tryz.prog 53 _ _ _ at hs
    rw [hxl] at hs
    have HB := Lib.hid hb
    have HO := Lib.hid ho
    clear hb hb0 ho hco
    go_wp2_with fail
    refine hs.mono ?_
    rintro e w3 ⟨rfl, nn, os, hw3⟩
    have hw4 : w3 = grow (putRow (Value.int .i64) (Sort.ahead w2 nn) g 0 (srtF xs).toArray) os := hw3
    clear hw3
    have hrow := ownsRow_sorted_i (n := nn) (os := os) (ss := xs) (ts := srtF xs) (by unfold srtF; simp) hg hblk (by rw [hxl]; exact hnc) hcm hsz
    have hbg : Below w.heap.size w (grow (putRow (Value.int .i64) (Sort.ahead w2 nn) g 0 (srtF xs).toArray) os) := HB.out.grown (grownBy_sorted_i _) HB.out.size (fun j hj => by cases hj; exact hg)
    rw [hxl] at hrow
    change World.ownsRow _ _ _ _ _ _ ((srtF xs).map (Value.int .i64)) at hrow
    have hrow2 : w3.ownsRow w.heap.size 3 1 (.slice (some ⟨g, 0, none⟩) n cap) n ((srtF xs).map (Value.int .i64)) := by rw [hw4]; exact hrow
    have hbg2 : Below w.heap.size w w3 := by rw [hw4]; exact hbg
    obtain ⟨A9, c9, e9, hc9, hr9⟩ := row_rdI hrow2
    injection e9 with e1 _ e2
    subst e1; subst e2
    have HR9 := Lib.hid hr9
    have HBG := Lib.hid hbg2
    clear hrow hr9 hbg hbg2 hs hH HO hw4 hrow2
    go_wp2_with fail
    go_ret
    exact ⟨_, cap, rfl, hc9, HR9.out, HBG.out⟩
end Go.Proofs.YthhljmlpjnkfgaaGreat
