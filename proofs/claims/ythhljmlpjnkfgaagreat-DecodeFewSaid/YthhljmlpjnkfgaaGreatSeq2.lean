/-
  slices.AppendSeq, Collect, Sorted at int, of a slice's values.
-/
import Derived.Test.YthhljmlpjnkfgaaGreatSeq1
import Derived.Test.YthhljmlpjnkfgaaGreatSrtI
import Derived.Deep.DeepMust
set_option linter.unusedSimpArgs false
set_option linter.unusedVariables false
namespace Go.Proofs.YthhljmlpjnkfgaaGreat
open Go.RowKit Go.Cib
attribute [local go_sem] cell_set Later.cell Later.frozen Grw.cell Grw.frozen
attribute [local go_sem] Oper.semAt_some
open Go.Shelf

theorem sl_intI : SlTy Tryz.prog 22 3 (.int .i64 0) 1 8 := ⟨by kernel_rfl, by kernel_rfl, by kernel_rfl, by omega⟩
theorem ownsRow_blkI {w w' : World} {base : Nat} {e : TypeId} {s n : Nat} {v : Value} {xs : List Value} (h : w.ownsRow base e s v n xs) (hb : ∀ g, v.ownBlock = some g → w'.heap[g]? = w.heap[g]?) : w'.ownsRow base e s v n xs := by
  refine ⟨h.1, ?_⟩
  rcases h.2 with h | ⟨g, cap, cur, rfl, h1, h2, h3⟩
  · exact .inl h
  · exact .inr ⟨g, cap, cur, rfl, h1, (hb g rfl).trans h2, h3⟩
theorem BoxAt.notcellsI {w : World} {b : Nat} {cs : Array Value} (h : BoxAt w b cs) {r : Nat} {o : Obj} (ho : w.heap[r]? = some o) (hn : o.isCells = false) : b ≠ r := fun e => by
  subst e
  obtain ⟨t, h⟩ := h
  rw [h] at ho
  cases ho
  cases hn
theorem row_cellsI {w : World} {base : Nat} {e : TypeId} {s n : Nat} {v : Value} {xs : List Value} (h : w.ownsRow base e s v n xs) {r : Nat} (hr : v.ownBlock = some r) : ∃ o : Obj, w.heap[r]? = some o ∧ o.isCells = true := by
  rcases h.2 with ⟨rfl, _⟩ | ⟨g, cap, cur, rfl, _, hblk, _⟩
  · cases hr
  · cases hr
    exact ⟨_, hblk, rfl⟩
theorem row_formI {w : World} {base : Nat} {e : TypeId} {s n : Nat} {v : Value} {xs : List Value} (h : w.ownsRow base e s v n xs) : ∃ A C, v = .slice A n C := by
  rcases h.2 with ⟨rfl, h0⟩ | ⟨g, cap, cur, rfl, _⟩
  · exact ⟨none, 0, by rw [h0]⟩
  · exact ⟨_, cap, rfl⟩
/-- Between two rounds: what has come lies in a row of the call's own. -/
structure AppI (w : World) (pre : List Int) (W : World) : Prop where
  low : Below w.heap.size w W
  row : ∃ v, BoxAt W w.heap.size #[v] ∧ W.ownsRow (w.heap.size + 1) 3 1 v pre.length (pre.map (Value.int .i64))
theorem AppI.grown {w W W' : World} {pre : List Int} {row : Option Nat} (h : AppI w pre W) (hg : W.grownBy W' row) (hr : ∀ r, row = some r → w.heap.size ≤ r ∧ ∃ o : Obj, W.heap[r]? = some o ∧ o.isCells = false) : AppI w pre W' := by
  obtain ⟨v, hv, ho⟩ := h.row
  refine ⟨h.low.grown hg h.low.size (fun k e => (hr k e).1), v, hv.keep (hg.block _ hv.lt (fun e => by obtain ⟨_, o, h1, h2⟩ := hr _ e.symm; exact BoxAt.notcellsI hv h1 h2 rfl)), ownsRow_blkI ho fun g hgb => hg.block g (ho.lt g hgb).2 fun e => ?_⟩
  obtain ⟨_, o, h1, h2⟩ := hr g e.symm
  obtain ⟨o2, h3, h4⟩ := row_cellsI ho hgb
  rw [h1] at h3
  cases h3
  rw [h2] at h4; cases h4
theorem AppI.below {w W W' : World} {pre : List Int} (h : AppI w pre W) (hb : Below W.heap.size W W') : AppI w pre W' :=
  h.grown (row := none) ⟨hb.os, hb.tape, hb.output, hb.size, fun k hk _ => hb.block k hk⟩ (fun r e => by cases e)
set_option maxRecDepth 100000 in
set_option maxHeartbeats 8000000 in
theorem appendI_any {w : World} {A : Option Addr} {n c Bs : Nat} {S : Nat → Prop} {xs : List Int} (R : RdL IntR 1 S w A n xs) (hn : n ≤ 1000000) (hbs : BoxAt w Bs #[.slice A n c]) :
    Calls Tryz.prog 69 #[.slice none 0 0, .func (.func 54) #[] #[.pointer (some ⟨Bs, 0, none⟩)]] w fun e w' => ∃ v, e = .returned v ∧ w'.ownsRow w.heap.size 3 1 v xs.length (xs.map (Value.int .i64)) ∧ Below w.heap.size w w' := by
  have HR := Lib.hid R
  have HBS := Lib.hid hbs
  clear R hbs
  refine (callsIn_wide (n := 8)).1 ?_
  refine callsIn_of_wp_marks Tryz.func69 rfl trivial ?_ rfl
  simp only [Tryz.ntmps69, List.size_toArray, List.length_cons, List.length_nil, Nat.reduceAdd, Nat.reduceSub, Array.replicate_succ, Array.replicate_zero, List.push_toArray, List.append_toArray, List.nil_append, List.cons_append]
  have hI0 : AppI w [] (w.alloc (.cells #[.slice none 0 0] 22)) := ⟨(Below.refl _ _).alloc (Nat.le_refl _) _, .slice none 0 0, BoxAt.new _ _ _, by simp, .inl ⟨rfl, rfl⟩⟩
  have hb0 : Below w.heap.size w (w.alloc (.cells #[.slice none 0 0] 22)) := (Below.refl _ _).alloc (Nat.le_refl _) _
  obtain ⟨w1, hw1⟩ : ∃ w1, w.alloc (.cells #[.slice none 0 0] 22) = w1 := ⟨_, rfl⟩
  rw [hw1] at hI0 hb0
  have HI0 := Lib.hid hI0
  have HB0 := Lib.hid hb0
  clear hI0 hb0
  gi_wp2
  have hsz : w.heap.size ≤ w1.heap.size := HB0.out.size
  refine wpIn_rangeFunc_ownH (α := Int) rfl (by omega) (gf := 54) (lb := #[.pointer (some ⟨Bs, 0, none⟩)]) rfl trivial (enters_of Tryz.func54 (by kernel_rfl) rfl)
    (encs := fun x => #[.int .i64 x]) (Kp := Below w.heap.size) (S := fun q => q = xs) (Sp := fun _ => True) (N := n) (w0 := w1)
    (fun lp J Jx W hW hJ hJx hY h0 => (vals1_in HR.out hn HBS.out _ lp J Jx (fun m pre x W1 h1 h2 => YieldAt.anyDepth2 rfl m (hY pre x W1 h1 h2)) W (HB0.out.trans (hW.mono hsz)) h0).mono
      fun e W' h => ⟨h.1, h.2.imp (fun h => ⟨xs, rfl, h⟩) (fun ⟨q, h⟩ => ⟨q, trivial, h⟩)⟩)
    belowK_t (belowK_b hsz) (Below.refl _ _) (fun _ => rfl)
    (AppI w) (fun _ _ _ => False)
    (fun s W W' row hs hg hr => hs.grown hg (fun r e => ⟨Nat.le_trans hsz (hr r e).1, (hr r e).2⟩))
    (fun c s W W' row hs hg hr => hs)
    HI0.out
    (fun x a' W => a' = { tmps := #[.slice none 0 0, (.func (.func 54) #[] #[.pointer (some ⟨Bs, 0, none⟩)]), .pointer (some ⟨w.heap.size, 0, none⟩), undef, .slice none 0 0, .int .i64 x, (.func (.func 54) #[] #[.pointer (some ⟨Bs, 0, none⟩)]), .int .i64 x, undef, undef, undef, undef, undef], defers := [] })
    (fun x a' s W W' row h hg hr => h)
    ?assign ?body ?done ?stop
  case assign =>
    rintro lp pre x W K hI hK
    have HI1 := Lib.hid hI
    clear hI
    gi_wp2
    exact hK _ _ (KeepsFrom.refl _ _) (Below.refl _ _) HI1.out rfl
  case body =>
    rintro lp pre x a' W hl hr hI rfl hlt
    obtain ⟨v, hv, ho⟩ := hI.row
    have hRA : ∃ RA RC, v = .slice RA pre.length RC := by
      rcases ho.2 with ⟨rfl, h⟩ | ⟨g, cap, cur, rfl, _⟩
      · exact ⟨none, 0, by rw [h]⟩
      · exact ⟨_, cap, rfl⟩
    obtain ⟨RA, RC, rfl⟩ := hRA
    have o0 := hv.cell 0
    have of0 := hv.frozen 0
    obtain ⟨m, hm⟩ : ∃ m, pre.length = m := ⟨_, rfl⟩
    rw [hm] at o0 ho hlt
    have hal := BoxAt.new W #[.int .i64 x] 3
    have hal1 : Below W.heap.size W (W.alloc (.cells #[.int .i64 x] 3)) := (Below.refl _ _).alloc (Nat.le_refl _) _
    have hgw : (W.alloc (.cells #[.int .i64 x] 3)).ownsRow (w.heap.size + 1) 3 1 (.slice RA m RC) m (pre.map (Value.int .i64)) := ownsRow_blkI ho fun g hg => hal1.block g (ho.lt g hg).2
    obtain ⟨W3, hW3⟩ : ∃ W3, W.alloc (.cells #[.int .i64 x] 3) = W3 := ⟨_, rfl⟩
    obtain ⟨vb, hvb⟩ : ∃ vb, W.heap.size = vb := ⟨_, rfl⟩
    have hbsW : w.heap.size < W.heap.size := hv.lt
    rw [hW3] at hal hal1 hgw
    rw [hvb] at hal
    have y30 := (hal1.cell (p := ⟨w.heap.size, 0, none⟩) hbsW).trans o0
    have yf30 := (hal1.frozen (p := ⟨w.heap.size, 0, none⟩) hbsW).trans of0
    have hsz3 := hal1.size
    have hlow := hI.low.size
    obtain ⟨ti, hti, htz, hts, htb⟩ := info_parts sl_intI.info
    have hownO : (Value.slice RA m RC).ownBlock ≠ some w.heap.size := fun e => by have := (ho.lt _ e).1; omega
    have HG := Lib.hid hgw
    have HAL := Lib.hid hal
    have HAL1 := Lib.hid hal1
    have HII := Lib.hid hI
    have HV := Lib.hid hv
    have HM := Lib.hid hm
    have HHO := Lib.hid ho
    have HW3 := Lib.hid hW3
    clear hgw hal hal1 hI hv ho hm hr
    gi_wp2_with (
      gi_at_builtin
      go_must (refine Go.wpListIn_append_own_at _ rfl _ _ 22 rfl (w.heap.size + 1) 3 ti _ 1 8 sl_intI.und hti htz hts htb rfl (by decide) (.slice RA m RC) m (pre.map (Value.int .i64)) rfl HG.out ⟨vb, 0, none⟩ 1 1 [.int .i64 x] rfl rfl (fun j u hj => by rw [Addr.add_lit, HAL.out.cell]; simpa using hj) (by intro u hu; simp at hu; subst hu; rfl) (by unfold maxLen; omega) (by omega) (by omega) ?_)
      intro v' w4' hown4 hg4 hnil4 hat4
      go_must (obtain ⟨A4, C4, rfl⟩ := row_formI hown4)
      go_must (have y40 := (World.cell?_of_block (a := ⟨w.heap.size, 0, none⟩) (hg4.block w.heap.size (by omega) (fun e => hownO e.symm))).trans y30)
      go_must (have yf40 := (World.frozen?_of_block (a := ⟨w.heap.size, 0, none⟩) (hg4.block w.heap.size (by omega) (fun e => hownO e.symm))).trans yf30)
      go_must (have HO4 := Lib.hid hown4)
      go_must (have HG4 := Lib.hid hg4)
      clear hown4 hg4 hnil4 hat4)
    have hI3 := HII.out.below HAL1.out
    have hrow : ∀ r, (Value.slice RA m RC).ownBlock = some r → w.heap.size + 1 ≤ r := fun r e => (HHO.out.lt r e).1
    have hS3 : w.heap.size ≤ W3.heap.size := hI3.low.size
    have hb4 : Below w.heap.size W3 w4' := (Below.refl _ _).grown HG4.out hS3 (fun k e => by have := hrow k e; omega)
    have hb5 : Below w.heap.size w4' (w4'.setCell ⟨w.heap.size, 0, none⟩ (.slice A4 (m + 1) C4)) := (Below.refl _ _).setCell (p := ⟨w.heap.size, 0, none⟩) (Nat.le_refl _) _
    refine ⟨?_, ((HAL1.out.mono hlow).trans hb4).trans hb5, (hI3.low.trans hb4).trans hb5, .slice A4 (m + 1) C4, ?_, ?_⟩
    · refine KeepsFrom.trans (KeepsFrom.of_grownBy (row := none) ⟨HAL1.out.os, HAL1.out.tape, HAL1.out.output, HAL1.out.size, fun k hk _ => HAL1.out.block k hk⟩ (fun r e => by cases e)) ?_
      refine KeepsFrom.trans (KeepsOthers.from (KeepsOthers.of_grownBy HG4.out ?_) _) ((KeepsOthers.setCell _ _ _).from _)
      intro r o e ho
      obtain ⟨o2, h1, h2⟩ := row_cellsI HG.out e
      rw [h1] at ho
      cases ho
      exact h2
    · have := ((HV.out.below HAL1.out).keep (HG4.out.block w.heap.size (Nat.lt_of_lt_of_le hbsW hsz3) (fun e => hownO e.symm))).set 0 (.slice A4 (m + 1) C4)
      simpa using this
    · rw [List.map_append, List.length_append, HM.out]
      exact ownsRow_blkI HO4.out fun g hg => Below.heap_setCell _ _ _ _ (fun e => by have := (HO4.out.lt g hg).1; dsimp only at e; omega)
  case done =>
    rintro D q W hD hq hI hK
    subst hq
    obtain ⟨v, hv, ho⟩ := hI.row
    have o0 := hv.cell 0
    have HII := Lib.hid hI
    have HO := Lib.hid ho
    have HK := Lib.hid hK
    have hDw : w.heap.size ≤ D := Nat.le_trans hsz hD
    clear hI ho hv hK
    gi_wp2
    refine ⟨by simp, .inl ⟨_, _, rfl, run_takeDeferred HK.out, ?_⟩⟩
    refine ⟨_, results_tmp rfl _ _ _, v, rfl, ?_, HII.out.low.trans (belowK_b (w := w) (Nat.le_refl _) W D _ _ hDw HK.out rfl rfl)⟩
    have h9 := ownsRow_blkI HO.out (w' := W.putObj D (.deferred none)) fun g hg => World.putObj_heap_other (fun e => by
      obtain ⟨o2, h3, h4⟩ := row_cellsI HO.out hg
      rw [e, HK.out] at h3
      cases h3
      cases h4)
    refine ⟨h9.1, h9.2.imp id ?_⟩
    rintro ⟨g, cap, cur, e1, e2, e3⟩
    exact ⟨g, cap, cur, e1, by omega, e3⟩
  case stop => rintro D c q W hD hq h hK; exact h.elim
end Go.Proofs.YthhljmlpjnkfgaaGreat
