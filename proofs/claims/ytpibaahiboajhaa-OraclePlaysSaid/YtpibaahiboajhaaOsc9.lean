/-
  The document's oracle in memory.
-/
import Derived.Test.YtpibaahiboajhaaOsc7
import Derived.Test.YtpibaahiboajhaaOrd
set_option linter.unusedSimpArgs false
set_option linter.unusedVariables false
namespace Go.Proofs.Ytpibaahiboajhaa
open Go.RowKit Go.Cib
attribute [local go_sem] cell_set Later.cell Later.frozen Grw.cell Grw.frozen
open Go.Sort Go.Proofs Go.Shelf

/-- The document's oracle: the numbers that are open, in the order in which they lie. -/
structure ROrcAt (S : Nat → Prop) (w : World) (x : Nat) (last most : Int) (L : List Int) : Prop where
  row : ∃ A c, BoxAt w x #[.int .u64 last, .int .u64 most, .slice A L.length c] ∧ L.length ≤ c ∧ RdL U64R 1 S w A L.length L
  len : L.length ≤ 1000
section
variable {S : Nat → Prop} {w w' : World} {x : Nat} {last most : Int} {L : List Int}
theorem ROrcAt.below (h : ROrcAt S w x last most L) (hb : Below w.heap.size w w') : ROrcAt S w' x last most L := by
  obtain ⟨A, c, h1, h2, h3⟩ := h.row
  exact ⟨⟨A, c, h1.below hb, h2, h3.below U64R.stable hb⟩, h.len⟩
theorem ROrcAt.keep {F : Nat → Prop} (h : ROrcAt S w x last most L) (hk : Keep F w w') (hx : ¬ F x) (hS : ∀ b, S b → ¬ F b) : ROrcAt S w' x last most L := by
  obtain ⟨A, c, h1, h2, h3⟩ := h.row
  exact ⟨⟨A, c, h1.keeps hk hx, h2, h3.keep U64R.stable hk hS⟩, h.len⟩
theorem ROrcAt.lt (h : ROrcAt S w x last most L) : x < w.heap.size := by
  obtain ⟨A, c, h1, h2, h3⟩ := h.row
  exact h1.lt
theorem ROrcAt.drewN (h : ROrcAt S w x last most L) (q : Nat) : ROrcAt S (w.drewN q) x last most L := by
  obtain ⟨A, c, h1, h2, h3⟩ := h.row
  exact ⟨⟨A, c, h1, h2, h3⟩, h.len⟩
end
theorem u64_one {W : World} (x : Int) (E : TypeId) : RdL U64R 1 (fun b => b = W.heap.size) (W.alloc (.cells #[.int .u64 x] E)) (some ⟨W.heap.size, 0, none⟩) 1 [x] := by
  have hX := BoxAt.new W #[.int .u64 x] E
  refine ⟨rfl, fun _ => ⟨W.heap.size, 0, rfl, rfl, hX.lt, fun i y hy => ?_⟩⟩
  match i, hy with
  | 0, hy =>
    cases hy
    refine ⟨[.int .u64 x], rfl, rfl, fun j v hj => ?_⟩
    match j, hj with
    | 0, hj => cases hj; exact hX.cell 0
/-- Another row is laid in. -/
theorem rorc_put {S : Nat → Prop} {wq wz : World} {x : Nat} {last most : Int} {L L' : List Int} {A : Option Addr} {n c : Nat} (h : ROrcAt S wq x last most L) (hO : OwnL U64R 22 1 wq.heap.size (fun _ => True) wz (.slice A n c) n L') (hb : Below wq.heap.size wq wz)
    (hSx : ¬ S x) (hSn : ∀ b, wq.heap.size ≤ b → S b) (hl : L'.length ≤ 1000) (hc : n ≤ c) : ROrcAt S (wz.setCell ⟨x, 2, none⟩ (.slice A n c)) x last most L' := by
  obtain ⟨A0, c0, h1, h2, h3⟩ := h.row
  have hlen : L'.length = n := hO.len
  refine ⟨⟨A, c, ?_, by omega, ?_⟩, hl⟩
  · rw [hlen]; exact (h1.below hb).set 2 _
  · obtain ⟨A2, c2, e, _, hr⟩ := hO.rd (S' := S) (fun q hq => hSn q hq) (fun cs y hy => hy)
    injection e with e1 e2 e3
    subst e1
    rw [hlen]
    exact hr.setCell U64R.stable hSx _

set_option maxRecDepth 100000 in
set_option maxHeartbeats 4000000 in
theorem rbegin_ok {S : Nat → Prop} {wq : World} {x : Nat} {last most : Int} {L : List Int} (h : Hid (ROrcAt S wq x last most L)) (hSx : ¬ S x) (hSn : ∀ b, wq.heap.size ≤ b → S b) (hl : L.length < 1000) :
    Calls Try.prog 18 #[.pointer (some ⟨x, 0, none⟩)] wq fun e w' => e = .returned (.int .u64 last) ∧ ROrcAt S w' x last most (L ++ [last]) ∧ Keep (· = x) wq w' := by
  obtain ⟨A, c, hX, hc, R⟩ := h.out.row
  have hxl := hX.lt
  have u0 := fun w' (hb : Below wq.heap.size wq w') => (hb.cell (p := ⟨x, 0, none⟩) hxl).trans (hX.cell 0)
  have u2 := fun w' (hb : Below wq.heap.size wq w') => (hb.cell (p := ⟨x, 2, none⟩) hxl).trans (hX.cell 2)
  have RL0 := Lib.hid R
  clear R
  go_enter Try.func18, Try.ntmps18
  go_wp2_with fail
  refine wp_region_L (S := fun w' => Below wq.heap.size wq w') [13, 14, 15] (by kernel_rfl) (by first | assumption | exact Below.refl _ _ | exact (Below.refl _ _).drew | exact (by repeat (first | (with_reducible exact Below.refl _ _) | (with_reducible assumption) | (with_reducible refine Below.drew ?_) | (with_reducible refine Below.setCell ?_ ?_ _) | (with_reducible refine Below.alloc ?_ ?_ _) | (with_reducible refine Below.later ?_ ?_ _) | (first | (with_reducible exact Nat.le_refl _) | omega | (simp only [World.size_alloc, World.size_setCell, World.size_drew] <;> omega))))) (fun hHeld => ?_)
  refine wpAnyL_take (i := 0) (v := ?_) rfl (by kernel_rfl) (by kernel_rfl) (by kernel_rfl) (by kernel_rfl) (fun _ _ _ h => h) (Or.inl ⟨by first | kernel_rfl | rfl, ?_⟩) (by assumption) ?_
  rotate_left
  · (intro wq0 hSw; (try dsimp only at hSw); (try simp (maxSteps := 2000000) only [List.getElem_toArray, List.getElem_cons_succ, List.getElem_cons_zero]); go_simp); try with_reducible rfl
  try simp (maxSteps := 2000000) only [List.getElem_toArray, List.getElem_cons_succ, List.getElem_cons_zero, Act.put, List.setIfInBounds_toArray, List.set_cons_zero, List.set_cons_succ]
  refine wpAnyL_take (i := 2) (v := ?_) rfl (by kernel_rfl) (by kernel_rfl) (by kernel_rfl) (by kernel_rfl) (fun _ _ _ h => h) (Or.inl ⟨by first | kernel_rfl | rfl, ?_⟩) (by assumption) ?_
  rotate_left
  · (intro wq0 hSw; (try dsimp only at hSw); (try simp (maxSteps := 2000000) only [List.getElem_toArray, List.getElem_cons_succ, List.getElem_cons_zero]); go_simp); try with_reducible rfl
  try simp (maxSteps := 2000000) only [List.getElem_toArray, List.getElem_cons_succ, List.getElem_cons_zero, Act.put, List.setIfInBounds_toArray, List.set_cons_zero, List.set_cons_succ]
  refine wpAnyL_take (i := 3) (v := ?_) rfl (by kernel_rfl) (by kernel_rfl) (by kernel_rfl) (by kernel_rfl) (fun _ _ _ h => h) (Or.inl ⟨by first | kernel_rfl | rfl, ?_⟩) (by assumption) ?_
  rotate_left
  · (intro wq0 hSw; (try dsimp only at hSw); (try simp (maxSteps := 2000000) only [List.getElem_toArray, List.getElem_cons_succ, List.getElem_cons_zero]); go_simp); try with_reducible rfl
  try simp (maxSteps := 2000000) only [List.getElem_toArray, List.getElem_cons_succ, List.getElem_cons_zero, Act.put, List.setIfInBounds_toArray, List.set_cons_zero, List.set_cons_succ]
  refine wpAnyL_take (i := 4) (v := ?_) rfl (by kernel_rfl) (by kernel_rfl) (by kernel_rfl) (by kernel_rfl) (fun _ _ _ h => h) (Or.inl ⟨by first | kernel_rfl | rfl, ?_⟩) (by assumption) ?_
  rotate_left
  · (intro wq0 hSw; (try dsimp only at hSw); (try simp (maxSteps := 2000000) only [List.getElem_toArray, List.getElem_cons_succ, List.getElem_cons_zero]); go_simp); try with_reducible rfl
  try simp (maxSteps := 2000000) only [List.getElem_toArray, List.getElem_cons_succ, List.getElem_cons_zero, Act.put, List.setIfInBounds_toArray, List.set_cons_zero, List.set_cons_succ]
  refine wpAnyL_take (i := 5) (v := ?_) rfl (by kernel_rfl) (by kernel_rfl) (by kernel_rfl) (by kernel_rfl) (fun _ _ _ h => h) (Or.inl ⟨by first | kernel_rfl | rfl, ?_⟩) (by assumption) ?_
  rotate_left
  · (intro wq0 hSw; (try dsimp only at hSw); (try simp (maxSteps := 2000000) only [List.getElem_toArray, List.getElem_cons_succ, List.getElem_cons_zero]); go_simp); try with_reducible rfl
  try simp (maxSteps := 2000000) only [List.getElem_toArray, List.getElem_cons_succ, List.getElem_cons_zero, Act.put, List.setIfInBounds_toArray, List.set_cons_zero, List.set_cons_succ]
  refine wpAnyL_take (i := 7) (v := ?_) rfl (by kernel_rfl) (by kernel_rfl) (by kernel_rfl) (by kernel_rfl) (fun _ _ _ h => h) (Or.inl ⟨by first | kernel_rfl | rfl, ?_⟩) (by assumption) ?_
  rotate_left
  · (intro wq0 hSw; (try dsimp only at hSw); (try simp (maxSteps := 2000000) only [List.getElem_toArray, List.getElem_cons_succ, List.getElem_cons_zero]); go_simp); try with_reducible rfl
  try simp (maxSteps := 2000000) only [List.getElem_toArray, List.getElem_cons_succ, List.getElem_cons_zero, Act.put, List.setIfInBounds_toArray, List.set_cons_zero, List.set_cons_succ]
  refine wpAnyL_take (i := 8) (v := ?_) rfl (by kernel_rfl) (by kernel_rfl) (by kernel_rfl) (by kernel_rfl) (fun _ _ _ h => h) (Or.inl ⟨by first | kernel_rfl | rfl, ?_⟩) (by assumption) ?_
  rotate_left
  · (intro wq0 hSw; (try dsimp only at hSw); (try simp (maxSteps := 2000000) only [List.getElem_toArray, List.getElem_cons_succ, List.getElem_cons_zero]); go_simp); try with_reducible rfl
  try simp (maxSteps := 2000000) only [List.getElem_toArray, List.getElem_cons_succ, List.getElem_cons_zero, Act.put, List.setIfInBounds_toArray, List.set_cons_zero, List.set_cons_succ]
  refine wpAnyL_take (i := 9) (v := ?_) rfl (by kernel_rfl) (by kernel_rfl) (by kernel_rfl) (by kernel_rfl) (fun _ _ _ h => h) (Or.inl ⟨by first | kernel_rfl | rfl, ?_⟩) (by assumption) ?_
  rotate_left
  · (intro wq0 hSw; (try dsimp only at hSw); (try simp (maxSteps := 2000000) only [List.getElem_toArray, List.getElem_cons_succ, List.getElem_cons_zero]); go_simp); try with_reducible rfl
  try simp (maxSteps := 2000000) only [List.getElem_toArray, List.getElem_cons_succ, List.getElem_cons_zero, Act.put, List.setIfInBounds_toArray, List.set_cons_zero, List.set_cons_succ]
  refine wpAnyL_take (i := 10) (v := ?_) rfl (by kernel_rfl) (by kernel_rfl) (by kernel_rfl) (by kernel_rfl) (fun _ _ _ h => h) (Or.inl ⟨by first | kernel_rfl | rfl, ?_⟩) (by assumption) ?_
  rotate_left
  · (intro wq0 hSw; (try dsimp only at hSw); (try simp (maxSteps := 2000000) only [List.getElem_toArray, List.getElem_cons_succ, List.getElem_cons_zero]); go_simp); try with_reducible rfl
  try simp (maxSteps := 2000000) only [List.getElem_toArray, List.getElem_cons_succ, List.getElem_cons_zero, Act.put, List.setIfInBounds_toArray, List.set_cons_zero, List.set_cons_succ]
  obtain ⟨wd, hwd⟩ : ∃ wd, wq.drew = wd := ⟨_, rfl⟩
  rw [hwd] at hHeld ⊢
  clear hwd
  have hs_wd := hHeld.size
  refine wpAnyL_ready (rs := [1, 11]) (by kernel_rfl) (by simp) ?_
  refine AllReadyL.cons rfl (fun K hK => ?_) (AllReadyL.cons rfl (fun K hK => ?_) AllReadyL.nil)
  · try simp (maxSteps := 2000000) only [List.getElem_toArray, List.getElem_cons_succ, List.getElem_cons_zero]
    go_simp
    have hA : Below wd.heap.size wd (wd.alloc (.cells #[] 22)) := (Below.refl _ _).alloc (Nat.le_refl _) _
    have own := OwnL.made (R := U64R) (E := 22) (s := 1) (base := wq.heap.size) (S := fun _ => True) (w := wd) #[] 0 hHeld.size (by decide) rfl
    refine hK.out _ _ (below_then hA hHeld) (fun hHeld => ?_)
    clear hK K
    try simp (maxSteps := 2000000) only [List.getElem_toArray, List.getElem_cons_succ, List.getElem_cons_zero, Act.put, List.setIfInBounds_toArray, List.set_cons_zero, List.set_cons_succ]
    obtain ⟨wa, hw⟩ : ∃ wn, wd.alloc (.cells #[] 22) = wn := ⟨_, rfl⟩
    rw [hw] at hHeld own ⊢
    clear hw hA
    have lto : wd.heap.size < wa.heap.size := (own.lt _ rfl).2
    refine wpAnyL_ready (rs := [6, 11]) (by kernel_rfl) (by simp) ?_
    refine AllReadyL.cons rfl (fun K hK => ?_) (AllReadyL.cons rfl (fun K hK => ?_) AllReadyL.nil)
    · have hs7 := hHeld.size
      refine step_law (by rfl) (wpList_appL U64R.stable U64R.one slTyU (by rfl) (by rfl) (base := wq.heap.size) (S := fun _ => True) (by rfl) own (by rfl) (RL0.out.below U64R.stable hHeld) (fun cs y hy => hy) (by unfold maxLen; omega) (by omega) hs7 ?_)
      intro A7 c7 wb hc7 own7 hg7 hat7
      refine And.intro rfl ?_
      have b7 : Below wq.heap.size wq wb := hHeld.grown hg7 hs7 (fun q hq => (own.lt q hq).1)
      rw [Nat.zero_add, List.nil_append] at own7
      refine hK.out _ _ b7 (fun hHeld => ?_)
      clear hK K
      try simp (maxSteps := 2000000) only [List.getElem_toArray, List.getElem_cons_succ, List.getElem_cons_zero, Act.put, List.setIfInBounds_toArray, List.set_cons_zero, List.set_cons_succ]
      rw [Nat.zero_add]
      refine wpAnyL_ready (rs := [11]) (by kernel_rfl) (by simp) ?_
      refine AllReadyL.cons rfl (fun K hK => ?_) AllReadyL.nil
      try simp (maxSteps := 2000000) only [List.getElem_toArray, List.getElem_cons_succ, List.getElem_cons_zero]
      go_simp
      have hA : Below wb.heap.size wb (wb.alloc (.cells #[.int .u64 last] 22)) := (Below.refl _ _).alloc (Nat.le_refl _) _
      replace own7 := own7.keep U64R.stable hA
      have r9 := u64_one (W := wb) last 22
      refine hK.out _ _ (below_then hA hHeld) (fun hHeld => ?_)
      clear hK K
      try simp (maxSteps := 2000000) only [List.getElem_toArray, List.getElem_cons_succ, List.getElem_cons_zero, Act.put, List.setIfInBounds_toArray, List.set_cons_zero, List.set_cons_succ]
      obtain ⟨wc, hw⟩ : ∃ wn, wb.alloc (.cells #[.int .u64 last] 22) = wn := ⟨_, rfl⟩
      rw [hw] at hHeld r9 own7 ⊢
      clear hw hA
      have lt9 : wb.heap.size < wc.heap.size := by obtain ⟨b, o, e, _, h⟩ := r9.addr (k := 0) (by omega); injection e with e; injection e with e; omega
      refine wpAnyL_ready (rs := [12]) (by kernel_rfl) (by simp) ?_
      refine AllReadyL.cons rfl (fun K hK => ?_) AllReadyL.nil
      have hs10 := hHeld.size
      refine step_law (by rfl) (wpList_appL U64R.stable U64R.one slTyU (by rfl) (by rfl) (base := wq.heap.size) (S := fun _ => True) (by rfl) own7 (by rfl) r9 (fun cs y hy => hy) (by unfold maxLen; omega) (by omega) hs10 ?_)
      intro A10 c10 wz hc10 own10 hg10 hat10
      refine And.intro rfl ?_
      have b10 : Below wq.heap.size wq wz := hHeld.grown hg10 hs10 (fun q hq => (own7.lt q hq).1)
      refine hK.out _ _ b10 (fun hHeld => ?_)
      clear hK K
      try simp (maxSteps := 2000000) only [List.getElem_toArray, List.getElem_cons_succ, List.getElem_cons_zero, Act.put, List.setIfInBounds_toArray, List.set_cons_zero, List.set_cons_succ]
      have B10 := Lib.hid b10
      have OW := Lib.hid own10
      clear own10 own7 own r9 b10 hg10 hat10
      have hXz := hX.below B10.out
      have pz := hXz.cell 2
      have fz := hXz.frozen 2
      refine wpAnyL_ready (rs := [13]) (by kernel_rfl) (by simp) ?_
      refine AllReadyL.last rfl (by decide) (fun K hK => ?_) AllReadyL.nil
      try simp (maxSteps := 2000000) only [List.getElem_toArray, List.getElem_cons_succ, List.getElem_cons_zero]
      go_simp
      refine hK.out _ _ ?_
      clear hK K
      try simp (maxSteps := 2000000) only [List.getElem_toArray, List.getElem_cons_succ, List.getElem_cons_zero, Act.put, List.setIfInBounds_toArray, List.set_cons_zero, List.set_cons_succ]
      refine wpAnyL_ready (rs := [14]) (by kernel_rfl) (by simp) ?_
      refine AllReadyL.last rfl (by decide) (fun K hK => ?_) AllReadyL.nil
      try simp (maxSteps := 2000000) only [List.getElem_toArray, List.getElem_cons_succ, List.getElem_cons_zero]
      go_simp
      refine hK.out _ _ ?_
      clear hK K
      try simp (maxSteps := 2000000) only [List.getElem_toArray, List.getElem_cons_succ, List.getElem_cons_zero, Act.put, List.setIfInBounds_toArray, List.set_cons_zero, List.set_cons_succ]
      refine wpAnyL_ready (rs := [15]) (by kernel_rfl) (by simp) ?_
      refine AllReadyL.last rfl (by decide) (fun K hK => ?_) AllReadyL.nil
      try simp (maxSteps := 2000000) only [List.getElem_toArray, List.getElem_cons_succ, List.getElem_cons_zero]
      go_simp
      refine hK.out _ _ ?_
      clear hK K
      try simp (maxSteps := 2000000) only [List.getElem_toArray, List.getElem_cons_succ, List.getElem_cons_zero, Act.put, List.setIfInBounds_toArray, List.set_cons_zero, List.set_cons_succ]
      refine wpAnyL_done (by kernel_rfl) ?_ _
      have OWS := Lib.hid (rorc_put h.out OW.out B10.out hSx hSn (by simp; omega) hc10)
      clear OW hXz pz fz
      go_wp2_with fail
      go_ret
      exact ⟨rfl, OWS.out, Keep.setCell (F := (· = x)) (Keep.of_below B10.out) (fun _ => rfl) _⟩
    · try simp (maxSteps := 2000000) only [List.getElem_toArray, List.getElem_cons_succ, List.getElem_cons_zero]
      go_simp
      have hA : Below wa.heap.size wa (wa.alloc (.cells #[.int .u64 last] 22)) := (Below.refl _ _).alloc (Nat.le_refl _) _
      replace own := own.keep U64R.stable hA
      have r9 := u64_one (W := wa) last 22
      refine hK.out _ _ (below_then hA hHeld) (fun hHeld => ?_)
      clear hK K
      try simp (maxSteps := 2000000) only [List.getElem_toArray, List.getElem_cons_succ, List.getElem_cons_zero, Act.put, List.setIfInBounds_toArray, List.set_cons_zero, List.set_cons_succ]
      obtain ⟨wb, hw⟩ : ∃ wn, wa.alloc (.cells #[.int .u64 last] 22) = wn := ⟨_, rfl⟩
      rw [hw] at hHeld r9 own ⊢
      clear hw hA
      have lt9 : wa.heap.size < wb.heap.size := by obtain ⟨b, o, e, _, h⟩ := r9.addr (k := 0) (by omega); injection e with e; injection e with e; omega
      refine wpAnyL_ready (rs := [6]) (by kernel_rfl) (by simp) ?_
      refine AllReadyL.cons rfl (fun K hK => ?_) AllReadyL.nil
      have hs7 := hHeld.size
      refine step_law (by rfl) (wpList_appL U64R.stable U64R.one slTyU (by rfl) (by rfl) (base := wq.heap.size) (S := fun _ => True) (by rfl) own (by rfl) (RL0.out.below U64R.stable hHeld) (fun cs y hy => hy) (by unfold maxLen; omega) (by omega) hs7 ?_)
      intro A7 c7 wc hc7 own7 hg7 hat7
      refine And.intro rfl ?_
      have b7 : Below wq.heap.size wq wc := hHeld.grown hg7 hs7 (fun q hq => (own.lt q hq).1)
      rw [Nat.zero_add, List.nil_append] at own7
      replace r9 := r9.stable U64R.stable (fun b hb hlt => ⟨hb, hg7.block b hlt (fun e => by have e2 : b = wd.heap.size := Option.some.inj e; omega)⟩)
      refine hK.out _ _ b7 (fun hHeld => ?_)
      clear hK K
      try simp (maxSteps := 2000000) only [List.getElem_toArray, List.getElem_cons_succ, List.getElem_cons_zero, Act.put, List.setIfInBounds_toArray, List.set_cons_zero, List.set_cons_succ]
      rw [Nat.zero_add]
      refine wpAnyL_ready (rs := [12]) (by kernel_rfl) (by simp) ?_
      refine AllReadyL.cons rfl (fun K hK => ?_) AllReadyL.nil
      have hs10 := hHeld.size
      refine step_law (by rfl) (wpList_appL U64R.stable U64R.one slTyU (by rfl) (by rfl) (base := wq.heap.size) (S := fun _ => True) (by rfl) own7 (by rfl) r9 (fun cs y hy => hy) (by unfold maxLen; omega) (by omega) hs10 ?_)
      intro A10 c10 wz hc10 own10 hg10 hat10
      refine And.intro rfl ?_
      have b10 : Below wq.heap.size wq wz := hHeld.grown hg10 hs10 (fun q hq => (own7.lt q hq).1)
      refine hK.out _ _ b10 (fun hHeld => ?_)
      clear hK K
      try simp (maxSteps := 2000000) only [List.getElem_toArray, List.getElem_cons_succ, List.getElem_cons_zero, Act.put, List.setIfInBounds_toArray, List.set_cons_zero, List.set_cons_succ]
      have B10 := Lib.hid b10
      have OW := Lib.hid own10
      clear own10 own7 own r9 b10 hg10 hat10
      have hXz := hX.below B10.out
      have pz := hXz.cell 2
      have fz := hXz.frozen 2
      refine wpAnyL_ready (rs := [13]) (by kernel_rfl) (by simp) ?_
      refine AllReadyL.last rfl (by decide) (fun K hK => ?_) AllReadyL.nil
      try simp (maxSteps := 2000000) only [List.getElem_toArray, List.getElem_cons_succ, List.getElem_cons_zero]
      go_simp
      refine hK.out _ _ ?_
      clear hK K
      try simp (maxSteps := 2000000) only [List.getElem_toArray, List.getElem_cons_succ, List.getElem_cons_zero, Act.put, List.setIfInBounds_toArray, List.set_cons_zero, List.set_cons_succ]
      refine wpAnyL_ready (rs := [14]) (by kernel_rfl) (by simp) ?_
      refine AllReadyL.last rfl (by decide) (fun K hK => ?_) AllReadyL.nil
      try simp (maxSteps := 2000000) only [List.getElem_toArray, List.getElem_cons_succ, List.getElem_cons_zero]
      go_simp
      refine hK.out _ _ ?_
      clear hK K
      try simp (maxSteps := 2000000) only [List.getElem_toArray, List.getElem_cons_succ, List.getElem_cons_zero, Act.put, List.setIfInBounds_toArray, List.set_cons_zero, List.set_cons_succ]
      refine wpAnyL_ready (rs := [15]) (by kernel_rfl) (by simp) ?_
      refine AllReadyL.last rfl (by decide) (fun K hK => ?_) AllReadyL.nil
      try simp (maxSteps := 2000000) only [List.getElem_toArray, List.getElem_cons_succ, List.getElem_cons_zero]
      go_simp
      refine hK.out _ _ ?_
      clear hK K
      try simp (maxSteps := 2000000) only [List.getElem_toArray, List.getElem_cons_succ, List.getElem_cons_zero, Act.put, List.setIfInBounds_toArray, List.set_cons_zero, List.set_cons_succ]
      refine wpAnyL_done (by kernel_rfl) ?_ _
      have OWS := Lib.hid (rorc_put h.out OW.out B10.out hSx hSn (by simp; omega) hc10)
      clear OW hXz pz fz
      go_wp2_with fail
      go_ret
      exact ⟨rfl, OWS.out, Keep.setCell (F := (· = x)) (Keep.of_below B10.out) (fun _ => rfl) _⟩
  · try simp (maxSteps := 2000000) only [List.getElem_toArray, List.getElem_cons_succ, List.getElem_cons_zero]
    go_simp
    have hA : Below wd.heap.size wd (wd.alloc (.cells #[.int .u64 last] 22)) := (Below.refl _ _).alloc (Nat.le_refl _) _
    have r9 := u64_one (W := wd) last 22
    refine hK.out _ _ (below_then hA hHeld) (fun hHeld => ?_)
    clear hK K
    try simp (maxSteps := 2000000) only [List.getElem_toArray, List.getElem_cons_succ, List.getElem_cons_zero, Act.put, List.setIfInBounds_toArray, List.set_cons_zero, List.set_cons_succ]
    obtain ⟨wa, hw⟩ : ∃ wn, wd.alloc (.cells #[.int .u64 last] 22) = wn := ⟨_, rfl⟩
    rw [hw] at hHeld r9 ⊢
    clear hw hA
    have lt9 : wd.heap.size < wa.heap.size := by obtain ⟨b, o, e, _, h⟩ := r9.addr (k := 0) (by omega); injection e with e; injection e with e; omega
    refine wpAnyL_ready (rs := [1]) (by kernel_rfl) (by simp) ?_
    refine AllReadyL.cons rfl (fun K hK => ?_) AllReadyL.nil
    try simp (maxSteps := 2000000) only [List.getElem_toArray, List.getElem_cons_succ, List.getElem_cons_zero]
    go_simp
    have hA : Below wa.heap.size wa (wa.alloc (.cells #[] 22)) := (Below.refl _ _).alloc (Nat.le_refl _) _
    have own := OwnL.made (R := U64R) (E := 22) (s := 1) (base := wq.heap.size) (S := fun _ => True) (w := wa) #[] 0 hHeld.size (by decide) rfl
    replace r9 := r9.below U64R.stable hA
    refine hK.out _ _ (below_then hA hHeld) (fun hHeld => ?_)
    clear hK K
    try simp (maxSteps := 2000000) only [List.getElem_toArray, List.getElem_cons_succ, List.getElem_cons_zero, Act.put, List.setIfInBounds_toArray, List.set_cons_zero, List.set_cons_succ]
    obtain ⟨wb, hw⟩ : ∃ wn, wa.alloc (.cells #[] 22) = wn := ⟨_, rfl⟩
    rw [hw] at hHeld own r9 ⊢
    clear hw hA
    have lto : wa.heap.size < wb.heap.size := (own.lt _ rfl).2
    refine wpAnyL_ready (rs := [6]) (by kernel_rfl) (by simp) ?_
    refine AllReadyL.cons rfl (fun K hK => ?_) AllReadyL.nil
    have hs7 := hHeld.size
    refine step_law (by rfl) (wpList_appL U64R.stable U64R.one slTyU (by rfl) (by rfl) (base := wq.heap.size) (S := fun _ => True) (by rfl) own (by rfl) (RL0.out.below U64R.stable hHeld) (fun cs y hy => hy) (by unfold maxLen; omega) (by omega) hs7 ?_)
    intro A7 c7 wc hc7 own7 hg7 hat7
    refine And.intro rfl ?_
    have b7 : Below wq.heap.size wq wc := hHeld.grown hg7 hs7 (fun q hq => (own.lt q hq).1)
    rw [Nat.zero_add, List.nil_append] at own7
    replace r9 := r9.stable U64R.stable (fun b hb hlt => ⟨hb, hg7.block b hlt (fun e => by have e2 : b = wa.heap.size := Option.some.inj e; omega)⟩)
    refine hK.out _ _ b7 (fun hHeld => ?_)
    clear hK K
    try simp (maxSteps := 2000000) only [List.getElem_toArray, List.getElem_cons_succ, List.getElem_cons_zero, Act.put, List.setIfInBounds_toArray, List.set_cons_zero, List.set_cons_succ]
    rw [Nat.zero_add]
    refine wpAnyL_ready (rs := [12]) (by kernel_rfl) (by simp) ?_
    refine AllReadyL.cons rfl (fun K hK => ?_) AllReadyL.nil
    have hs10 := hHeld.size
    refine step_law (by rfl) (wpList_appL U64R.stable U64R.one slTyU (by rfl) (by rfl) (base := wq.heap.size) (S := fun _ => True) (by rfl) own7 (by rfl) r9 (fun cs y hy => hy) (by unfold maxLen; omega) (by omega) hs10 ?_)
    intro A10 c10 wz hc10 own10 hg10 hat10
    refine And.intro rfl ?_
    have b10 : Below wq.heap.size wq wz := hHeld.grown hg10 hs10 (fun q hq => (own7.lt q hq).1)
    refine hK.out _ _ b10 (fun hHeld => ?_)
    clear hK K
    try simp (maxSteps := 2000000) only [List.getElem_toArray, List.getElem_cons_succ, List.getElem_cons_zero, Act.put, List.setIfInBounds_toArray, List.set_cons_zero, List.set_cons_succ]
    have B10 := Lib.hid b10
    have OW := Lib.hid own10
    clear own10 own7 own r9 b10 hg10 hat10
    have hXz := hX.below B10.out
    have pz := hXz.cell 2
    have fz := hXz.frozen 2
    refine wpAnyL_ready (rs := [13]) (by kernel_rfl) (by simp) ?_
    refine AllReadyL.last rfl (by decide) (fun K hK => ?_) AllReadyL.nil
    try simp (maxSteps := 2000000) only [List.getElem_toArray, List.getElem_cons_succ, List.getElem_cons_zero]
    go_simp
    refine hK.out _ _ ?_
    clear hK K
    try simp (maxSteps := 2000000) only [List.getElem_toArray, List.getElem_cons_succ, List.getElem_cons_zero, Act.put, List.setIfInBounds_toArray, List.set_cons_zero, List.set_cons_succ]
    refine wpAnyL_ready (rs := [14]) (by kernel_rfl) (by simp) ?_
    refine AllReadyL.last rfl (by decide) (fun K hK => ?_) AllReadyL.nil
    try simp (maxSteps := 2000000) only [List.getElem_toArray, List.getElem_cons_succ, List.getElem_cons_zero]
    go_simp
    refine hK.out _ _ ?_
    clear hK K
    try simp (maxSteps := 2000000) only [List.getElem_toArray, List.getElem_cons_succ, List.getElem_cons_zero, Act.put, List.setIfInBounds_toArray, List.set_cons_zero, List.set_cons_succ]
    refine wpAnyL_ready (rs := [15]) (by kernel_rfl) (by simp) ?_
    refine AllReadyL.last rfl (by decide) (fun K hK => ?_) AllReadyL.nil
    try simp (maxSteps := 2000000) only [List.getElem_toArray, List.getElem_cons_succ, List.getElem_cons_zero]
    go_simp
    refine hK.out _ _ ?_
    clear hK K
    try simp (maxSteps := 2000000) only [List.getElem_toArray, List.getElem_cons_succ, List.getElem_cons_zero, Act.put, List.setIfInBounds_toArray, List.set_cons_zero, List.set_cons_succ]
    refine wpAnyL_done (by kernel_rfl) ?_ _
    have OWS := Lib.hid (rorc_put h.out OW.out B10.out hSx hSn (by simp; omega) hc10)
    clear OW hXz pz fz
    go_wp2_with fail
    go_ret
    exact ⟨rfl, OWS.out, Keep.setCell (F := (· = x)) (Keep.of_below B10.out) (fun _ => rfl) _⟩

theorem erase_at {L : List Int} {i : Nat} {s : Int} (hi : L[i]? = some s) (hn : s ∉ L.take i) : L.erase s = L.take i ++ L.drop (i + 1) := by
  have hil : i < L.length := (List.getElem?_eq_some_iff.1 hi).1
  have e : L = L.take i ++ s :: L.drop (i + 1) := by
    rw [← (List.getElem?_eq_some_iff.1 hi).2, ← List.drop_eq_getElem_cons hil, List.take_append_drop]
  conv => lhs; rw [e]
  rw [List.erase_append_right _ hn, List.erase_cons_head]
structure EndF (L : List Int) (i : Nat) (s : Int) : Prop where
  mem : s ∈ L
  len : (L.take i ++ L.drop (i + 1)).length = i + (L.length - (i + 1)) ∧ i + (L.length - (i + 1)) ≤ L.length
  eq : L.erase s = L.take i ++ L.drop (i + 1)
set_option maxRecDepth 100000 in
set_option maxHeartbeats 4000000 in
theorem rend_ok {S : Nat → Prop} {wq : World} {x : Nat} {last most : Int} {L : List Int} (s : Int) (h : Hid (ROrcAt S wq x last most L)) (hSx : ¬ S x) (hSn : ∀ b, wq.heap.size ≤ b → S b) :
    Calls Try.prog 20 #[.pointer (some ⟨x, 0, none⟩), .int .u64 s] wq fun e w' => e = .returned (.bool (decide (s ∈ L))) ∧ ROrcAt S w' x last most (L.erase s) ∧ Keep (· = x) wq w' := by
  obtain ⟨A, c, hX, hc, R⟩ := h.out.row
  have hxl := hX.lt
  have hl := h.out.len
  have v2 := hX.cell 2
  have u2 := fun w' (hb : Below wq.heap.size wq w') => (hb.cell (p := ⟨x, 2, none⟩) hxl).trans (hX.cell 2)
  have HR := Lib.hid R
  have HX := Lib.hid hX
  clear R hX
  go_enter Try.func20, Try.ntmps20
  go_wp2_with fail
  go_loopw [5] (fun vi wr => ∃ i : Nat, i ≤ L.length ∧ vi = .int .i64 i ∧ Hid (s ∉ L.take i) ∧ wr = wq) (fun vi _ => L.length - (intOf vi).toNat)
  case atStart => exact ⟨0, Nat.zero_le _, rfl, Lib.hid (by simp), rfl⟩
  case round =>
    obtain ⟨i, hi, rfl, HN, hw⟩ := hrel
    replace hw := hw.symm
    subst hw
    have q2 : (0 : Int) ≤ (i : Int) := Int.natCast_nonneg _
    by_cases hlt : i < L.length
    · have q1 : (i : Int) < (L.length : Int) := by omega
      obtain ⟨g, og, y, rfl, hy, hg, _, k0⟩ := u64_in HR.out hlt
      by_cases hys : y = s
      · subst hys
        have e1 : (y == y) = true := beq_self_eq_true y
        have e2 : decide (y = y) = true := decide_eq_true rfl
        have HE : Hid (EndF L i y) := Lib.hid ⟨List.mem_of_getElem? hy, by rw [List.length_append, List.length_take, List.length_drop]; omega, erase_at hy HN.out⟩
        have hX := HX.out
        have RT : Hid (RdL U64R 1 S wq (some ⟨g, og, none⟩) i (L.take i)) := Lib.hid (RdL.take HR.out hi)
        have pp1 := piece_pre (A := some ⟨g, og, none⟩) (N := L.length) (c := c) (k := i) slTyU (by omega)
        have pp2 := piece_suf (A := some ⟨g, og, none⟩) (N := L.length) (c := c) (k := i + 1) slTyU hlt
        have rdp := piece_rd HR.out hc (k := i + 1) hlt
        obtain ⟨A5, hA5⟩ : ∃ A5, (if c = i + 1 then some ⟨g, og, none⟩ else (some (⟨g, og, none⟩ : Addr)).map (fun x : Addr => x.add ((i + 1) * 1))) = A5 := ⟨_, rfl⟩
        rw [hA5] at pp2 rdp
        have RD := Lib.hid rdp
        rw [show ((i + 1 : Nat) : Int) = (i : Int) + 1 by omega] at pp2
        have hwr : IntKind.i64.wrap ((i : Int) + 1) = (i : Int) + 1 := by rw [IntKind.wrap_i64]; omega
        clear hy rdp hA5 HN
        go_wp2_with fail
        refine wp_region_L (S := fun w' => Below wq.heap.size wq w') [17, 18, 19] (by kernel_rfl) (by first | assumption | exact Below.refl _ _ | exact (Below.refl _ _).drew | exact (by repeat (first | (with_reducible exact Below.refl _ _) | (with_reducible assumption) | (with_reducible refine Below.drew ?_) | (with_reducible refine Below.setCell ?_ ?_ _) | (with_reducible refine Below.alloc ?_ ?_ _) | (with_reducible refine Below.later ?_ ?_ _) | (first | (with_reducible exact Nat.le_refl _) | omega | (simp only [World.size_alloc, World.size_setCell, World.size_drew] <;> omega))))) (fun hHeld => ?_)
        refine wpAnyL_take (i := 0) (v := ?_) rfl (by kernel_rfl) (by kernel_rfl) (by kernel_rfl) (by kernel_rfl) (fun _ _ _ h => h) (Or.inl ⟨by first | kernel_rfl | rfl, ?_⟩) (by assumption) ?_
        rotate_left
        · (intro wq0 hSw; (try dsimp only at hSw); (try simp (maxSteps := 2000000) only [List.getElem_toArray, List.getElem_cons_succ, List.getElem_cons_zero]); go_simp); try with_reducible rfl
        try simp (maxSteps := 2000000) only [List.getElem_toArray, List.getElem_cons_succ, List.getElem_cons_zero, Act.put, List.setIfInBounds_toArray, List.set_cons_zero, List.set_cons_succ]
        refine wpAnyL_take (i := 2) (v := ?_) rfl (by kernel_rfl) (by kernel_rfl) (by kernel_rfl) (by kernel_rfl) (fun _ _ _ h => h) (Or.inl ⟨by first | kernel_rfl | rfl, ?_⟩) (by assumption) ?_
        rotate_left
        · (intro wq0 hSw; (try dsimp only at hSw); (try simp (maxSteps := 2000000) only [List.getElem_toArray, List.getElem_cons_succ, List.getElem_cons_zero]); go_simp); try with_reducible rfl
        try simp (maxSteps := 2000000) only [List.getElem_toArray, List.getElem_cons_succ, List.getElem_cons_zero, Act.put, List.setIfInBounds_toArray, List.set_cons_zero, List.set_cons_succ]
        refine wpAnyL_take (i := 3) (v := ?_) rfl (by kernel_rfl) (by kernel_rfl) (by kernel_rfl) (by kernel_rfl) (fun _ _ _ h => h) (Or.inl ⟨by first | kernel_rfl | rfl, ?_⟩) (by assumption) ?_
        rotate_left
        · (intro wq0 hSw; (try dsimp only at hSw); (try simp (maxSteps := 2000000) only [List.getElem_toArray, List.getElem_cons_succ, List.getElem_cons_zero]); go_simp); try with_reducible rfl
        try simp (maxSteps := 2000000) only [List.getElem_toArray, List.getElem_cons_succ, List.getElem_cons_zero, Act.put, List.setIfInBounds_toArray, List.set_cons_zero, List.set_cons_succ]
        refine wpAnyL_take (i := 4) (v := ?_) rfl (by kernel_rfl) (by kernel_rfl) (by kernel_rfl) (by kernel_rfl) (fun _ _ _ h => h) (Or.inl ⟨by first | kernel_rfl | rfl, ?_⟩) (by assumption) ?_
        rotate_left
        · (intro wq0 hSw; (try dsimp only at hSw); (try simp (maxSteps := 2000000) only [List.getElem_toArray, List.getElem_cons_succ, List.getElem_cons_zero]); go_simp); try with_reducible rfl
        try simp (maxSteps := 2000000) only [List.getElem_toArray, List.getElem_cons_succ, List.getElem_cons_zero, Act.put, List.setIfInBounds_toArray, List.set_cons_zero, List.set_cons_succ]
        refine wpAnyL_take (i := 5) (v := ?_) rfl (by kernel_rfl) (by kernel_rfl) (by kernel_rfl) (by kernel_rfl) (fun _ _ _ h => h) (Or.inl ⟨by first | kernel_rfl | rfl, ?_⟩) (by assumption) ?_
        rotate_left
        · (intro wq0 hSw; (try dsimp only at hSw); (try simp (maxSteps := 2000000) only [List.getElem_toArray, List.getElem_cons_succ, List.getElem_cons_zero]); go_simp); try with_reducible rfl
        try simp (maxSteps := 2000000) only [List.getElem_toArray, List.getElem_cons_succ, List.getElem_cons_zero, Act.put, List.setIfInBounds_toArray, List.set_cons_zero, List.set_cons_succ]
        refine wpAnyL_take (i := 6) (v := ?_) rfl (by kernel_rfl) (by kernel_rfl) (by kernel_rfl) (by kernel_rfl) (fun _ _ _ h => h) (Or.inl ⟨by first | kernel_rfl | rfl, ?_⟩) (by assumption) ?_
        rotate_left
        · (intro wq0 hSw; (try dsimp only at hSw); (try simp (maxSteps := 2000000) only [List.getElem_toArray, List.getElem_cons_succ, List.getElem_cons_zero]); go_simp); try with_reducible rfl
        try simp (maxSteps := 2000000) only [List.getElem_toArray, List.getElem_cons_succ, List.getElem_cons_zero, Act.put, List.setIfInBounds_toArray, List.set_cons_zero, List.set_cons_succ]
        refine wpAnyL_take (i := 7) (v := ?_) rfl (by kernel_rfl) (by kernel_rfl) (by kernel_rfl) (by kernel_rfl) (fun _ _ _ h => h) (Or.inl ⟨by first | kernel_rfl | rfl, ?_⟩) (by assumption) ?_
        rotate_left
        · (intro wq0 hSw; (try dsimp only at hSw); (try simp (maxSteps := 2000000) only [List.getElem_toArray, List.getElem_cons_succ, List.getElem_cons_zero]); go_simp); try with_reducible rfl
        try simp (maxSteps := 2000000) only [List.getElem_toArray, List.getElem_cons_succ, List.getElem_cons_zero, Act.put, List.setIfInBounds_toArray, List.set_cons_zero, List.set_cons_succ]
        refine wpAnyL_take (i := 9) (v := ?_) rfl (by kernel_rfl) (by kernel_rfl) (by kernel_rfl) (by kernel_rfl) (fun _ _ _ h => h) (Or.inl ⟨by first | kernel_rfl | rfl, ?_⟩) (by assumption) ?_
        rotate_left
        · (intro wq0 hSw; (try dsimp only at hSw); (try simp (maxSteps := 2000000) only [List.getElem_toArray, List.getElem_cons_succ, List.getElem_cons_zero]); go_simp); try with_reducible rfl
        try simp (maxSteps := 2000000) only [List.getElem_toArray, List.getElem_cons_succ, List.getElem_cons_zero, Act.put, List.setIfInBounds_toArray, List.set_cons_zero, List.set_cons_succ]
        refine wpAnyL_take (i := 10) (v := ?_) rfl (by kernel_rfl) (by kernel_rfl) (by kernel_rfl) (by kernel_rfl) (fun _ _ _ h => h) (Or.inl ⟨by first | kernel_rfl | rfl, ?_⟩) (by assumption) ?_
        rotate_left
        · (intro wq0 hSw; (try dsimp only at hSw); (try simp (maxSteps := 2000000) only [List.getElem_toArray, List.getElem_cons_succ, List.getElem_cons_zero]); go_simp); try with_reducible rfl
        try simp (maxSteps := 2000000) only [List.getElem_toArray, List.getElem_cons_succ, List.getElem_cons_zero, Act.put, List.setIfInBounds_toArray, List.set_cons_zero, List.set_cons_succ]
        refine wpAnyL_take (i := 11) (v := ?_) rfl (by kernel_rfl) (by kernel_rfl) (by kernel_rfl) (by kernel_rfl) (fun _ _ _ h => h) (Or.inl ⟨by first | kernel_rfl | rfl, ?_⟩) (by assumption) ?_
        rotate_left
        · (intro wq0 hSw; (try dsimp only at hSw); (try simp (maxSteps := 2000000) only [List.getElem_toArray, List.getElem_cons_succ, List.getElem_cons_zero]); go_simp); try with_reducible rfl
        try simp (maxSteps := 2000000) only [List.getElem_toArray, List.getElem_cons_succ, List.getElem_cons_zero, Act.put, List.setIfInBounds_toArray, List.set_cons_zero, List.set_cons_succ]
        refine wpAnyL_take (i := 12) (v := ?_) rfl (by kernel_rfl) (by kernel_rfl) (by kernel_rfl) (by kernel_rfl) (fun _ _ _ h => h) (Or.inl ⟨by first | kernel_rfl | rfl, ?_⟩) (by assumption) ?_
        rotate_left
        · (intro wq0 hSw; (try dsimp only at hSw); (try simp (maxSteps := 2000000) only [List.getElem_toArray, List.getElem_cons_succ, List.getElem_cons_zero]); go_simp); try with_reducible rfl
        try simp (maxSteps := 2000000) only [List.getElem_toArray, List.getElem_cons_succ, List.getElem_cons_zero, Act.put, List.setIfInBounds_toArray, List.set_cons_zero, List.set_cons_succ]
        refine wpAnyL_take (i := 13) (v := ?_) rfl (by kernel_rfl) (by kernel_rfl) (by kernel_rfl) (by kernel_rfl) (fun _ _ _ h => h) (Or.inl ⟨by first | kernel_rfl | rfl, ?_⟩) (by assumption) ?_
        rotate_left
        · (intro wq0 hSw; (try dsimp only at hSw); (try simp (maxSteps := 2000000) only [List.getElem_toArray, List.getElem_cons_succ, List.getElem_cons_zero]); go_simp); try with_reducible rfl
        try simp (maxSteps := 2000000) only [List.getElem_toArray, List.getElem_cons_succ, List.getElem_cons_zero, Act.put, List.setIfInBounds_toArray, List.set_cons_zero, List.set_cons_succ]
        refine wpAnyL_take (i := 14) (v := ?_) rfl (by kernel_rfl) (by kernel_rfl) (by kernel_rfl) (by kernel_rfl) (fun _ _ _ h => h) (Or.inl ⟨by first | kernel_rfl | rfl, ?_⟩) (by assumption) ?_
        rotate_left
        · (intro wq0 hSw; (try dsimp only at hSw); (try simp (maxSteps := 2000000) only [List.getElem_toArray, List.getElem_cons_succ, List.getElem_cons_zero]); go_simp); try with_reducible rfl
        try simp (maxSteps := 2000000) only [List.getElem_toArray, List.getElem_cons_succ, List.getElem_cons_zero, Act.put, List.setIfInBounds_toArray, List.set_cons_zero, List.set_cons_succ]
        refine wpAnyL_take (i := 15) (v := ?_) rfl (by kernel_rfl) (by kernel_rfl) (by kernel_rfl) (by kernel_rfl) (fun _ _ _ h => h) (Or.inl ⟨by first | kernel_rfl | rfl, ?_⟩) (by assumption) ?_
        rotate_left
        · (intro wq0 hSw; (try dsimp only at hSw); (try simp (maxSteps := 2000000) only [List.getElem_toArray, List.getElem_cons_succ, List.getElem_cons_zero]); go_simp); try with_reducible rfl
        try simp (maxSteps := 2000000) only [List.getElem_toArray, List.getElem_cons_succ, List.getElem_cons_zero, Act.put, List.setIfInBounds_toArray, List.set_cons_zero, List.set_cons_succ]
        clear hwr
        obtain ⟨wd, hwd⟩ : ∃ wd, wq.drew = wd := ⟨_, rfl⟩
        rw [hwd] at hHeld ⊢
        clear hwd
        have hs_wd := hHeld.size
        refine wpAnyL_ready (rs := [1]) (by kernel_rfl) (by simp) ?_
        refine AllReadyL.cons rfl (fun K hK => ?_) AllReadyL.nil
        try simp (maxSteps := 2000000) only [List.getElem_toArray, List.getElem_cons_succ, List.getElem_cons_zero]
        go_simp
        have hA : Below wd.heap.size wd (wd.alloc (.cells #[] 22)) := (Below.refl _ _).alloc (Nat.le_refl _) _
        have own := OwnL.made (R := U64R) (E := 22) (s := 1) (base := wq.heap.size) (S := fun _ => True) (w := wd) #[] 0 hHeld.size (by decide) rfl
        refine hK.out _ _ (below_then hA hHeld) (fun hHeld => ?_)
        clear hK K
        try simp (maxSteps := 2000000) only [List.getElem_toArray, List.getElem_cons_succ, List.getElem_cons_zero, Act.put, List.setIfInBounds_toArray, List.set_cons_zero, List.set_cons_succ]
        obtain ⟨wa, hw⟩ : ∃ wn, wd.alloc (.cells #[] 22) = wn := ⟨_, rfl⟩
        rw [hw] at hHeld own ⊢
        clear hw hA
        refine wpAnyL_ready (rs := [8]) (by kernel_rfl) (by simp) ?_
        refine AllReadyL.cons rfl (fun K hK => ?_) AllReadyL.nil
        have hs7 := hHeld.size
        refine step_law (by rfl) (wpList_appL U64R.stable U64R.one slTyU (by rfl) (by rfl) (base := wq.heap.size) (S := fun _ => True) (by rfl) own (by rfl) (RT.out.below U64R.stable hHeld) (fun cs y hy => hy) (by unfold maxLen; omega) (by omega) hs7 ?_)
        intro A_own7 c_own7 wb hc_own7 own7 hg_own7 hat_own7
        refine And.intro rfl ?_
        have b_own7 : Below wq.heap.size wq wb := hHeld.grown hg_own7 hs7 (fun q hq => (own.lt q hq).1)
        rw [Nat.zero_add, List.nil_append] at own7
        refine hK.out _ _ b_own7 (fun hHeld => ?_)
        clear hK K
        try simp (maxSteps := 2000000) only [List.getElem_toArray, List.getElem_cons_succ, List.getElem_cons_zero, Act.put, List.setIfInBounds_toArray, List.set_cons_zero, List.set_cons_succ]
        rw [Nat.zero_add]
        refine wpAnyL_ready (rs := [16]) (by kernel_rfl) (by simp) ?_
        refine AllReadyL.cons rfl (fun K hK => ?_) AllReadyL.nil
        have hs7 := hHeld.size
        refine step_law (by rfl) (wpList_appL U64R.stable U64R.one slTyU (by rfl) (by rfl) (base := wq.heap.size) (S := fun _ => True) (by rfl) own7 (by rfl) (RD.out.below U64R.stable hHeld) (fun cs y hy => hy) (by unfold maxLen; omega) (by omega) hs7 ?_)
        intro A_own9 c_own9 wz hc_own9 own9 hg_own9 hat_own9
        refine And.intro rfl ?_
        have b_own9 : Below wq.heap.size wq wz := hHeld.grown hg_own9 hs7 (fun q hq => (own7.lt q hq).1)
        refine hK.out _ _ b_own9 (fun hHeld => ?_)
        clear hK K
        try simp (maxSteps := 2000000) only [List.getElem_toArray, List.getElem_cons_succ, List.getElem_cons_zero, Act.put, List.setIfInBounds_toArray, List.set_cons_zero, List.set_cons_succ]
        have hXz := hX.below b_own9
        have pz := hXz.cell 2
        have fz := hXz.frozen 2
        have B10 := Lib.hid b_own9
        have OW := Lib.hid own9
        have hcz := hc_own9
        clear own own7 own9 b_own7 b_own9 hg_own7 hg_own9 hat_own7 hat_own9 hc_own7 hc_own9
        refine wpAnyL_ready (rs := [17]) (by kernel_rfl) (by simp) ?_
        refine AllReadyL.last rfl (by decide) (fun K hK => ?_) AllReadyL.nil
        try simp (maxSteps := 2000000) only [List.getElem_toArray, List.getElem_cons_succ, List.getElem_cons_zero]
        go_simp
        refine hK.out _ _ ?_
        clear hK K
        try simp (maxSteps := 2000000) only [List.getElem_toArray, List.getElem_cons_succ, List.getElem_cons_zero, Act.put, List.setIfInBounds_toArray, List.set_cons_zero, List.set_cons_succ]
        refine wpAnyL_ready (rs := [18]) (by kernel_rfl) (by simp) ?_
        refine AllReadyL.last rfl (by decide) (fun K hK => ?_) AllReadyL.nil
        try simp (maxSteps := 2000000) only [List.getElem_toArray, List.getElem_cons_succ, List.getElem_cons_zero]
        go_simp
        refine hK.out _ _ ?_
        clear hK K
        try simp (maxSteps := 2000000) only [List.getElem_toArray, List.getElem_cons_succ, List.getElem_cons_zero, Act.put, List.setIfInBounds_toArray, List.set_cons_zero, List.set_cons_succ]
        refine wpAnyL_ready (rs := [19]) (by kernel_rfl) (by simp) ?_
        refine AllReadyL.last rfl (by decide) (fun K hK => ?_) AllReadyL.nil
        try simp (maxSteps := 2000000) only [List.getElem_toArray, List.getElem_cons_succ, List.getElem_cons_zero]
        go_simp
        refine hK.out _ _ ?_
        clear hK K
        try simp (maxSteps := 2000000) only [List.getElem_toArray, List.getElem_cons_succ, List.getElem_cons_zero, Act.put, List.setIfInBounds_toArray, List.set_cons_zero, List.set_cons_succ]
        refine wpAnyL_done (by kernel_rfl) ?_ _
        have OWS := Lib.hid (rorc_put h.out OW.out B10.out hSx hSn (by rw [HE.out.len.1]; have := HE.out.len.2; have := h.out.len; omega) hcz)
        clear OW hXz pz fz hcz
        go_wp2_with fail
        go_ret
        rw [HE.out.eq]
        exact ⟨by rw [decide_eq_true HE.out.mem]; rfl, OWS.out, Keep.setCell (F := (· = x)) (Keep.of_below B10.out) (fun _ => rfl) _⟩
      · have e1 : (y == s) = false := beq_eq_false_iff_ne.2 hys
        have e2 : decide (y = s) = false := decide_eq_false hys
        have HN2 : Hid (s ∉ L.take (i + 1)) := Lib.hid (by rw [take_snoc_u hy, List.mem_append, List.mem_singleton]; rintro (h | h); exact HN.out h; exact hys h.symm)
        clear hy hys
        go_wp2_with fail
        exact ⟨⟨i + 1, by omega, by go_num, HN2, trivial⟩, by simp [intOf]; omega⟩
    · obtain rfl : i = L.length := by omega
      have q1 : ¬ (L.length : Int) < (L.length : Int) := by omega
      have hn : s ∉ L := by have := HN.out; rwa [List.take_length] at this
      have HN2 := Lib.hid hn
      clear hn
      go_wp2_with fail
      go_ret
      rw [decide_eq_false HN2.out, List.erase_of_not_mem HN2.out]
      exact ⟨rfl, h.out, Keep.refl _ _⟩

theorem rnew_ok (S : Nat → Prop) (w : World) (last most : Int) (h1 : last ≤ most) : Calls Try.prog 16 #[.int .u64 last, .int .u64 most] w fun e w' =>
    e = .returned (.pointer (some ⟨w.heap.size, 0, none⟩)) ∧ ROrcAt S w' w.heap.size last most [] ∧ Below w.heap.size w w' := by
  have q1 : decide (most < last) = false := decide_eq_false (by omega)
  have q2 : ¬ most < last := by omega
  go_enter Try.func16, Try.ntmps16
  go_wp2
  go_ret
  exact ⟨rfl, ⟨⟨none, 0, BoxAt.new w #[.int .u64 last, .int .u64 most, .slice none 0 0] 40, Nat.le_refl _, RdL.nil⟩, by simp⟩, (Below.refl _ _).alloc (Nat.le_refl _) _⟩
theorem rnew_none (w : World) (last most : Int) (h : most < last) : Calls Try.prog 16 #[.int .u64 last, .int .u64 most] w fun e w' => e = .returned (.pointer none) ∧ w' = w := by
  have q1 : decide (most < last) = true := decide_eq_true h
  go_enter Try.func16, Try.ntmps16
  go_wp2
  go_ret
  exact ⟨rfl, rfl⟩
section
variable {S : Nat → Prop} {w : World} {x : Nat} {last most : Int} {L : List Int}
theorem rnext_ok (h : ROrcAt S w x last most L) (hlm : last ≤ most) (h0 : 0 ≤ last) (hm : most < 18446744073709551616) : Calls Try.prog 22 #[.pointer (some ⟨x, 0, none⟩)] w fun e w' =>
    e = .returned (if last < most then .tuple #[.int .u64 (last + 1), .int .i64 0] else .tuple #[.int .u64 0, .int .i64 230]) ∧ ∃ q, w' = w.drewN q := by
  obtain ⟨A, c, hX, _, _⟩ := h.row
  have c0 := hX.cell 0
  have c1 := hX.cell 1
  clear h hX
  by_cases hlt : last < most
  · rw [if_pos hlt]
    have q1 : (last == most) = false := beq_eq_false_iff_ne.2 (by omega)
    have q2 : decide (last = most) = false := decide_eq_false (by omega)
    have q3 : ¬ last = most := by omega
    go_enter Try.func22, Try.ntmps22
    go_wp2_with fail
    go_quiet (fail)
    go_wp2_with fail
    refine bodyPost_ret (v := .tuple #[.int .u64 (last + 1), .int .i64 0]) (by simp [results, Try.results22, go_sem, *]) rfl ?_
    exact ⟨rfl, nq, rfl⟩
  · rw [if_neg hlt]
    have q0 : last = most := by omega
    have q1 : (last == most) = true := beq_iff_eq.2 q0
    have q2 : decide (last = most) = true := decide_eq_true q0
    clear q0
    go_enter Try.func22, Try.ntmps22
    go_wp2_with fail
    go_quiet (fail)
    go_wp2_with fail
    refine bodyPost_ret (v := .tuple #[.int .u64 0, .int .i64 230]) (by simp [results, Try.results22, go_sem, *]) rfl ?_
    exact ⟨rfl, nq, rfl⟩
theorem rpub_ok (s : Int) (h : ROrcAt S w x last most L) (hSx : ¬ S x) : Calls Try.prog 24 #[.pointer (some ⟨x, 0, none⟩), .int .u64 s] w fun e w' =>
    e = .returned (.bool (decide (last < s ∧ s ≤ most))) ∧ ROrcAt S w' x (if last < s ∧ s ≤ most then s else last) most L ∧ Keep (· = x) w w' := by
  obtain ⟨A, c, hX, hc, R⟩ := h.row
  have c0 := hX.cell 0
  have c1 := hX.cell 1
  have f0 := hX.frozen 0
  have H := Lib.hid h
  have HX := Lib.hid hX
  have HR := Lib.hid R
  clear h hX R
  by_cases h1 : last < s
  · have q1 : decide (s ≤ last) = false := decide_eq_false (by omega)
    by_cases h2 : s ≤ most
    · rw [if_pos ⟨h1, h2⟩, decide_eq_true (show last < s ∧ s ≤ most from ⟨h1, h2⟩)]
      have q3 : decide (most < s) = false := decide_eq_false (by omega)
      go_enter Try.func24, Try.ntmps24
      go_wp2_with fail
      go_ret
      refine ⟨rfl, ⟨⟨A, c, HX.out.set 0 (.int .u64 s), hc, HR.out.setCell U64R.stable hSx _⟩, H.out.len⟩, Keep.setCell (F := (· = x)) (p := ⟨x, 0, none⟩) (Keep.refl _ _) (fun _ => rfl) _⟩
    · have hf : ¬ (last < s ∧ s ≤ most) := fun h => h2 h.2
      rw [if_neg hf, decide_eq_false hf]
      have q3 : decide (most < s) = true := decide_eq_true (by omega)
      go_enter Try.func24, Try.ntmps24
      go_wp2_with fail
      go_ret
      exact ⟨rfl, H.out, Keep.refl _ _⟩
  · have hf : ¬ (last < s ∧ s ≤ most) := fun h => h1 h.1
    rw [if_neg hf, decide_eq_false hf]
    have q1 : decide (s ≤ last) = true := decide_eq_true (by omega)
    go_enter Try.func24, Try.ntmps24
    go_wp2_with fail
    go_ret
    exact ⟨rfl, H.out, Keep.refl _ _⟩
theorem rhor_ok (h : ROrcAt S w x last most L) : Calls Try.prog 32 #[.pointer (some ⟨x, 0, none⟩)] w fun e w' => e = .returned (.int .u64 (L.head?.getD last)) ∧ w' = w := by
  obtain ⟨A, c, hX, hc, R⟩ := h.row
  have c0 := hX.cell 0
  have c2 := hX.cell 2
  have HR := Lib.hid R
  clear h hX R
  cases L with
  | nil =>
    go_enter Try.func32, Try.ntmps32
    go_wp2_with fail
    go_ret
    exact ⟨rfl, rfl⟩
  | cons y L =>
    have hpos : 0 < (y :: L).length := by simp
    obtain ⟨g, og, z, rfl, hz, hg, _, k0⟩ := u64_in HR.out (i := 0) hpos
    rw [List.getElem?_cons_zero] at hz
    rw [Nat.add_zero] at k0
    injection hz with hz
    subst hz
    have q1 : (0 : Int) < ((y :: L).length : Int) := by omega
    obtain ⟨n, hn⟩ : ∃ n, (y :: L).length = n := ⟨_, rfl⟩
    rw [hn] at c2 q1 hpos
    clear hn HR
    go_enter Try.func32, Try.ntmps32
    go_wp2_with fail
    go_ret
    exact ⟨rfl, rfl⟩
end
end Go.Proofs.Ytpibaahiboajhaa
