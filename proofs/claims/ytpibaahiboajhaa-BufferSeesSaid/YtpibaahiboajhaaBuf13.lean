/-
  An act on both buffers; the page's example.
-/
import Derived.Test.YtpibaahiboajhaaBuf12
set_option linter.unusedSimpArgs false
set_option linter.unusedVariables false
namespace Go.Proofs.Ytpibaahiboajhaa
open Go.RowKit Go.Cib
attribute [local go_sem] cell_set Later.cell Later.frozen Grw.cell Grw.frozen

/-! ### Both -/
theorem u8_not_box {S : Nat → Prop} {w : World} {A : Option Addr} {m x : Nat} {xs : List Int} {v : Value} (h : RdL U8R 1 S w A m xs) (hx : BoxAt w x #[v]) (hv : ∀ k n, v ≠ .int k n) : RdL U8R 1 (fun q => S q ∧ q ≠ x) w A m xs := by
  refine ⟨h.1, fun hm => ?_⟩
  obtain ⟨b, o, hA, hS, hlt, hc⟩ := h.2 hm
  refine ⟨b, o, hA, ⟨hS, fun e => ?_⟩, hlt, hc⟩
  subst e
  have hl : 0 < xs.length := by rw [h.1]; exact hm
  obtain ⟨cs, h1, h2, h3⟩ := hc 0 xs[0] (List.getElem?_eq_getElem hl)
  have := h3 0 (.int .u8 xs[0]) (by rw [h2]; rfl)
  rw [hx.cell] at this
  match o + 0 * 1 + 0, this with
  | 0, h => injection h with h; exact hv _ _ h
  | n + 1, h => cases h
theorem BufB.keepx {S : Nat → Prop} {w w' : World} {b bb x : Nat} {L L2 : List Wr} (h : BufB w b bb L) (hk : Keep (· = x) w w') (hb : x ≠ b) (hbb : x ≠ bb) (hr : RBufB S w x L2) : BufB w' b bb L := by
  obtain ⟨A, c, hX, _, _⟩ := hr
  obtain ⟨es, h1, h2, h3⟩ := h.map
  refine ⟨?_, h.ne, Nat.lt_of_lt_of_le h.lt hk.size, ⟨es, h1.keep (hk.block bb h1.lt (fun e => hbb e.symm)), h2, fun k => (h3 k).imp id ?_⟩, h.ok⟩
  · rw [World.cell?_of_block (a := ⟨b, 0, none⟩) (hk.block b h.lt (fun e => hb e.symm))]; exact h.cell
  · rintro ⟨v, z, e1, e2, A2, m2, c2, rfl, hr2⟩
    have := u8_not_box hr2 hX (fun k n e => by cases e)
    exact ⟨_, z, e1, e2, A2, m2, c2, rfl, (this.keep U8R.stable hk (fun q hq => hq.2)).weaken U8R.stable (fun q hq => hq.1)⟩
structure TwoB (w : World) (b bb x : Nat) (L : List Wr) : Prop where
  our : BufB w b bb L
  doc : RBufB (fun q => q ≠ x ∧ q ≠ bb) w x L
  xb : x ≠ b
  xbb : x ≠ bb
  xlt : x < w.heap.size
theorem TwoB.below {w w' : World} {b bb x : Nat} {L : List Wr} (h : TwoB w b bb x L) (hb : Below w.heap.size w w') : TwoB w' b bb x L :=
  ⟨h.our.below hb, h.doc.below hb, h.xb, h.xbb, Nat.lt_of_lt_of_le h.xlt hb.size⟩
theorem BufB.bblt {w : World} {b bb : Nat} {L : List Wr} (h : BufB w b bb L) : bb < w.heap.size := by
  obtain ⟨es, h1, _⟩ := h.map
  exact h1.lt
def actW (a : BAct) : Wr := if a.kind = 3 then ⟨a.key, true, []⟩ else ⟨a.key, false, a.val⟩
set_option maxRecDepth 100000 in
set_option maxHeartbeats 4000000 in
theorem act26_any {S : Nat → Prop} {w : World} {b bb x : Nat} {L : List Wr} (h : Hid (TwoB w b bb x L)) (a : BAct) {A : Option Addr} {m c : Nat} (R : Hid (RdL U8R 1 S w A m a.val)) (hS : ∀ q, S q → q ≠ bb) (hm : m ≤ 1000000) :
    Calls Try.prog 50 #[.pointer (some ⟨b, 0, none⟩), .pointer (some ⟨x, 0, none⟩), .agg #[.int .i64 a.kind, .string a.key, .slice A m c]] w fun e w' => e = .returned (.bool true) ∧ TwoB w' b bb x (wrW L (actW a)) ∧ Keep (fun q => q = bb ∨ q = x) w w' := by
  have wA0 : Below w.heap.size w (w.alloc (.cells #[.int .i64 a.kind, .string a.key, .slice A m c] 100)) := (by repeat (first | (with_reducible exact Below.refl _ _) | (with_reducible assumption) | (with_reducible refine Below.drew ?_) | (with_reducible refine Below.setCell ?_ ?_ _) | (with_reducible refine Below.alloc ?_ ?_ _) | (with_reducible refine Below.later ?_ ?_ _) | (first | (with_reducible exact Nat.le_refl _) | omega | (simp only [World.size_alloc, World.size_setCell, World.size_drew] <;> omega))))
  have X0 := BoxAt.new w #[.int .i64 a.kind, .string a.key, .slice A m c] 100
  obtain ⟨wA, hw1⟩ : ∃ w1, w.alloc (.cells #[.int .i64 a.kind, .string a.key, .slice A m c] 100) = w1 := ⟨_, rfl⟩
  rw [hw1] at wA0 X0
  have H2 := Lib.hid (h.out.our.below wA0)
  have HR2 := Lib.hid ((h.out.doc.below wA0).below (Below.refl _ _).drew)
  have hxb := h.out.xb
  have hxbb := h.out.xbb
  have hx2 : x < wA.heap.size := Nat.lt_of_lt_of_le h.out.xlt wA0.size
  have hbb2 : bb < wA.heap.size := H2.out.bblt
  have RV : Hid (RdL U8R 1 (fun q => q ≠ bb) wA A m a.val) := Lib.hid ((R.out.below U8R.stable wA0).weaken U8R.stable hS)
  have WA := Lib.hid wA0
  have HL : Hid (WOk L) := Lib.hid h.out.our.ok
  have hyl := X0.lt
  have hyb : w.heap.size ≠ bb := by have := h.out.our.bblt; omega
  have hyx : w.heap.size ≠ x := by have := h.out.xlt; omega
  have k0 := X0.cell 0
  have u1 : ∀ w', Keep (fun q => q = bb ∨ q = x) wA w' → w'.cell? ⟨w.heap.size, 1, none⟩ = some (.string a.key) := fun w' hk => (World.cell?_of_block (a := ⟨w.heap.size, 1, none⟩) (hk.block _ hyl (fun e => e.elim hyb hyx))).trans (X0.cell 1)
  have u2 : ∀ w', Keep (fun q => q = bb ∨ q = x) wA w' → w'.cell? ⟨w.heap.size, 2, none⟩ = some (.slice A m c) := fun w' hk => (World.cell?_of_block (a := ⟨w.heap.size, 2, none⟩) (hk.block _ hyl (fun e => e.elim hyb hyx))).trans (X0.cell 2)
  clear X0 wA0
  by_cases h3 : a.kind = 3
  · have hW : actW a = ⟨a.key, true, []⟩ := if_pos h3
    have HW := Lib.hid hW
    have q1 : (a.kind == 3) = true := beq_iff_eq.2 h3
    have q2 : decide (a.kind = 3) = true := decide_eq_true h3
    clear hW h3
    go_enter Try.func50, Try.ntmps50
    go_wp2_with fail
    refine wp_region_held_drew (S := fun w' => Keep (fun q => q = bb ∨ q = x) wA w') (by kernel_rfl) (by first | assumption | exact (Keep.refl _ _) | exact Keep.of_below ((Below.refl _ _).drew)) (fun hHeld => ?_)
    refine wpAnyH_take (i := 0) (v := ?_) rfl (by kernel_rfl) (by kernel_rfl) (by kernel_rfl) (fun _ _ _ h => h) (Or.inl ⟨by first | kernel_rfl | rfl, ?_⟩) (by assumption) ?_
    rotate_left
    · (intro wq hSw; (try dsimp only at hSw); (try simp (maxSteps := 2000000) only [List.getElem_toArray, List.getElem_cons_succ, List.getElem_cons_zero]); go_simp); try with_reducible rfl
    try simp (maxSteps := 2000000) only [List.getElem_toArray, List.getElem_cons_succ, List.getElem_cons_zero, Act.put, List.setIfInBounds_toArray, List.set_cons_zero, List.set_cons_succ]
    refine wpAnyH_take (i := 1) (v := ?_) rfl (by kernel_rfl) (by kernel_rfl) (by kernel_rfl) (fun _ _ _ h => h) (Or.inl ⟨by first | kernel_rfl | rfl, ?_⟩) (by assumption) ?_
    rotate_left
    · (intro wq hSw; (try dsimp only at hSw); (try simp (maxSteps := 2000000) only [List.getElem_toArray, List.getElem_cons_succ, List.getElem_cons_zero]); go_simp); try with_reducible rfl
    try simp (maxSteps := 2000000) only [List.getElem_toArray, List.getElem_cons_succ, List.getElem_cons_zero, Act.put, List.setIfInBounds_toArray, List.set_cons_zero, List.set_cons_succ]
    refine wpAnyH_take (i := 2) (v := ?_) rfl (by kernel_rfl) (by kernel_rfl) (by kernel_rfl) (fun _ _ _ h => h) (Or.inl ⟨by first | kernel_rfl | rfl, ?_⟩) (by assumption) ?_
    rotate_left
    · (intro wq hSw; (try dsimp only at hSw); (try simp (maxSteps := 2000000) only [List.getElem_toArray, List.getElem_cons_succ, List.getElem_cons_zero]); go_simp); try with_reducible rfl
    try simp (maxSteps := 2000000) only [List.getElem_toArray, List.getElem_cons_succ, List.getElem_cons_zero, Act.put, List.setIfInBounds_toArray, List.set_cons_zero, List.set_cons_succ]
    refine wpAnyH_take (i := 4) (v := ?_) rfl (by kernel_rfl) (by kernel_rfl) (by kernel_rfl) (fun _ _ _ h => h) (Or.inl ⟨by first | kernel_rfl | rfl, ?_⟩) (by assumption) ?_
    rotate_left
    · (intro wq hSw; (try dsimp only at hSw); (try simp (maxSteps := 2000000) only [List.getElem_toArray, List.getElem_cons_succ, List.getElem_cons_zero]); go_simp); try with_reducible rfl
    try simp (maxSteps := 2000000) only [List.getElem_toArray, List.getElem_cons_succ, List.getElem_cons_zero, Act.put, List.setIfInBounds_toArray, List.set_cons_zero, List.set_cons_succ]
    refine wpAnyH_take (i := 5) (v := ?_) rfl (by kernel_rfl) (by kernel_rfl) (by kernel_rfl) (fun _ _ _ h => h) (Or.inl ⟨by first | kernel_rfl | rfl, ?_⟩) (by assumption) ?_
    rotate_left
    · (intro wq hSw; (try dsimp only at hSw); (try simp (maxSteps := 2000000) only [List.getElem_toArray, List.getElem_cons_succ, List.getElem_cons_zero]); go_simp); try with_reducible rfl
    try simp (maxSteps := 2000000) only [List.getElem_toArray, List.getElem_cons_succ, List.getElem_cons_zero, Act.put, List.setIfInBounds_toArray, List.set_cons_zero, List.set_cons_succ]
    refine wpAnyH_take (i := 6) (v := ?_) rfl (by kernel_rfl) (by kernel_rfl) (by kernel_rfl) (fun _ _ _ h => h) (Or.inl ⟨by first | kernel_rfl | rfl, ?_⟩) (by assumption) ?_
    rotate_left
    · (intro wq hSw; (try dsimp only at hSw); (try simp (maxSteps := 2000000) only [List.getElem_toArray, List.getElem_cons_succ, List.getElem_cons_zero]); go_simp); try with_reducible rfl
    try simp (maxSteps := 2000000) only [List.getElem_toArray, List.getElem_cons_succ, List.getElem_cons_zero, Act.put, List.setIfInBounds_toArray, List.set_cons_zero, List.set_cons_succ]
    refine wpAnyH_ready (rs := [3]) (by kernel_rfl) (by simp) ?_
    refine AllReadyH.cons rfl (fun K hK => ?_) AllReadyH.nil
    try simp (maxSteps := 2000000) only [List.getElem_toArray, List.getElem_cons_succ, List.getElem_cons_zero]
    go_simp
    refine (del_ok (k := a.key) (Lib.hid (H2.out.below (Below.refl _ _).drew))).mono ?_
    rintro e w3 ⟨rfl, h3, k3⟩
    have K3 := Lib.hid (hHeld.trans (G := (· = bb)) k3 (fun q h _ => .inl h))
    have H3 := Lib.hid h3
    have R3 := Lib.hid (HR2.out.keep k3 (fun e => hxbb e) (fun q hq => hq.2))
    have b3 := K3.out
    have bk3 : wA.heap.size ≤ w3.heap.size := k3.size
    clear h3 k3
    try (go_wp2_with fail)
    refine hK.out _ _ (by first | assumption | exact (Keep.refl _ _) | exact Keep.of_below ((Below.refl _ _).drew)) (fun hHeld => ?_)
    clear hK K
    try simp (maxSteps := 2000000) only [List.getElem_toArray, List.getElem_cons_succ, List.getElem_cons_zero, Act.put, List.setIfInBounds_toArray, List.set_cons_zero, List.set_cons_succ]
    refine wpAnyH_ready (rs := [7]) (by kernel_rfl) (by simp) ?_
    refine AllReadyH.cons rfl (fun K hK => ?_) AllReadyH.nil
    try simp (maxSteps := 2000000) only [List.getElem_toArray, List.getElem_cons_succ, List.getElem_cons_zero]
    go_simp
    refine (rdel_any (k := a.key) R3 (Lib.hid HL.out) (fun h => h.1 rfl) (fun q hq => ⟨by have := hx2; omega, by have := hbb2; omega⟩)).mono ?_
    rintro e w4 ⟨rfl, h4, k4⟩
    have H4 := Lib.hid (H3.out.keepx k4 hxb hxbb R3.out)
    have K4 := Lib.hid (K3.out.trans (G := (· = x)) k4 (fun q h _ => .inr h))
    have R4 := Lib.hid h4
    have b4 := K4.out
    clear h4 k4
    try (go_wp2_with fail)
    refine hK.out _ _ (by first | assumption | exact (Keep.refl _ _) | exact Keep.of_below ((Below.refl _ _).drew)) (fun hHeld => ?_)
    clear hK K
    try simp (maxSteps := 2000000) only [List.getElem_toArray, List.getElem_cons_succ, List.getElem_cons_zero, Act.put, List.setIfInBounds_toArray, List.set_cons_zero, List.set_cons_succ]
    refine wpAnyH_take (i := 8) (v := ?_) rfl (by kernel_rfl) (by kernel_rfl) (by kernel_rfl) (fun _ _ _ h => h) (Or.inl ⟨by first | kernel_rfl | rfl, ?_⟩) (by assumption) ?_
    rotate_left
    · (intro wq hSw; (try dsimp only at hSw); (try simp (maxSteps := 2000000) only [List.getElem_toArray, List.getElem_cons_succ, List.getElem_cons_zero]); go_simp); try with_reducible rfl
    try simp (maxSteps := 2000000) only [List.getElem_toArray, List.getElem_cons_succ, List.getElem_cons_zero, Act.put, List.setIfInBounds_toArray, List.set_cons_zero, List.set_cons_succ]
    refine wpAnyH_take (i := 9) (v := ?_) rfl (by kernel_rfl) (by kernel_rfl) (by kernel_rfl) (fun _ _ _ h => h) (Or.inl ⟨by first | kernel_rfl | rfl, ?_⟩) (by assumption) ?_
    rotate_left
    · (intro wq hSw; (try dsimp only at hSw); (try simp (maxSteps := 2000000) only [List.getElem_toArray, List.getElem_cons_succ, List.getElem_cons_zero]); go_simp); try with_reducible rfl
    try simp (maxSteps := 2000000) only [List.getElem_toArray, List.getElem_cons_succ, List.getElem_cons_zero, Act.put, List.setIfInBounds_toArray, List.set_cons_zero, List.set_cons_succ]
    refine wpAnyH_done (by kernel_rfl) ?_ _
    go_wp2_with fail
    go_ret
    rw [HW.out]
    exact ⟨by simp, ⟨H4.out, R4.out, hxb, hxbb, Nat.lt_of_lt_of_le hx2 K4.out.size⟩, (Keep.of_below WA.out).trans K4.out (fun q h _ => h)⟩
  · have hW : actW a = ⟨a.key, false, a.val⟩ := if_neg h3
    have HW := Lib.hid hW
    have q1 : (a.kind == 3) = false := beq_eq_false_iff_ne.2 h3
    have q2 : decide (a.kind = 3) = false := decide_eq_false h3
    clear hW h3
    go_enter Try.func50, Try.ntmps50
    go_wp2_with fail
    refine wp_region_held_drew (S := fun w' => Keep (fun q => q = bb ∨ q = x) wA w') (by kernel_rfl) (by first | assumption | exact (Keep.refl _ _) | exact Keep.of_below ((Below.refl _ _).drew)) (fun hHeld => ?_)
    refine wpAnyH_take (i := 0) (v := ?_) rfl (by kernel_rfl) (by kernel_rfl) (by kernel_rfl) (fun _ _ _ h => h) (Or.inl ⟨by first | kernel_rfl | rfl, ?_⟩) (by assumption) ?_
    rotate_left
    · (intro wq hSw; (try dsimp only at hSw); (try simp (maxSteps := 2000000) only [List.getElem_toArray, List.getElem_cons_succ, List.getElem_cons_zero]); go_simp); try with_reducible rfl
    try simp (maxSteps := 2000000) only [List.getElem_toArray, List.getElem_cons_succ, List.getElem_cons_zero, Act.put, List.setIfInBounds_toArray, List.set_cons_zero, List.set_cons_succ]
    refine wpAnyH_take (i := 1) (v := ?_) rfl (by kernel_rfl) (by kernel_rfl) (by kernel_rfl) (fun _ _ _ h => h) (Or.inl ⟨by first | kernel_rfl | rfl, ?_⟩) (by assumption) ?_
    rotate_left
    · (intro wq hSw; (try dsimp only at hSw); (try simp (maxSteps := 2000000) only [List.getElem_toArray, List.getElem_cons_succ, List.getElem_cons_zero]); go_simp); try with_reducible rfl
    try simp (maxSteps := 2000000) only [List.getElem_toArray, List.getElem_cons_succ, List.getElem_cons_zero, Act.put, List.setIfInBounds_toArray, List.set_cons_zero, List.set_cons_succ]
    refine wpAnyH_take (i := 2) (v := ?_) rfl (by kernel_rfl) (by kernel_rfl) (by kernel_rfl) (fun _ _ _ h => h) (Or.inl ⟨by first | kernel_rfl | rfl, ?_⟩) (by assumption) ?_
    rotate_left
    · (intro wq hSw; (try dsimp only at hSw); (try simp (maxSteps := 2000000) only [List.getElem_toArray, List.getElem_cons_succ, List.getElem_cons_zero]); go_simp); try with_reducible rfl
    try simp (maxSteps := 2000000) only [List.getElem_toArray, List.getElem_cons_succ, List.getElem_cons_zero, Act.put, List.setIfInBounds_toArray, List.set_cons_zero, List.set_cons_succ]
    refine wpAnyH_take (i := 3) (v := ?_) rfl (by kernel_rfl) (by kernel_rfl) (by kernel_rfl) (fun _ _ _ h => h) (Or.inl ⟨by first | kernel_rfl | rfl, ?_⟩) (by assumption) ?_
    rotate_left
    · (intro wq hSw; (try dsimp only at hSw); (try simp (maxSteps := 2000000) only [List.getElem_toArray, List.getElem_cons_succ, List.getElem_cons_zero]); go_simp); try with_reducible rfl
    try simp (maxSteps := 2000000) only [List.getElem_toArray, List.getElem_cons_succ, List.getElem_cons_zero, Act.put, List.setIfInBounds_toArray, List.set_cons_zero, List.set_cons_succ]
    refine wpAnyH_take (i := 4) (v := ?_) rfl (by kernel_rfl) (by kernel_rfl) (by kernel_rfl) (fun _ _ _ h => h) (Or.inl ⟨by first | kernel_rfl | rfl, ?_⟩) (by assumption) ?_
    rotate_left
    · (intro wq hSw; (try dsimp only at hSw); (try simp (maxSteps := 2000000) only [List.getElem_toArray, List.getElem_cons_succ, List.getElem_cons_zero]); go_simp); try with_reducible rfl
    try simp (maxSteps := 2000000) only [List.getElem_toArray, List.getElem_cons_succ, List.getElem_cons_zero, Act.put, List.setIfInBounds_toArray, List.set_cons_zero, List.set_cons_succ]
    refine wpAnyH_take (i := 6) (v := ?_) rfl (by kernel_rfl) (by kernel_rfl) (by kernel_rfl) (fun _ _ _ h => h) (Or.inl ⟨by first | kernel_rfl | rfl, ?_⟩) (by assumption) ?_
    rotate_left
    · (intro wq hSw; (try dsimp only at hSw); (try simp (maxSteps := 2000000) only [List.getElem_toArray, List.getElem_cons_succ, List.getElem_cons_zero]); go_simp); try with_reducible rfl
    try simp (maxSteps := 2000000) only [List.getElem_toArray, List.getElem_cons_succ, List.getElem_cons_zero, Act.put, List.setIfInBounds_toArray, List.set_cons_zero, List.set_cons_succ]
    refine wpAnyH_take (i := 7) (v := ?_) rfl (by kernel_rfl) (by kernel_rfl) (by kernel_rfl) (fun _ _ _ h => h) (Or.inl ⟨by first | kernel_rfl | rfl, ?_⟩) (by assumption) ?_
    rotate_left
    · (intro wq hSw; (try dsimp only at hSw); (try simp (maxSteps := 2000000) only [List.getElem_toArray, List.getElem_cons_succ, List.getElem_cons_zero]); go_simp); try with_reducible rfl
    try simp (maxSteps := 2000000) only [List.getElem_toArray, List.getElem_cons_succ, List.getElem_cons_zero, Act.put, List.setIfInBounds_toArray, List.set_cons_zero, List.set_cons_succ]
    refine wpAnyH_take (i := 8) (v := ?_) rfl (by kernel_rfl) (by kernel_rfl) (by kernel_rfl) (fun _ _ _ h => h) (Or.inl ⟨by first | kernel_rfl | rfl, ?_⟩) (by assumption) ?_
    rotate_left
    · (intro wq hSw; (try dsimp only at hSw); (try simp (maxSteps := 2000000) only [List.getElem_toArray, List.getElem_cons_succ, List.getElem_cons_zero]); go_simp); try with_reducible rfl
    try simp (maxSteps := 2000000) only [List.getElem_toArray, List.getElem_cons_succ, List.getElem_cons_zero, Act.put, List.setIfInBounds_toArray, List.set_cons_zero, List.set_cons_succ]
    refine wpAnyH_take (i := 9) (v := ?_) rfl (by kernel_rfl) (by kernel_rfl) (by kernel_rfl) (fun _ _ _ h => h) (Or.inl ⟨by first | kernel_rfl | rfl, ?_⟩) (by assumption) ?_
    rotate_left
    · (intro wq hSw; (try dsimp only at hSw); (try simp (maxSteps := 2000000) only [List.getElem_toArray, List.getElem_cons_succ, List.getElem_cons_zero]); go_simp); try with_reducible rfl
    try simp (maxSteps := 2000000) only [List.getElem_toArray, List.getElem_cons_succ, List.getElem_cons_zero, Act.put, List.setIfInBounds_toArray, List.set_cons_zero, List.set_cons_succ]
    refine wpAnyH_take (i := 10) (v := ?_) rfl (by kernel_rfl) (by kernel_rfl) (by kernel_rfl) (fun _ _ _ h => h) (Or.inl ⟨by first | kernel_rfl | rfl, ?_⟩) (by assumption) ?_
    rotate_left
    · (intro wq hSw; (try dsimp only at hSw); (try simp (maxSteps := 2000000) only [List.getElem_toArray, List.getElem_cons_succ, List.getElem_cons_zero]); go_simp); try with_reducible rfl
    try simp (maxSteps := 2000000) only [List.getElem_toArray, List.getElem_cons_succ, List.getElem_cons_zero, Act.put, List.setIfInBounds_toArray, List.set_cons_zero, List.set_cons_succ]
    refine wpAnyH_ready (rs := [5]) (by kernel_rfl) (by simp) ?_
    refine AllReadyH.cons rfl (fun K hK => ?_) AllReadyH.nil
    try simp (maxSteps := 2000000) only [List.getElem_toArray, List.getElem_cons_succ, List.getElem_cons_zero]
    go_simp
    refine (put_ok (k := a.key) (Lib.hid (H2.out.below (Below.refl _ _).drew)) (Lib.hid (RV.out.below U8R.stable (Below.refl _ _).drew)) hm).mono ?_
    rintro e w3 ⟨rfl, h3, k3⟩
    have K3 := Lib.hid (hHeld.trans (G := (· = bb)) k3 (fun q h _ => .inl h))
    have H3 := Lib.hid h3
    have KK := Lib.hid k3
    have R3 := Lib.hid (HR2.out.keep k3 (fun e => hxbb e) (fun q hq => hq.2))
    have b3 := K3.out
    have bk3 : wA.heap.size ≤ w3.heap.size := k3.size
    clear h3 k3
    try (go_wp2_with fail)
    refine hK.out _ _ (by first | assumption | exact (Keep.refl _ _) | exact Keep.of_below ((Below.refl _ _).drew)) (fun hHeld => ?_)
    clear hK K
    try simp (maxSteps := 2000000) only [List.getElem_toArray, List.getElem_cons_succ, List.getElem_cons_zero, Act.put, List.setIfInBounds_toArray, List.set_cons_zero, List.set_cons_succ]
    refine wpAnyH_ready (rs := [11]) (by kernel_rfl) (by simp) ?_
    refine AllReadyH.cons rfl (fun K hK => ?_) AllReadyH.nil
    try simp (maxSteps := 2000000) only [List.getElem_toArray, List.getElem_cons_succ, List.getElem_cons_zero]
    go_simp
    refine (rput_any (k := a.key) R3 (Lib.hid HL.out) (Lib.hid ((RV.out.below U8R.stable (Below.refl _ _).drew).keep (S := fun q => q ≠ bb) (F := (· = bb)) U8R.stable KK.out (fun q h => h))) hm (fun h => h.1 rfl) (fun q hq => ⟨by have := hx2; omega, by have := hbb2; omega⟩)).mono ?_
    rintro e w4 ⟨rfl, h4, k4⟩
    have H4 := Lib.hid (H3.out.keepx k4 hxb hxbb R3.out)
    have K4 := Lib.hid (K3.out.trans (G := (· = x)) k4 (fun q h _ => .inr h))
    have R4 := Lib.hid h4
    have b4 := K4.out
    clear h4 k4
    try (go_wp2_with fail)
    refine hK.out _ _ (by first | assumption | exact (Keep.refl _ _) | exact Keep.of_below ((Below.refl _ _).drew)) (fun hHeld => ?_)
    clear hK K
    try simp (maxSteps := 2000000) only [List.getElem_toArray, List.getElem_cons_succ, List.getElem_cons_zero, Act.put, List.setIfInBounds_toArray, List.set_cons_zero, List.set_cons_succ]
    refine wpAnyH_take (i := 12) (v := ?_) rfl (by kernel_rfl) (by kernel_rfl) (by kernel_rfl) (fun _ _ _ h => h) (Or.inl ⟨by first | kernel_rfl | rfl, ?_⟩) (by assumption) ?_
    rotate_left
    · (intro wq hSw; (try dsimp only at hSw); (try simp (maxSteps := 2000000) only [List.getElem_toArray, List.getElem_cons_succ, List.getElem_cons_zero]); go_simp); try with_reducible rfl
    try simp (maxSteps := 2000000) only [List.getElem_toArray, List.getElem_cons_succ, List.getElem_cons_zero, Act.put, List.setIfInBounds_toArray, List.set_cons_zero, List.set_cons_succ]
    refine wpAnyH_take (i := 13) (v := ?_) rfl (by kernel_rfl) (by kernel_rfl) (by kernel_rfl) (fun _ _ _ h => h) (Or.inl ⟨by first | kernel_rfl | rfl, ?_⟩) (by assumption) ?_
    rotate_left
    · (intro wq hSw; (try dsimp only at hSw); (try simp (maxSteps := 2000000) only [List.getElem_toArray, List.getElem_cons_succ, List.getElem_cons_zero]); go_simp); try with_reducible rfl
    try simp (maxSteps := 2000000) only [List.getElem_toArray, List.getElem_cons_succ, List.getElem_cons_zero, Act.put, List.setIfInBounds_toArray, List.set_cons_zero, List.set_cons_succ]
    refine wpAnyH_done (by kernel_rfl) ?_ _
    go_wp2_with fail
    go_ret
    rw [HW.out]
    exact ⟨by simp, ⟨H4.out, R4.out, hxb, hxbb, Nat.lt_of_lt_of_le hx2 K4.out.size⟩, (Keep.of_below WA.out).trans K4.out (fun q h _ => h)⟩
end Go.Proofs.Ytpibaahiboajhaa
