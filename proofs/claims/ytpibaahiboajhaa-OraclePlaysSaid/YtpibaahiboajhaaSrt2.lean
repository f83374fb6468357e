/-
  Sorting a row of uint64: the medians, the insertion sort.
-/
import Derived.Test.YtpibaahiboajhaaSrt1
set_option linter.unusedSimpArgs false
set_option linter.unusedVariables false
namespace Go.Proofs.Ytpibaahiboajhaa
open Go.RowKit Go.Cib
attribute [local go_sem] cell_set Later.cell Later.frozen Grw.cell Grw.frozen
open Go.Sort Go.Proofs

/-- What the row holds, under a name of its own. -/
theorem RowIs.family {w wr : World} {blk off n : Nat} {d : Array Int} (h : RowIs w blk off n wr d) : ∃ G : Nat → Int, (∀ t, t < n → wr.cell? ⟨blk, off + t, none⟩ = some (.int .u64 (G t))) ∧ (∀ t, t < n → wr.frozen? ⟨blk, off + t, none⟩ = false) ∧ Hid (∀ t, G t = d[t]!) :=
  ⟨fun t => d[t]!, fun t ht => h.cell ht, fun t _ => h.frozen t, Lib.hid (fun _ => rfl)⟩
theorem RowIs.cw {w wr : World} {blk off n : Nat} {d : Array Int} {G : Nat → Int} (h : RowIs w blk off n wr d) (hG : Hid (∀ t, G t = d[t]!)) : ∀ t, t < n → wr.cell? ⟨blk, off + t, none⟩ = some (.int .u64 (G t)) := fun t ht => by
  rw [hG.out]
  exact h.cell ht
theorem RowIs.fw {w wr : World} {blk off n : Nat} {d : Array Int} (h : RowIs w blk off n wr d) : ∀ t, t < n → wr.frozen? ⟨blk, off + t, none⟩ = false := fun t _ => h.frozen t
theorem RowIs.on {w wr : World} {blk off n : Nat} {d : Array Int} {G : Nat → Int} (h : Hid (RowIs w blk off n wr d)) (hG : Hid (∀ t, G t = d[t]!)) (q : Nat) :
    ∃ w2, wr.drewN q = w2 ∧ Hid (RowIs w blk off n w2 d) ∧ (∀ t, t < n → w2.cell? ⟨blk, off + t, none⟩ = some (.int .u64 (G t))) ∧ ∀ t, t < n → w2.frozen? ⟨blk, off + t, none⟩ = false :=
  ⟨_, rfl, Lib.hid (h.out.drewN q), (h.out.drewN q).cw hG, (h.out.drewN q).fw⟩
/-- A count in a box of its own. -/
def CntIs (w : World) (sb s : Nat) : Prop := ∃ T, w.heap[sb]? = some (.cells #[.int .i64 s] T (0, 0))
section
variable {w w' : World} {sb s : Nat}
theorem CntIs.cell (h : CntIs w sb s) : w.cell? ⟨sb, 0, none⟩ = some (.int .i64 s) := by
  obtain ⟨T, h⟩ := h
  exact (cell_of_box_a h).1
theorem CntIs.frozen (h : CntIs w sb s) : w.frozen? ⟨sb, 0, none⟩ = false := by
  obtain ⟨T, h⟩ := h
  exact (cell_of_box_a h).2
theorem CntIs.set (h : CntIs w sb s) (t : Nat) : CntIs (w.setCell ⟨sb, 0, none⟩ (.int .i64 t)) sb t := by
  obtain ⟨T, h⟩ := h
  exact ⟨T, heap_setCell_box_a _ h⟩
theorem CntIs.drewN (h : CntIs w sb s) (q : Nat) : CntIs (w.drewN q) sb s := h
end

set_option maxRecDepth 100000 in
set_option maxHeartbeats 4000000 in
theorem order2_u {w wr : World} {blk off n cap a b sb s : Nat} {d : Array Int} (h : RowIs w blk off n wr d) (hc : CntIs wr sb s) (hsb : w.heap.size ≤ sb) (ha : a < n) (hb : b < n) (hn : n ≤ 1000000) (hs : s ≤ 1000) :
    Calls Try.prog 184 #[.slice (some ⟨blk, off, none⟩) n cap, .int .i64 a, .int .i64 b, .pointer (some ⟨sb, 0, none⟩)] wr fun e w' =>
      e = .returned (.tuple #[.int .i64 (order2 ltInt d a b s).1, .int .i64 (order2 ltInt d a b s).2.1]) ∧ RowIs w blk off n w' d ∧ CntIs w' sb (order2 ltInt d a b s).2.2 := by
  have ca := h.cell ha
  have cb := h.cell hb
  have cs := hc.cell
  have fs := hc.frozen
  obtain ⟨X, hX⟩ : ∃ X, d[a]! = X := ⟨_, rfl⟩
  obtain ⟨Y, hY⟩ : ∃ Y, d[b]! = Y := ⟨_, rfl⟩
  have hO : order2 ltInt d a b s = if ltInt Y X then (b, a, s + 1) else (a, b, s) := by unfold order2; rw [hX, hY]
  obtain ⟨⟨p, q, r⟩, hp⟩ : ∃ x, order2 ltInt d a b s = x := ⟨_, rfl⟩
  rw [hp] at hO ⊢
  rw [hX] at ca
  rw [hY] at cb
  have H := Lib.hid h
  have HC := Lib.hid hc
  have HO := Lib.hid hO
  clear h hc hO hX hY hp
  go_enter Try.func184, Try.ntmps184
  go_wp2_with fail
  go_quiet (first | (go_at_call 152; refine Calls.quiet_of_same (less_u _ _ _)))
  go_wp2
  · have hl : ltInt Y X = true := by assumption
    have hO := HO.out
    rw [if_pos hl] at hO
    simp only [Prod.mk.injEq] at hO
    obtain ⟨rfl, rfl, rfl⟩ := hO
    refine bodyPost_ret (v := .tuple #[.int .i64 p, .int .i64 q]) (by simp [results, Try.results184, go_sem, *]) rfl ?_
    refine ⟨rfl, (H.out.drewN nq).later (grownBy_setCell0_a _ _ _) (fun k e => by cases e; exact hsb), ?_⟩
    have := (HC.out.drewN nq).set (s + 1)
    simpa using this
  · have hl : ltInt Y X = false := by assumption
    have hO := HO.out
    rw [if_neg (by rw [hl]; decide)] at hO
    simp only [Prod.mk.injEq] at hO
    obtain ⟨rfl, rfl, rfl⟩ := hO
    refine bodyPost_ret (v := .tuple #[.int .i64 p, .int .i64 q]) (by simp [results, Try.results184, go_sem, *]) rfl ?_
    exact ⟨rfl, H.out.drewN nq, HC.out.drewN nq⟩
theorem order2_cases (d : Array Int) (a b s : Nat) : (order2 ltInt d a b s = (b, a, s + 1)) ∨ (order2 ltInt d a b s = (a, b, s)) := by
  unfold order2
  split
  · exact Or.inl rfl
  · exact Or.inr rfl
theorem order2_in (d : Array Int) {a b n : Nat} (s : Nat) (ha : a < n) (hb : b < n) : (order2 ltInt d a b s).1 < n ∧ (order2 ltInt d a b s).2.1 < n ∧ (order2 ltInt d a b s).2.2 ≤ s + 1 := by
  rcases order2_cases d a b s with h | h <;> rw [h] <;> exact ⟨by assumption, by assumption, by simp⟩

set_option maxRecDepth 100000 in
set_option maxHeartbeats 4000000 in
theorem median_u {w wr : World} {blk off n cap a b c sb s : Nat} {d : Array Int} (h : RowIs w blk off n wr d) (hc : CntIs wr sb s) (hsb : w.heap.size ≤ sb) (ha : a < n) (hb : b < n) (hcn : c < n) (hn : n ≤ 1000000) (hs : s ≤ 900) :
    Calls Try.prog 176 #[.slice (some ⟨blk, off, none⟩) n cap, .int .i64 a, .int .i64 b, .int .i64 c, .pointer (some ⟨sb, 0, none⟩)] wr fun e w' =>
      e = .returned (.int .i64 (median ltInt d a b c s).1) ∧ RowIs w blk off n w' d ∧ CntIs w' sb (median ltInt d a b c s).2 := by
  have e1 := order2_u h hc hsb ha hb hn (by omega) (cap := cap)
  obtain ⟨hp, hq, hr⟩ := order2_in d s ha hb
  have hm : median ltInt d a b c s = (let r1 := order2 ltInt d a b s; let r2 := order2 ltInt d r1.2.1 c r1.2.2; let r3 := order2 ltInt d r1.1 r2.1 r2.2.2; (r3.2.1, r3.2.2)) := rfl
  rw [hm]
  clear hm
  obtain ⟨⟨p, q, r⟩, h1⟩ : ∃ x, order2 ltInt d a b s = x := ⟨_, rfl⟩
  rw [h1] at e1 hp hq hr ⊢
  simp only at e1 hp hq hr ⊢
  obtain ⟨hp2, hq2, hr2⟩ := order2_in d r hq hcn
  obtain ⟨⟨p2, q2, r2⟩, h2⟩ : ∃ x, order2 ltInt d q c r = x := ⟨_, rfl⟩
  rw [h2] at hp2 hq2 hr2 ⊢
  simp only at hp2 hq2 hr2 ⊢
  obtain ⟨⟨p3, q3, r3⟩, h3⟩ : ∃ x, order2 ltInt d p p2 r2 = x := ⟨_, rfl⟩
  rw [h3]
  simp only
  have H2 := Lib.hid h2
  have H3 := Lib.hid h3
  clear h h1 h2 h3 hc
  go_enter Try.func176, Try.ntmps176
  go_wp2_with fail
  refine e1.mono ?_
  rintro e w1 ⟨rfl, t1, c1⟩
  have e2 := order2_u t1 c1 hsb hq hcn hn (by omega) (cap := cap)
  rw [H2.out] at e2
  clear e1 t1 c1
  go_wp2_with fail
  refine e2.mono ?_
  rintro e w2 ⟨rfl, t2, c2⟩
  have e3 := order2_u t2 c2 hsb hp hp2 hn (by omega) (cap := cap)
  rw [H3.out] at e3
  clear e2 t2 c2
  go_wp2_with fail
  refine e3.mono ?_
  rintro e w3 ⟨rfl, t3, c3⟩
  have T3 := Lib.hid t3
  have C3 := Lib.hid c3
  clear e3 t3 c3
  go_wp2_with fail
  go_ret
  exact ⟨rfl, T3.out, C3.out⟩
set_option maxRecDepth 100000 in
set_option maxHeartbeats 4000000 in
theorem medianAdj_u {w wr : World} {blk off n cap a sb s : Nat} {d : Array Int} (h : RowIs w blk off n wr d) (hc : CntIs wr sb s) (hsb : w.heap.size ≤ sb) (ha0 : 1 ≤ a) (ha : a + 1 < n) (hn : n ≤ 1000000) (hs : s ≤ 900) :
    Calls Try.prog 175 #[.slice (some ⟨blk, off, none⟩) n cap, .int .i64 a, .pointer (some ⟨sb, 0, none⟩)] wr fun e w' =>
      e = .returned (.int .i64 (medianAdjacent ltInt d a s).1) ∧ RowIs w blk off n w' d ∧ CntIs w' sb (medianAdjacent ltInt d a s).2 := by
  have e1 := median_u (a := a - 1) (b := a) (c := a + 1) h hc hsb (by omega) (by omega) ha hn hs (cap := cap)
  rw [show ((a - 1 : Nat) : Int) = (a : Int) - 1 by omega, show ((a + 1 : Nat) : Int) = (a : Int) + 1 by omega] at e1
  have hm : medianAdjacent ltInt d a s = median ltInt d (a - 1) a (a + 1) s := rfl
  rw [hm]
  obtain ⟨⟨p, q⟩, h1⟩ : ∃ x, median ltInt d (a - 1) a (a + 1) s = x := ⟨_, rfl⟩
  rw [h1] at e1 ⊢
  clear h h1 hc hm
  go_enter Try.func175, Try.ntmps175
  go_wp2_with fail
  refine e1.mono ?_
  rintro e w1 ⟨rfl, t1, c1⟩
  have T1 := Lib.hid t1
  have C1 := Lib.hid c1
  clear e1 t1 c1
  go_wp2_with fail
  go_ret
  exact ⟨rfl, T1.out, C1.out⟩
theorem median_in (d : Array Int) {a b c n : Nat} (s : Nat) (ha : a < n) (hb : b < n) (hc : c < n) : (median ltInt d a b c s).1 < n ∧ (median ltInt d a b c s).2 ≤ s + 3 := by
  obtain ⟨h1, h2, h3⟩ := order2_in d s ha hb
  obtain ⟨h4, h5, h6⟩ := order2_in d (order2 ltInt d a b s).2.2 h2 hc
  obtain ⟨h7, h8, h9⟩ := order2_in d (order2 ltInt d (order2 ltInt d a b s).2.1 c (order2 ltInt d a b s).2.2).2.2 h1 h4
  exact ⟨h8, by show (order2 ltInt d _ _ _).2.2 ≤ _; omega⟩
end Go.Proofs.Ytpibaahiboajhaa
