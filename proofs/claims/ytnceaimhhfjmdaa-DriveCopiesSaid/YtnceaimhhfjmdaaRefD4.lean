/-
  The document's drive: Crash.
-/
import Derived.Test.YtnceaimhhfjmdaaRefD3
set_option linter.unusedSimpArgs false
set_option linter.unusedVariables false
namespace Go.Proofs.Ytnceaimhhfjmdaa
open Go.RowKit Go.Cib
attribute [local go_sem] cell_set Later.cell Later.frozen Grw.cell Grw.frozen

/-- The events that a crash keeps. -/
def keptE (keep : Nat → Bool) : Nat → List Ev → List Ev
  | _, [] => []
  | i, e :: l => if keep i then e :: keptE keep (i + 1) l else keptE keep (i + 1) l
theorem keptE_snoc (keep : Nat → Bool) : ∀ (l : List Ev) (i : Nat) (e : Ev), keptE keep i (l ++ [e]) = if keep (i + l.length) then keptE keep i l ++ [e] else keptE keep i l
  | [], i, e => by by_cases h : keep i = true <;> simp [keptE, h]
  | d :: l, i, e => by
    rw [List.cons_append, keptE, keptE_snoc keep l, keptE, List.length_cons, show i + 1 + l.length = i + (l.length + 1) by omega]
    by_cases h : keep i = true <;> by_cases h2 : keep (i + (l.length + 1)) = true <;> simp [h, h2]
theorem keptE_len (keep : Nat → Bool) : ∀ (l : List Ev) (i : Nat), (keptE keep i l).length ≤ l.length
  | [], i => by simp [keptE]
  | d :: l, i => by
    rw [keptE]
    have := keptE_len keep l (i + 1)
    split <;> simp <;> omega
theorem keptE_far (keep : Nat → Bool) : ∀ (l : List Ev) (i : Nat), (∀ j, i ≤ j → keep j = false) → keptE keep i l = []
  | [], i, _ => rfl
  | d :: l, i, h => by rw [keptE, h i (Nat.le_refl _)]; exact keptE_far keep l (i + 1) (fun j hj => h j (by omega))
theorem keptE_app (keep : Nat → Bool) : ∀ (l m : List Ev) (i : Nat), keptE keep i (l ++ m) = keptE keep i l ++ keptE keep (i + l.length) m
  | [], m, i => by simp [keptE]
  | d :: l, m, i => by
    rw [List.cons_append, keptE, keptE_app keep l m (i + 1), keptE, List.length_cons, show i + 1 + l.length = i + (l.length + 1) by omega]
    split <;> simp
theorem ev_at {Sb : Nat → Prop} {w : World} {base : Nat} {A : Option Addr} {n c : Nat} {xs : List Ev} (h : OwnL EvR 112 4 base Sb w (.slice A n c) n xs) {i : Nat} (hi : i < n) :
    ∃ g e B m d, A = some ⟨g, 0, none⟩ ∧ xs[i]? = some e ∧ RdL U8R 1 (Go.Cib.Rest Sb (.slice A n c)) w B m e.b ∧
      w.cell? ⟨g, i * 4, none⟩ = some (.int .i64 e.at_) ∧ w.cell? ⟨g, i * 4 + 1, none⟩ = some (.slice B m d) ∧ w.cell? ⟨g, i * 4 + 2, none⟩ = some (.int .i64 e.off) ∧ w.cell? ⟨g, i * 4 + 3, none⟩ = some (.int .u32 e.mask) := by
  obtain ⟨css, h1, h2, h3, h4, h5⟩ := h
  obtain ⟨g, cap, e0, _, _⟩ := h1.form (by omega)
  obtain ⟨rfl, rfl⟩ : A = some ⟨g, 0, none⟩ ∧ c = cap := by simpa using e0
  have hic : css[i]? = some (css[i]'(by omega)) := List.getElem?_eq_getElem (by omega)
  have hix : xs[i]? = some (xs[i]'(by omega)) := List.getElem?_eq_getElem (by omega)
  obtain ⟨B, m, d, hcs, hr⟩ := h5 i _ _ hic hix
  have hcell : ∀ j v, (css[i]'(by omega))[j]? = some v → w.cell? ⟨g, i * 4 + j, none⟩ = some v := fun j v hj => by
    have hjl : j < 4 := by have := (List.getElem?_eq_some_iff.1 hj).1; rw [h4 _ (List.getElem_mem _)] at this; exact this
    rw [h1.cellAt (i * 4 + j) (by omega), flatten_get css h4 i _ j hic hjl, hj]
  rw [hcs] at hcell
  exact ⟨g, _, B, m, d, rfl, hix, hr, hcell 0 _ rfl, hcell 1 _ rfl, hcell 2 _ rfl, hcell 3 _ rfl⟩

/-- One event more in L. -/
theorem rpush_post {G Sb : Nat → Prop} {w u : World} {x n : Nat} {vL vW vN : Value} {rs : RSt} {e : Ev} (hB : RefB Sb w x n vL vW rs) (g1 : G x) (g2 : ∀ b, Sb b → G b) (g3 : ∀ k, vL.ownBlock = some k → G k) (g4 : ∀ k, vW.ownBlock = some k → G k) (lt : ∀ k, G k → k < w.heap.size)
    (hu : w.grownBy u vL.ownBlock) (own : OwnL EvR 112 4 0 Sb u vN (rs.L.length + 1) (rs.L ++ [e])) (hat : vN.ownBlock = vL.ownBlock ∨ vN.ownBlock = some (w.heap.size + 1)) :
    RUpd G w (u.setCell ⟨x, 1, none⟩ vN) x n { rs with L := rs.L ++ [e] } := by
  have hk : ∀ k, k < w.heap.size → some k ≠ vL.ownBlock → u.heap[k]? = w.heap[k]? := fun k hk hn => hu.block k hk hn
  have hset : ∀ k, k ≠ x → (u.setCell ⟨x, 1, none⟩ vN).heap[k]? = u.heap[k]? := fun k hk => Below.heap_setCell _ _ _ _ hk
  have hx : x < w.heap.size := lt x g1
  have hus := hu.size
  have hN : ∀ k, vN.ownBlock = some k → (vL.ownBlock = some k) ∨ k = w.heap.size + 1 := fun k hk => by
    rcases hat with h | h
    · exact .inl (h ▸ hk)
    · rw [h] at hk; injection hk with hk; exact .inr hk.symm
  have hNx : vN.ownBlock ≠ some x := fun e => by
    rcases hN x e with h | h
    · exact hB.lx h
    · omega
  have hWL : ∀ k, vW.ownBlock = some k → some k ≠ vL.ownBlock := fun k hk2 e => by
    rcases hB.lw with h | h
    · rw [h] at e; cases e
    · exact h (e.symm.trans hk2.symm)
  refine ⟨fun b => G b ∨ (w.heap.size ≤ b ∧ b < u.heap.size), ⟨Sb, vN, vW, ⟨?_, ?_, ?_, ?_, hNx, hB.wx, ?_⟩, .inl g1, fun b hb => .inl (g2 b hb), ?_, fun k hk2 => .inl (g4 k hk2), ?_⟩, ?_, ?_⟩
  · exact (hB.box.keep (hk x hx (fun e => hB.lx e.symm))).set 1 vN
  · show OwnL EvR _ 4 0 _ _ vN (rs.L ++ [e]).length (rs.L ++ [e])
    rw [show (rs.L ++ [e]).length = rs.L.length + 1 by simp]
    exact ownL_blocks EvR.stable own (fun k hk2 => hset k (fun e => hNx (e ▸ hk2))) (fun b hs2 => hset b (hB.sx b hs2).1)
  · refine ownL_blocks EvR.stable hB.oW (fun k hk2 => ?_) (fun b hs2 => ?_)
    · exact (hset k (fun e => hB.wx (e ▸ hk2))).trans (hk k (lt k (g4 k hk2)) (hWL k hk2))
    · exact (hset b (hB.sx b hs2).1).trans (hk b (lt b (g2 b hs2)) (hB.sx b hs2).2.1)
  · intro b h
    refine ⟨(hB.sx b h).1, fun e => ?_, (hB.sx b h).2.2⟩
    have := lt b (g2 b h)
    rcases hN b e.symm with h2 | h2
    · exact (hB.sx b h).2.1 h2.symm
    · omega
  · cases hv : vN.ownBlock with
    | none => exact .inl rfl
    | some k =>
      right
      intro e
      rcases hN k hv with h2 | h2
      · exact hWL k e.symm h2.symm
      · have := lt k (g4 k e.symm); omega
  · intro k hk2
    rcases hN k hk2 with h2 | h2
    · exact .inl (g3 k h2)
    · have := (own.lt k hk2).2
      exact .inr ⟨by omega, this⟩
  · rintro k (h | h)
    · have := lt k h; simp; omega
    · simpa using h.2
  · rintro k (h | h) hlk
    · exact h
    · omega
  · exact ⟨hu.os, hu.tape, hu.output, by simpa using hus, fun k hk2 hg => (hset k (fun e => hg (e ▸ g1))).trans (hk k hk2 (fun e => hg (g3 k e.symm)))⟩
theorem RUpd.trans {G G1 : Nat → Prop} {w w1 w2 : World} {x n : Nat} {rs : RSt} (hG : ∀ k, G1 k → k < w.heap.size → G k) (hK : Keep G w w1) (h : RUpd G1 w1 w2 x n rs) : RUpd G w w2 x n rs := by
  obtain ⟨G', hD, hF, hK2⟩ := h
  exact ⟨G', hD, fun k hk hlt => hG k (hF k hk (Nat.lt_of_lt_of_le hlt hK.size)) hlt, hK.trans hK2 (fun k h hlt => hG k h hlt)⟩
theorem RefAt.noWait {G : Nat → Prop} {w : World} {x n : Nat} {rs : RSt} (h : RefAt G w x n rs) : RUpd G w (w.setCell ⟨x, 2, none⟩ (.slice none 0 0)) x n { rs with wait := [] } := by
  obtain ⟨Sb, vL, vW, hB, g1, g2, g3, g4, lt⟩ := h
  have hset : ∀ k, k ≠ x → (w.setCell ⟨x, 2, none⟩ (.slice none 0 0)).heap[k]? = w.heap[k]? := fun k hk => Below.heap_setCell _ _ _ _ hk
  refine ⟨G, ⟨Sb, vL, .slice none 0 0, ⟨hB.box.set 2 _, ownL_blocks EvR.stable hB.oL (fun k hk2 => hset k (fun e => hB.lx (e ▸ hk2))) (fun b hs2 => hset b (hB.sx b hs2).1), OwnL.nil_, fun b h => ⟨(hB.sx b h).1, (hB.sx b h).2.1, by simp [Value.ownBlock]⟩, hB.lx, by simp [Value.ownBlock], ?_⟩, g1, g2, g3, by simp [Value.ownBlock], fun k hk => by simpa using lt k hk⟩, fun k hk _ => hk, (Keep.refl G w).setCell (fun _ => g1) _⟩
  cases hv : vL.ownBlock with
  | none => exact .inl rfl
  | some k => exact .inr (by simp [Value.ownBlock])
end Go.Proofs.Ytnceaimhhfjmdaa
