/-
  The document's drive: Write.
-/
import Derived.Test.YtnceaimhhfjmdaaRefD1
import Derived.Deep.RegionLaw
set_option linter.unusedSimpArgs false
set_option linter.unusedVariables false
namespace Go.Proofs.Ytnceaimhhfjmdaa
open Go.RowKit Go.Cib
attribute [local go_sem] cell_set Later.cell Later.frozen Grw.cell Grw.frozen
attribute [local go_sem ↓] shut_build shut_slice

theorem slU8 : SlTy Try.prog 27 5 (.int .u8 0) 1 1 := ⟨Try.underlying27, by kernel_rfl, rfl, by omega⟩

theorem ownL_wide {X : Type} {R : (Nat → Prop) → World → List Value → X → Prop} {E : TypeId} {s base : Nat} {S T : Nat → Prop} {w : World} {v : Value} {n : Nat} {xs : List X} (hR : Stable R) (h : OwnL R E s base S w v n xs) (hS : ∀ b, S b → T b) : OwnL R E s base T w v n xs := by
  obtain ⟨css, h1, h2, h3, h4, h5⟩ := h
  exact ⟨css, h1, h2, h3, h4, fun i cs x hc hx => hR _ _ _ _ _ _ (h5 i cs x hc hx) fun b hb _ => ⟨⟨hS b hb.1, hb.2⟩, rfl⟩⟩
theorem rwrite_post {G Sb : Nat → Prop} {w w1 w8 u : World} {x n : Nat} {vL vW vN : Value} {rs : RSt} {e : Ev} (hB : RefB Sb w1 x n vL vW rs) (g1 : G x) (g2 : ∀ b, Sb b → G b) (g3 : ∀ k, vL.ownBlock = some k → G k) (g4 : ∀ k, vW.ownBlock = some k → G k) (lt : ∀ k, G k → k < w1.heap.size)
    (h1 : Below w.heap.size w w1) (h8 : Below w1.heap.size w1 w8) (hu : w8.grownBy u vW.ownBlock) (hs : w8.heap.size < u.heap.size)
    (own : OwnL EvR 112 4 0 (fun b => Sb b ∨ (w1.heap.size ≤ b ∧ b < w8.heap.size)) u vN (rs.wait.length + 1) (rs.wait ++ [e])) (hat : vN.ownBlock = vW.ownBlock ∨ vN.ownBlock = some (w8.heap.size + 1)) :
    RUpd G w (u.setCell ⟨x, 2, none⟩ vN) x n { rs with wait := rs.wait ++ [e] } := by
  have s8 := h8.size
  have hk : ∀ k, k < w1.heap.size → some k ≠ vW.ownBlock → u.heap[k]? = w1.heap[k]? := fun k hk hn => (hu.block k (by omega) hn).trans (h8.block k hk)
  have hset : ∀ k, k ≠ x → (u.setCell ⟨x, 2, none⟩ vN).heap[k]? = u.heap[k]? := fun k hk => Below.heap_setCell _ _ _ _ hk
  have hx : x < w1.heap.size := lt x g1
  have hN : ∀ k, vN.ownBlock = some k → (vW.ownBlock = some k) ∨ k = w8.heap.size + 1 := fun k hk => by
    rcases hat with h | h
    · exact .inl (h ▸ hk)
    · rw [h] at hk; injection hk with hk; exact .inr hk.symm
  have hNx : vN.ownBlock ≠ some x := fun e => by
    rcases hN x e with h | h
    · exact hB.wx h
    · omega
  have hlen : (rs.wait ++ [e]).length = rs.wait.length + 1 := by simp
  refine ⟨fun b => G b ∨ (w1.heap.size ≤ b ∧ b < u.heap.size), ⟨fun b => Sb b ∨ (w1.heap.size ≤ b ∧ b < w8.heap.size), vL, vN, ⟨?_, ?_, ?_, ?_, hB.lx, hNx, ?_⟩, .inl g1, ?_, fun k hk => .inl (g3 k hk), ?_, ?_⟩, ?_, ?_⟩
  · exact (hB.box.keep (hk x hx (fun e => hB.wx e.symm))).set 2 vN
  · refine ownL_wide EvR.stable (ownL_blocks EvR.stable hB.oL (fun k hk2 => ?_) (fun b hs2 => ?_)) (fun b hb => .inl hb)
    · refine (hset k (fun e => hB.lx (e ▸ hk2))).trans (hk k (lt k (g3 k hk2)) (fun e => ?_))
      rcases hB.lw with h | h
      · rw [h] at hk2; cases hk2
      · exact h (hk2.trans e)
    · exact (hset b (hB.sx b hs2).1).trans (hk b (lt b (g2 b hs2)) (hB.sx b hs2).2.2)
  · show OwnL EvR _ 4 0 _ _ vN (rs.wait ++ [e]).length (rs.wait ++ [e])
    rw [hlen]
    refine ownL_blocks EvR.stable own (fun k hk2 => hset k (fun e => hNx (e ▸ hk2))) (fun b hs2 => hset b ?_)
    rcases hs2 with h | h
    · exact (hB.sx b h).1
    · omega
  · rintro b (h | h)
    · refine ⟨(hB.sx b h).1, (hB.sx b h).2.1, fun e => ?_⟩
      have := lt b (g2 b h)
      rcases hN b e.symm with h2 | h2
      · exact (hB.sx b h).2.2 h2.symm
      · omega
    · refine ⟨by omega, fun e => ?_, fun e => ?_⟩
      · have := lt b (g3 b e.symm); omega
      · rcases hN b e.symm with h2 | h2
        · have := lt b (g4 b h2); omega
        · omega
  · rcases hB.lw with h | h
    · exact .inl h
    · right
      intro e
      cases hv : vL.ownBlock with
      | none => rw [hv] at e; rcases hat with h2 | h2 <;> rw [← e] at h2
                · exact h (hv.trans h2)
                · cases h2
      | some k =>
        have hk3 := hN k (e ▸ hv)
        have := lt k (g3 k hv)
        rcases hk3 with h2 | h2
        · exact h (hv.trans h2.symm)
        · omega
  · rintro b (h | h)
    · exact .inl (g2 b h)
    · exact .inr ⟨h.1, by omega⟩
  · intro k hk2
    rcases hN k hk2 with h2 | h2
    · exact .inl (g4 k h2)
    · right
      have := (own.lt k hk2).2
      exact ⟨by omega, this⟩
  · rintro k (h | h)
    · have := lt k h; simp; omega
    · simpa using h.2
  · rintro k (h | h) hlk
    · exact h
    · have := h1.size; omega
  · refine (Keep.of_below (F := G) h1).trans (G := G) ?_ (fun k h _ => h)
    exact ⟨hu.os.trans h8.os, hu.tape.trans h8.tape, hu.output.trans h8.output, by simp; omega, fun k hk2 hg => (hset k (fun e => hg (e ▸ g1))).trans (hk k hk2 (fun e => hg (g4 k e.symm)))⟩

set_option maxRecDepth 100000 in
set_option maxHeartbeats 8000000 in
theorem rwrite_good {G : Nat → Prop} {w : World} {x n : Nat} {rs : RSt} (h : Hid (RefAt G w x n rs)) (hd : rs.gone = false) (z : Nat) (hz : z < n) {S0 : Nat → Prop} {A : Option Addr} {c : Nat} {bs : List Int} (hb : Hid (RdL U8R 1 S0 w A 64 bs)) (hcl : rs.wait.length < 1000000) :
    Calls Try.prog 59 #[.pointer (some ⟨x, 0, none⟩), .int .i64 z, .slice A 64 c] w fun e w' => e = .returned (.int .i64 0) ∧ RUpd G w w' x n { rs with wait := rs.wait ++ [⟨z, bs, 0, 0⟩] } := by
  obtain ⟨Sb, vL, vW, hB, _⟩ := h.out
  obtain ⟨k0, k1, k2, k3⟩ := ref_cells hB
  rw [hd] at k3
  clear hB
  go_enter Try.func59, Try.ntmps59
  go_wp2_with fail
  refine (rhas_any h z).mono ?_
  rintro e w1 ⟨rfl, h1⟩
  have e1 : decide (0 ≤ (z : Int) ∧ (z : Int) < n) = true := by simp; omega
  rw [e1]
  clear e1 k0 k1 k2 k3
  have U1 := Lib.hid h1
  obtain ⟨Sb, vL, vW, hB, g1, g2, g3, g4, lt⟩ := h.out.below h1
  have R1 := Lib.hid (hb.out.below U8R.stable h1)
  obtain ⟨k0, k1, k2, k3⟩ := ref_cells hB
  have z2 := hB.box.frozen 2
  have HB := Lib.hid hB
  obtain ⟨AW, cW, rfl, hWc⟩ := hB.oW.form
  have B0 : Below w1.heap.size w1 (w1.alloc (.cells #[] 5)).drew := ((Below.refl _ _).alloc (Nat.le_refl _) _).drew
  have own0 : OwnL U8R 5 1 w1.heap.size (fun _ => False) (w1.alloc (.cells #[] 5)).drew (.slice (some ⟨w1.heap.size, 0, none⟩) 0 0) 0 [] := (OwnL.made (R := U8R) (E := 5) (s := 1) (S := fun _ => False) (base := w1.heap.size) (w := w1) #[] 0 (Nat.le_refl _) (by decide) (by simp)).keep U8R.stable ((Below.refl _ _).drew)
  have rd8 := R1.out.below U8R.stable B0
  have k2a : ∀ o, (w1.alloc o).cell? ⟨x, 2, none⟩ = some (.slice AW rs.wait.length cW) := fun o => cell_alloc2 k2 o
  have g8 : ∀ w8, (w1.alloc (.cells #[] 5)).drew.grownBy w8 (Value.slice (some ⟨w1.heap.size, 0, none⟩) 0 0).ownBlock → Below w1.heap.size w1 w8 := fun w8 hg => B0.trans ⟨hg.os, hg.tape, hg.output, hg.size, fun k hk => hg.block k (by simp; omega) (by simp [Value.ownBlock]; omega)⟩
  have KK8 := Lib.hid (fun w8 hg => (((g8 w8 hg).cell (p := ⟨x, 2, none⟩) (lt x g1)).trans k2))
  have KK8a := Lib.hid (fun w8 hg (o : Obj) => cell_alloc2 (((g8 w8 hg).cell (p := ⟨x, 2, none⟩) (lt x g1)).trans k2) o)
  have hxW : some x ≠ (Value.slice AW rs.wait.length cW).ownBlock := fun e => hB.wx e.symm
  have KO8 := Lib.hid (fun w8 (hg : (w1.alloc (.cells #[] 5)).drew.grownBy w8 (Value.slice (some ⟨w1.heap.size, 0, none⟩) 0 0).ownBlock) => ownL_wide (T := fun b => Sb b ∨ (w1.heap.size ≤ b ∧ b < w8.heap.size)) EvR.stable (ownL_blocks EvR.stable hB.oW (fun k hk => (g8 w8 hg).block k (lt k (g4 k hk))) (fun b hs => (g8 w8 hg).block b (lt b (g2 b hs)))) (fun b hb => .inl hb))
  have KE := Lib.hid (fun A8 c8 w8 (own8 : OwnL U8R 5 1 w1.heap.size (fun _ => False) w8 (.slice A8 (0 + 64) c8) (0 + 64) ([] ++ bs)) (hg : (w1.alloc (.cells #[] 5)).drew.grownBy w8 (Value.slice (some ⟨w1.heap.size, 0, none⟩) 0 0).ownBlock) =>
    (show EvR (Go.Cib.Rest (fun b => Sb b ∨ (w1.heap.size ≤ b ∧ b < w8.heap.size)) (.slice AW rs.wait.length cW)) w8 [.int .i64 z, .slice A8 64 c8, .int .i64 0, .int .u32 0] ⟨z, bs, 0, 0⟩ from by
      obtain ⟨A', c', e, _, hr⟩ := own8.rd (S' := (w1.heap.size ≤ ·)) (fun k hk => hk) (fun _ _ h => h)
      obtain ⟨rfl, rfl⟩ : A8 = A' ∧ c8 = c' := by simpa using e
      obtain ⟨b, o, rfl, h1, h2, h3⟩ := u8_exact hr (by omega)
      refine ⟨_, 64, c8, rfl, (h3.weaken U8R.stable (S' := Go.Cib.Rest (fun b => Sb b ∨ (w1.heap.size ≤ b ∧ b < w8.heap.size)) (.slice AW rs.wait.length cW)) ?_)⟩
      rintro b' rfl
      exact ⟨.inr ⟨h1, h2⟩, fun e => by have := lt b' (g4 b' e.symm); omega⟩))
  have KF := Lib.hid (fun w8 (hg : (w1.alloc (.cells #[] 5)).drew.grownBy w8 (Value.slice (some ⟨w1.heap.size, 0, none⟩) 0 0).ownBlock) (u : Grw (Value.slice AW rs.wait.length cW).ownBlock w8) =>
    (show u.to.cell? ⟨x, 2, none⟩ = some (.slice AW rs.wait.length cW) ∧ u.to.frozen? ⟨x, 2, none⟩ = false from
      ⟨cell_far2 (((g8 w8 hg).cell (p := ⟨x, 2, none⟩) (lt x g1)).trans k2) u.ok hxW, frozen_far2 (((g8 w8 hg).cell (p := ⟨x, 2, none⟩) (lt x g1)).trans k2) (((g8 w8 hg).frozen (p := ⟨x, 2, none⟩) (lt x g1)).trans z2) u.ok hxW⟩))
  clear hB h hb h1
  go_wp2_with fail
  go_region_law (first | (refine step_of_list (by rfl) (wpList_appL U8R.stable U8R.one slU8 (by rfl) (by rfl) (base := w1.heap.size) (S := fun _ => False) (by rfl) own0 (by rfl) rd8 (fun _ _ hy => hy) (by decide) (by decide) (by simp) ?_); intro A8 c8 w8 hc8 own8 hg8 hat8; refine And.intro rfl ?_; have k28 := KK8.out w8 hg8; have k28a := KK8a.out w8 hg8; have own9 := KO8.out w8 hg8) | (refine step_of_list (by rfl) (wpList_push1 EvR.stable EvR.one slEv (by rfl) (by rfl) (base := 0) (S := fun b => Sb b ∨ (w1.heap.size ≤ b ∧ b < w8.heap.size)) (cs := #[.int .i64 z, .slice A8 64 c8, .int .i64 0, .int .u32 0]) (y := ⟨z, bs, 0, 0⟩) (by rfl) (by rfl) own9 (by rfl) (KE.out A8 c8 w8 own8 hg8) (by unfold maxLen; omega) (by omega) (Nat.zero_le _) ?_); intro A11 c11 u11 hc11 own11 hlt11 hb11 hat11; refine And.intro rfl ?_; obtain ⟨k30, k31⟩ := KF.out w8 hg8 u11))
  all_goals go_wp2_with fail
  all_goals go_ret
  all_goals exact ⟨rfl, rwrite_post HB.out g1 g2 g3 g4 lt U1.out (g8 w8 hg8) u11.ok hlt11 own11 hat11⟩
end Go.Proofs.Ytnceaimhhfjmdaa
