/-
  A tree in memory: nodes, each with rows of its own.
-/
import Derived.Test.YtpibaahiboajhaaRows
import Derived.Test.YtpibaahiboajhaaLib3
import Derived.Test.YtpibaahiboajhaaStr
import Derived.Test.YtpibaahiboajhaaVer
set_option linter.unusedSimpArgs false
set_option linter.unusedVariables false
namespace Go.Proofs.Ytpibaahiboajhaa
open Go.RowKit Go.Cib
attribute [local go_sem] cell_set Later.cell Later.frozen Grw.cell Grw.frozen

/-! ### Rows that stay -/
theorem ownsRow_blk {w w' : World} {base : Nat} {e : TypeId} {s n : Nat} {v : Value} {xs : List Value} (h : w.ownsRow base e s v n xs) (hb : ∀ g, v.ownBlock = some g → w'.heap[g]? = w.heap[g]?) : w'.ownsRow base e s v n xs := by
  refine ⟨h.1, ?_⟩
  rcases h.2 with h | ⟨g, cap, cur, rfl, h1, h2, h3⟩
  · exact .inl h
  · exact .inr ⟨g, cap, cur, rfl, h1, (hb g rfl).trans h2, h3⟩
theorem OwnL.keepF {X : Type} {R : (Nat → Prop) → World → List Value → X → Prop} {E : TypeId} {s base n : Nat} {S S' F : Nat → Prop} {w w' : World} {v : Value} {xs : List X} (hR : Stable R) (h : OwnL R E s base S w v n xs) (hk : Keep F w w')
    (hv : ∀ g, v.ownBlock = some g → ¬ F g) (hS : ∀ b, S b → b < w.heap.size → S' b ∧ ¬ F b) : OwnL R E s base S' w' v n xs := by
  have hlt := h.lt
  obtain ⟨css, h1, h2, h3, h4, h5⟩ := h
  refine ⟨css, ownsRow_blk h1 (fun g hg => hk.block g (hlt g hg).2 (hv g hg)), h2, h3, h4, fun i cs x hc hx => ?_⟩
  exact hR _ _ _ _ _ _ (h5 i cs x hc hx) fun b hb hl => ⟨⟨(hS b hb.1 hl).1, hb.2⟩, hk.block b hl (hS b hb.1 hl).2⟩

/-! ### Nodes -/
structure Ent where
  key : ByteArray
  vers : List Ver
def EntR (S : Nat → Prop) (w : World) (cs : List Value) (e : Ent) : Prop := ∃ A n c, cs = [.string e.key, .slice A n c] ∧ n ≤ c ∧ RdL VerR 5 S w A n e.vers
theorem EntR.stable : Stable EntR := fun _ _ _ _ _ _ ⟨A, n, c, h1, h2, h3⟩ hk => ⟨A, n, c, h1, h2, h3.stable VerR.stable hk⟩
theorem EntR.one : ∀ S w cs x, EntR S w cs x → ∀ u ∈ cs, u.oneCell' = true := by
  rintro S w cs x ⟨A, n, c, rfl, _, _⟩ u hu
  simp at hu
  rcases hu with rfl | rfl <;> rfl
def PtrR (_ : Nat → Prop) (_ : World) (cs : List Value) (p : Nat) : Prop := cs = [.pointer (some ⟨p, 0, none⟩)]
theorem PtrR.stable : Stable PtrR := fun _ _ _ _ _ _ h _ => h
theorem PtrR.one : ∀ S w cs x, PtrR S w cs x → ∀ u ∈ cs, u.oneCell' = true := by
  rintro S w cs x rfl u hu
  simp at hu
  subst hu; rfl
theorem sl_ent : SlTy Try.prog 178 189 (.agg #[.string ⟨#[]⟩, .slice none 0 0]) 2 40 := ⟨by kernel_rfl, by kernel_rfl, rfl, by decide⟩
theorem sl_ptr : SlTy Try.prog 179 177 (.pointer none) 1 8 := ⟨by kernel_rfl, by kernel_rfl, rfl, by decide⟩

/-- A node: its two rows, as values and as what they hold. -/
structure ND where
  lv : Value
  l : List Ent
  kv : Value
  ks : List Nat
/-- The blocks of a node. -/
def Blk (p : Nat) (nd : ND) (k : Nat) : Prop := k = p ∨ nd.lv.ownBlock = some k ∨ nd.kv.ownBlock = some k
abbrev NMap := Nat → Option ND
def upd (N : NMap) (p : Nat) (nd : ND) : NMap := fun q => if q = p then some nd else N q
theorem upd_same (N : NMap) (p : Nat) (nd : ND) : upd N p nd p = some nd := if_pos rfl
theorem upd_ne (N : NMap) {p q : Nat} (nd : ND) (h : q ≠ p) : upd N p nd q = N q := if_neg h

structure NodeAt (w : World) (base : Nat) (S : Nat → Prop) (p : Nat) (nd : ND) : Prop where
  box : BoxAt w p #[nd.lv, nd.kv]
  ge : base ≤ p
  l : OwnL EntR 189 2 base S w nd.lv nd.l.length nd.l
  k : OwnL PtrR 177 1 base (fun _ => True) w nd.kv nd.ks.length nd.ks
  ne1 : nd.lv.ownBlock ≠ some p
  ne2 : nd.kv.ownBlock ≠ some p
  ne3 : ∀ g, nd.lv.ownBlock = some g → nd.kv.ownBlock ≠ some g
structure TMem (w : World) (base : Nat) (S : Nat → Prop) (N : NMap) : Prop where
  at_ : ∀ p nd, N p = some nd → NodeAt w base S p nd
  dis : ∀ p q nd nd', N p = some nd → N q = some nd' → p ≠ q → ∀ k, Blk p nd k → ¬ Blk q nd' k
  sep : ∀ p nd k, N p = some nd → Blk p nd k → ¬ S k
  bnd : ∀ b, S b → b < w.heap.size
section
variable {w w' : World} {base : Nat} {S S' F : Nat → Prop} {p : Nat} {nd nd' : ND} {N : NMap}
theorem NodeAt.lt (h : NodeAt w base S p nd) {k : Nat} (hk : Blk p nd k) : base ≤ k ∧ k < w.heap.size := by
  rcases hk with rfl | e | e
  · exact ⟨h.ge, h.box.lt⟩
  · exact h.l.lt k e
  · exact h.k.lt k e
theorem NodeAt.keep (h : NodeAt w base S p nd) (hk : Keep F w w') (hF : ∀ k, Blk p nd k → ¬ F k) (hS : ∀ b, S b → b < w.heap.size → S' b ∧ ¬ F b) : NodeAt w' base S' p nd :=
  ⟨h.box.keeps hk (hF p (.inl rfl)), h.ge, OwnL.keepF EntR.stable h.l hk (fun g e => hF g (.inr (.inl e))) hS, by
    obtain ⟨css, h1, h2, h3, h4, h5⟩ := h.k
    exact ⟨css, ownsRow_blk h1 (fun g e => hk.block g (h.k.lt g e).2 (hF g (.inr (.inr e)))), h2, h3, h4, fun i cs x hc hx => h5 i cs x hc hx⟩, h.ne1, h.ne2, h.ne3⟩
theorem NodeAt.of_box (hb : BoxAt w p #[nd.lv, nd.kv]) (hg : base ≤ p) (hl : OwnL EntR 189 2 base S w nd.lv nd.l.length nd.l) (hk : OwnL PtrR 177 1 base (fun _ => True) w nd.kv nd.ks.length nd.ks) (h1 : nd.lv.ownBlock ≠ some p) (h2 : nd.kv.ownBlock ≠ some p)
    (h3 : ∀ g, nd.lv.ownBlock = some g → nd.kv.ownBlock ≠ some g) : NodeAt w base S p nd := ⟨hb, hg, hl, hk, h1, h2, h3⟩
theorem TMem.keep (h : TMem w base S N) (hk : Keep F w w') (hF : ∀ p nd k, N p = some nd → Blk p nd k → ¬ F k) (hS : ∀ b, S b → ¬ F b) : TMem w' base S N :=
  ⟨fun p nd hp => (h.at_ p nd hp).keep hk (fun k hb => hF p nd k hp hb) (fun b hb _ => ⟨hb, hS b hb⟩), h.dis, h.sep, fun b hb => Nat.lt_of_lt_of_le (h.bnd b hb) hk.size⟩
theorem TMem.below (h : TMem w base S N) (hb : Below w.heap.size w w') : TMem w' base S N :=
  h.keep (Keep.of_below (F := fun _ => False) hb) (fun _ _ _ _ _ h => h) (fun _ _ h => h)
theorem TMem.more (h : TMem w base S N) (hS : ∀ b, S b → S' b) (hb : ∀ b, S' b → b < w.heap.size) (hN : ∀ p nd k, N p = some nd → Blk p nd k → ¬ S' k) : TMem w base S' N :=
  ⟨fun p nd hp => (h.at_ p nd hp).keep (Keep.refl (fun _ => False) w) (fun _ _ h => h) (fun b hb _ => ⟨hS b hb, fun h => h⟩), h.dis, hN, hb⟩
theorem TMem.lt (h : TMem w base S N) (hp : N p = some nd) {k : Nat} (hk : Blk p nd k) : base ≤ k ∧ k < w.heap.size := (h.at_ p nd hp).lt hk
/-- One node becomes another one, or comes new. -/
theorem TMem.put (h : TMem w base S N) (hk : Keep F w w') (hF : ∀ q nd k, N q = some nd → q ≠ p → Blk q nd k → ¬ F k) (hS : ∀ b, S b → ¬ F b) (hn : NodeAt w' base S p nd')
    (hb : ∀ k, Blk p nd' k → (∃ nd, N p = some nd ∧ Blk p nd k) ∨ w.heap.size ≤ k) : TMem w' base S (upd N p nd') := by
  refine ⟨fun q nq hq => ?_, fun q r nq nr hq hr hne k h1 h2 => ?_, fun q nq k hq h1 hs => ?_, fun b hb => Nat.lt_of_lt_of_le (h.bnd b hb) hk.size⟩
  · by_cases e : q = p
    · subst e
      rw [upd_same] at hq
      cases hq
      exact hn
    · rw [upd_ne _ _ e] at hq
      exact (h.at_ q nq hq).keep hk (fun k hb => hF q nq k hq e hb) (fun b hb _ => ⟨hb, hS b hb⟩)
  · by_cases eq : q = p
    · subst eq
      rw [upd_same] at hq
      cases hq
      have er : r ≠ q := fun e => hne e.symm
      rw [upd_ne _ _ er] at hr
      rcases hb k h1 with ⟨nd, hnd, h3⟩ | h3
      · exact h.dis q r nd nr hnd hr hne k h3 h2
      · have := (h.lt hr h2).2; omega
    · rw [upd_ne _ _ eq] at hq
      by_cases er : r = p
      · subst er
        rw [upd_same] at hr
        cases hr
        rcases hb k h2 with ⟨nd, hnd, h3⟩ | h3
        · exact h.dis q r nq nd hq hnd hne k h1 h3
        · have := (h.lt hq h1).2; omega
      · rw [upd_ne _ _ er] at hr
        exact h.dis q r nq nr hq hr hne k h1 h2
  · by_cases e : q = p
    · subst e
      rw [upd_same] at hq
      cases hq
      rcases hb k h1 with ⟨nd, hnd, h3⟩ | h3
      · exact h.sep q nd k hnd h3 hs
      · have := h.bnd k hs; omega
    · rw [upd_ne _ _ e] at hq
      exact h.sep q nq k hq h1 hs
/-- Node p's blocks change alone. -/
theorem TMem.put1 (h : TMem w base S N) (hp : N p = some nd) (hk : Keep (Blk p nd) w w') (hn : NodeAt w' base S p nd') (hb : ∀ k, Blk p nd' k → Blk p nd k ∨ w.heap.size ≤ k) : TMem w' base S (upd N p nd') :=
  h.put hk (fun q nq k hq hne h1 h2 => h.dis q p nq nd hq hp hne k h1 h2) (fun b hb h1 => h.sep p nd b hp h1 hb) hn (fun k h1 => (hb k h1).imp (fun h2 => ⟨nd, hp, h2⟩) id)
theorem TMem.add1 (h : TMem w base S N) (hk : Below w.heap.size w w') (hn : NodeAt w' base S p nd') (hb : ∀ k, Blk p nd' k → w.heap.size ≤ k) : TMem w' base S (upd N p nd') :=
  h.put (Keep.of_below (F := fun _ => False) hk) (fun _ _ _ _ _ _ h => h) (fun _ _ h => h) hn (fun k h1 => .inr (hb k h1))
end
end Go.Proofs.Ytpibaahiboajhaa
