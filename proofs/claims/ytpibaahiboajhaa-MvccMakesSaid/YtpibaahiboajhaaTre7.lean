/-
  A tree in memory: rows that get one more; a node's field stored.
-/
import Derived.Test.YtpibaahiboajhaaTre4
import Derived.Test.YtpibaahiboajhaaTre5
import Derived.Test.YtpibaahiboajhaaIns2
set_option linter.unusedSimpArgs false
set_option linter.unusedVariables false
namespace Go.Proofs.Ytpibaahiboajhaa
open Go.RowKit Go.Cib
attribute [local go_sem] cell_set Later.cell Later.frozen Grw.cell Grw.frozen

theorem flatten_take {α : Type} {s : Nat} : ∀ (css : List (List α)) (_ : ∀ cs ∈ css, cs.length = s) (i : Nat), i ≤ css.length → css.flatten.take (i * s) = (css.take i).flatten
  | css, _, 0, _ => by simp
  | c :: css, h, i + 1, hi => by
    have hc := h c (List.mem_cons_self ..)
    rw [List.flatten_cons, List.take_succ_cons, List.flatten_cons, ← flatten_take css (fun x hx => h x (List.mem_cons_of_mem _ hx)) i (by simpa using hi), List.take_append, hc, List.take_of_length_le (by rw [hc, Nat.add_mul]; omega)]
    congr 2
    rw [Nat.add_mul]; omega
  | [], _, i + 1, hi => by simp at hi
theorem flatten_drop {α : Type} {s : Nat} (css : List (List α)) (h : ∀ cs ∈ css, cs.length = s) (i : Nat) (hi : i ≤ css.length) : css.flatten.drop (i * s) = (css.drop i).flatten := by
  have h1 := flatten_take css h i hi
  have h2 : css.flatten = (css.take i).flatten ++ (css.drop i).flatten := by rw [← List.flatten_append, List.take_append_drop]
  have hl : (css.take i).flatten.length = i * s := by
    rw [← h1, List.length_take]
    have : css.flatten.length = css.length * s := by
      clear h1 h2 hi
      induction css with
      | nil => simp
      | cons c css ih => rw [List.flatten_cons, List.length_append, h c (List.mem_cons_self ..), ih (fun x hx => h x (List.mem_cons_of_mem _ hx)), List.length_cons, Nat.add_mul]; omega
    rw [this]
    exact Nat.min_eq_left (Nat.mul_le_mul_right _ hi)
  rw [h2, ← hl, List.drop_left]
theorem OwnL.basem {X : Type} {R : (Nat → Prop) → World → List Value → X → Prop} {E : TypeId} {s base base' n : Nat} {S : Nat → Prop} {w : World} {v : Value} {xs : List X} (h : OwnL R E s base S w v n xs) (hb : base' ≤ base) : OwnL R E s base' S w v n xs := by
  obtain ⟨css, h1, h2⟩ := h
  refine ⟨css, ⟨h1.1, h1.2.imp id ?_⟩, h2⟩
  rintro ⟨g, cap, cur, e1, e2, e3⟩
  exact ⟨g, cap, cur, e1, Nat.le_trans hb e2, e3⟩
theorem OwnL.weakS {X : Type} {R : (Nat → Prop) → World → List Value → X → Prop} (hR : Stable R) {E : TypeId} {s base n : Nat} {S S' : Nat → Prop} {w : World} {v : Value} {xs : List X} (h : OwnL R E s base S w v n xs) (hS : ∀ b, S b → S' b) : OwnL R E s base S' w v n xs := by
  obtain ⟨css, h1, h2, h3, h4, h5⟩ := h
  exact ⟨css, h1, h2, h3, h4, fun i cs x hc hx => hR _ _ _ _ _ _ (h5 i cs x hc hx) fun b hb _ => ⟨⟨hS b hb.1, hb.2⟩, rfl⟩⟩
/-- One more among a row's elements. -/
theorem OwnL.ins {X : Type} {R : (Nat → Prop) → World → List Value → X → Prop} (hR : Stable R) {E : TypeId} {s base n i : Nat} {S : Nat → Prop} {w w' : World} {v v' : Value} {l : List X} {css : List (List Value)} {ys : List Value} {x : X}
    (h2 : l.length = n) (h3 : css.length = n) (h4 : ∀ cs ∈ css, cs.length = s) (h5 : ∀ (i : Nat) (cs : List Value) (x : X), css[i]? = some cs → l[i]? = some x → R (Go.Cib.Rest S v) w cs x) (hi : i ≤ n)
    (hys : ys.length = s) (hx : R (Go.Cib.Rest S v) w ys x) (hr : w'.ownsRow base E s v' (n + 1) (css.flatten.take (i * s) ++ (ys ++ css.flatten.drop (i * s)))) (hg : w.grownBy w' v.ownBlock) (hat : v'.ownBlock = v.ownBlock ∨ ∃ g, v'.ownBlock = some g ∧ w.heap.size ≤ g) :
    OwnL R E s base S w' v' (n + 1) (l.take i ++ x :: l.drop i) := by
  rw [flatten_take css h4 i (by omega), flatten_drop css h4 i (by omega)] at hr
  have hst : ∀ (b : Nat), Go.Cib.Rest S v b → b < w.heap.size → Go.Cib.Rest S v' b ∧ w'.heap[b]? = w.heap[b]? := fun b hS hlt => by
    refine ⟨⟨hS.1, ?_⟩, hg.block b hlt hS.2⟩
    rcases hat with e | ⟨g, e, hgl⟩
    · rw [e]; exact hS.2
    · rw [e]; intro h; injection h with h; omega
  refine ⟨css.take i ++ ys :: css.drop i, by simpa using hr, by simp only [List.length_append, List.length_cons, List.length_take, List.length_drop]; omega, by simp only [List.length_append, List.length_cons, List.length_take, List.length_drop]; omega, ?_, ?_⟩
  · intro cs hcs
    rcases List.mem_append.1 hcs with hcs | hcs
    · exact h4 _ (List.mem_of_mem_take hcs)
    · rcases List.mem_cons.1 hcs with rfl | hcs
      · exact hys
      · exact h4 _ (List.mem_of_mem_drop hcs)
  · intro j cs y hc hy
    have l1 : (css.take i).length = i := by rw [List.length_take]; omega
    have l2 : (l.take i).length = i := by rw [List.length_take]; omega
    rw [List.getElem?_append] at hc hy
    rw [l1] at hc; rw [l2] at hy
    split at hc
    · rename_i hlt
      rw [if_pos hlt, List.getElem?_take, if_pos hlt] at hy
      rw [List.getElem?_take, if_pos hlt] at hc
      exact hR _ _ _ _ _ _ (h5 j cs y hc hy) hst
    · rename_i hlt
      rw [if_neg hlt] at hy
      cases hji : j - i with
      | zero =>
        rw [hji] at hc hy
        simp only [List.getElem?_cons_zero, Option.some.injEq] at hc hy
        subst hc; subst hy
        exact hR _ _ _ _ _ _ hx hst
      | succ q =>
        rw [hji, List.getElem?_cons_succ, List.getElem?_drop] at hc hy
        exact hR _ _ _ _ _ _ (h5 _ cs y hc hy) hst
theorem OwnL.one1 {X : Type} {R : (Nat → Prop) → World → List Value → X → Prop} (hone : ∀ S w cs x, R S w cs x → ∀ u ∈ cs, u.oneCell' = true) {l : List X} {css : List (List Value)} {S : Nat → Prop} {w : World} {n : Nat} (h2 : l.length = n) (h3 : css.length = n)
    (h5 : ∀ (i : Nat) (cs : List Value) (x : X), css[i]? = some cs → l[i]? = some x → R S w cs x) : ∀ u ∈ css.flatten, u.oneCell' = true := by
  intro u hu
  obtain ⟨cs, hcs, huc⟩ := List.mem_flatten.1 hu
  obtain ⟨i, hi, rfl⟩ := List.mem_iff_getElem.1 hcs
  have hl : i < l.length := by omega
  exact hone _ _ _ _ (h5 i _ l[i] (List.getElem?_eq_getElem hi) (List.getElem?_eq_getElem hl)) u huc
theorem insE_own {w : World} {base n i vb : Nat} {v : Value} {l : List Ent} {S : Nat → Prop} {ys : List Value} {x : Ent} (h : Hid (OwnL EntR 189 2 base S w v n l)) (hbase : base ≤ w.heap.size) (hb : BoxAt w vb ys.toArray) (hx : Hid (EntR (Go.Cib.Rest S v) w ys x)) (hys : ys.length = 2) (hne : v.ownBlock ≠ some vb) (hi : i ≤ n) (hn : n ≤ 1000) :
    Calls Try.prog 137 #[v, .int .i64 (i : Int), .slice (some ⟨vb, 0, none⟩) 1 1] w fun e w' => ∃ v', e = .returned v' ∧ OwnL EntR 189 2 base S w' v' (n + 1) (l.take i ++ x :: l.drop i) ∧ w.grownBy w' v.ownBlock ∧ (v'.ownBlock = v.ownBlock ∨ ∃ g, v'.ownBlock = some g ∧ w.heap.size ≤ g) := by
  obtain ⟨css, h1, h2, h3, h4, h5⟩ := h.out
  refine (insE_any (Lib.hid h1) hbase hb hys (EntR.one _ _ _ _ hx.out) (OwnL.one1 EntR.one h2 h3 h5) hne hi hn).mono ?_
  rintro e w' ⟨v', rfl, hr, hg, hat⟩
  exact ⟨v', rfl, OwnL.ins EntR.stable h2 h3 h4 h5 hi hys hx.out hr hg hat, hg, hat⟩
theorem insP_own {w : World} {base n i vb : Nat} {v : Value} {l : List Nat} {S : Nat → Prop} {ys : List Value} {x : Nat} (h : Hid (OwnL PtrR 177 1 base S w v n l)) (hbase : base ≤ w.heap.size) (hb : BoxAt w vb ys.toArray) (hx : Hid (PtrR (Go.Cib.Rest S v) w ys x)) (hys : ys.length = 1) (hne : v.ownBlock ≠ some vb) (hi : i ≤ n) (hn : n ≤ 1000) :
    Calls Try.prog 138 #[v, .int .i64 (i : Int), .slice (some ⟨vb, 0, none⟩) 1 1] w fun e w' => ∃ v', e = .returned v' ∧ OwnL PtrR 177 1 base S w' v' (n + 1) (l.take i ++ x :: l.drop i) ∧ w.grownBy w' v.ownBlock ∧ (v'.ownBlock = v.ownBlock ∨ ∃ g, v'.ownBlock = some g ∧ w.heap.size ≤ g) := by
  obtain ⟨css, h1, h2, h3, h4, h5⟩ := h.out
  refine (insP_any (Lib.hid h1) hbase hb hys (PtrR.one _ _ _ _ hx.out) (OwnL.one1 PtrR.one h2 h3 h5) hne hi hn).mono ?_
  rintro e w' ⟨v', rfl, hr, hg, hat⟩
  rw [← Nat.mul_one i] at hr
  exact ⟨v', rfl, OwnL.ins PtrR.stable h2 h3 h4 h5 hi hys hx.out hr hg hat, hg, hat⟩

/-! ### A node's field stored -/
def OwnN (N : NMap) (k : Nat) : Prop := ∃ p nd, N p = some nd ∧ Blk p nd k
/-- The nodes N have become N'. -/
structure Mod (base : Nat) (S : Nat → Prop) (w : World) (N : NMap) (w' : World) (N' : NMap) : Prop where
  mem : TMem w' base S N'
  keep : Keep (OwnN N) w w'
  own : ∀ k, OwnN N' k → OwnN N k ∨ w.heap.size ≤ k
section
variable {base : Nat} {S : Nat → Prop} {w w1 w2 : World} {N N1 N2 : NMap} {p : Nat} {nd : ND}
theorem Mod.refl (h : TMem w base S N) : Mod base S w N w N := ⟨h, Keep.refl _ _, fun _ h => .inl h⟩
theorem Mod.trans (h : Mod base S w N w1 N1) (h2 : Mod base S w1 N1 w2 N2) : Mod base S w N w2 N2 :=
  ⟨h2.mem, h.keep.trans h2.keep (fun k hk hl => (h.own k hk).resolve_right (by omega)), fun k hk => (h2.own k hk).elim (h.own k) (fun e => .inr (Nat.le_trans h.keep.size e))⟩
theorem Mod.below (h : Mod base S w N w1 N1) (hb : Below w1.heap.size w1 w2) : Mod base S w N w2 N1 :=
  ⟨h.mem.below hb, h.keep.trans (Keep.of_below (F := fun _ => False) hb) (fun _ h => h.elim), h.own⟩
theorem OwnN.upd {nd' : ND} {k : Nat} (h : OwnN (upd N p nd') k) : OwnN N k ∨ Blk p nd' k := by
  obtain ⟨q, nq, hq, hk⟩ := h
  by_cases e : q = p
  · subst e
    rw [upd_same] at hq
    cases hq
    exact .inr hk
  · rw [upd_ne _ _ e] at hq
    exact .inl ⟨q, nq, hq, hk⟩
theorem setCell_keep {F : Nat → Prop} (w : World) (b o : Nat) (v : Value) (hF : F b) : Keep F w (w.setCell ⟨b, o, none⟩ v) := (Keep.refl F w).setCell (fun _ => hF) v
/-- A node's entries stored. -/
theorem Mod.setL (M : TMem w base S N) (hp : N p = some nd) (hk : Keep (fun k => nd.lv.ownBlock = some k) w w1) {v' : Value} {l' : List Ent} (ho : OwnL EntR 189 2 base S w1 v' l'.length l') (hat : v'.ownBlock = nd.lv.ownBlock ∨ ∀ g, v'.ownBlock = some g → w.heap.size ≤ g) :
    Mod base S w N (w1.setCell ⟨p, 0, none⟩ v') (upd N p ⟨v', l', nd.kv, nd.ks⟩) := by
  have hN := M.at_ p nd hp
  have hgl : ∀ g, v'.ownBlock = some g → nd.lv.ownBlock = some g ∨ w.heap.size ≤ g := fun g e => hat.elim (fun e2 => .inl (e2 ▸ e)) (fun h => .inr (h g e))
  have hpv : v'.ownBlock ≠ some p := fun e => by
    rcases hgl p e with e | e
    · exact hN.ne1 e
    · have := hN.box.lt; omega
  have hk2 : Keep (Blk p nd) w (w1.setCell ⟨p, 0, none⟩ v') := ((hk.mono (fun k h _ => .inr (.inl h))).trans (setCell_keep w1 p 0 v' rfl : Keep (fun k => k = p) _ _) (fun k e _ => .inl e))
  have hbox : BoxAt (w1.setCell ⟨p, 0, none⟩ v') p #[v', nd.kv] := by
    have := (hN.box.keeps hk (fun e => hN.ne1 e)).set 0 v'
    simpa using this
  have hkk : Keep (fun k => k = p ∨ nd.lv.ownBlock = some k) w (w1.setCell ⟨p, 0, none⟩ v') := ((hk.mono (fun k h _ => .inr h)).trans (setCell_keep w1 p 0 v' rfl : Keep (fun k => k = p) _ _) (fun k e _ => .inl e))
  have hnk : OwnL PtrR 177 1 base (fun _ => True) (w1.setCell ⟨p, 0, none⟩ v') nd.kv nd.ks.length nd.ks := by
    obtain ⟨css, h1, h2, h3, h4, h5⟩ := hN.k
    refine ⟨css, ownsRow_blk h1 (fun g hg => hkk.block g (hN.k.lt g hg).2 ?_), h2, h3, h4, fun i cs x hc hx => h5 i cs x hc hx⟩
    rintro (e | e)
    · exact hN.ne2 (e ▸ hg)
    · exact hN.ne3 g e hg
  have hnl : OwnL EntR 189 2 base S (w1.setCell ⟨p, 0, none⟩ v') v' l'.length l' :=
    OwnL.keepF EntR.stable ho (setCell_keep w1 p 0 v' rfl : Keep (fun k => k = p) _ _) (fun g hg e => hpv (e ▸ hg)) (fun b hb _ => ⟨hb, fun e => M.sep p nd p hp (.inl rfl) (e ▸ hb)⟩)
  have hn : NodeAt (w1.setCell ⟨p, 0, none⟩ v') base S p ⟨v', l', nd.kv, nd.ks⟩ := ⟨hbox, hN.ge, hnl, hnk, hpv, hN.ne2, fun g hg => by
    rcases hgl g hg with e | e
    · exact hN.ne3 g e
    · intro e2; have := (hN.k.lt g e2).2; omega⟩
  have hb : ∀ k, Blk p ⟨v', l', nd.kv, nd.ks⟩ k → Blk p nd k ∨ w.heap.size ≤ k := by
    rintro k (e | e | e)
    · exact .inl (.inl e)
    · exact (hgl k e).imp (fun e => .inr (.inl e)) id
    · exact .inl (.inr (.inr e))
  refine ⟨M.put1 hp hk2 hn hb, hk2.mono (fun k h _ => ⟨p, nd, hp, h⟩), fun k hk => ?_⟩
  rcases hk.upd with h | h
  · exact .inl h
  · exact (hb k h).imp (fun h => ⟨p, nd, hp, h⟩) id
/-- A node's kids stored. -/
theorem Mod.setK (M : TMem w base S N) (hp : N p = some nd) (hk : Keep (fun k => nd.kv.ownBlock = some k) w w1) {v' : Value} {ks' : List Nat} (ho : OwnL PtrR 177 1 base (fun _ => True) w1 v' ks'.length ks') (hat : v'.ownBlock = nd.kv.ownBlock ∨ ∀ g, v'.ownBlock = some g → w.heap.size ≤ g) :
    Mod base S w N (w1.setCell ⟨p, 1, none⟩ v') (upd N p ⟨nd.lv, nd.l, v', ks'⟩) := by
  have hN := M.at_ p nd hp
  have hgl : ∀ g, v'.ownBlock = some g → nd.kv.ownBlock = some g ∨ w.heap.size ≤ g := fun g e => hat.elim (fun e2 => .inl (e2 ▸ e)) (fun h => .inr (h g e))
  have hpv : v'.ownBlock ≠ some p := fun e => by
    rcases hgl p e with e | e
    · exact hN.ne2 e
    · have := hN.box.lt; omega
  have hk2 : Keep (Blk p nd) w (w1.setCell ⟨p, 1, none⟩ v') := ((hk.mono (fun k h _ => .inr (.inr h))).trans (setCell_keep w1 p 1 v' rfl : Keep (fun k => k = p) _ _) (fun k e _ => .inl e))
  have hbox : BoxAt (w1.setCell ⟨p, 1, none⟩ v') p #[nd.lv, v'] := by
    have := (hN.box.keeps hk (fun e => hN.ne2 e)).set 1 v'
    simpa using this
  have hkk : Keep (fun k => k = p ∨ nd.kv.ownBlock = some k) w (w1.setCell ⟨p, 1, none⟩ v') := ((hk.mono (fun k h _ => .inr h)).trans (setCell_keep w1 p 1 v' rfl : Keep (fun k => k = p) _ _) (fun k e _ => .inl e))
  have hnk : OwnL PtrR 177 1 base (fun _ => True) (w1.setCell ⟨p, 1, none⟩ v') v' ks'.length ks' := by
    obtain ⟨css, h1, h2, h3, h4, h5⟩ := ho
    exact ⟨css, ownsRow_blk h1 (fun g hg => (setCell_keep w1 p 1 v' rfl : Keep (fun k => k = p) _ _).block g (OwnL.lt ⟨css, h1, h2, h3, h4, h5⟩ g hg).2 (fun e => hpv (e ▸ hg))), h2, h3, h4, fun i cs x hc hx => h5 i cs x hc hx⟩
  have hnl : OwnL EntR 189 2 base S (w1.setCell ⟨p, 1, none⟩ v') nd.lv nd.l.length nd.l :=
    OwnL.keepF EntR.stable hN.l hkk (fun g hg e => e.elim (fun e => hN.ne1 (e ▸ hg)) (fun e => hN.ne3 g hg e)) (fun b hb _ => ⟨hb, fun e => e.elim (fun e => M.sep p nd p hp (.inl rfl) (e ▸ hb)) (fun e => M.sep p nd b hp (.inr (.inr e)) hb)⟩)
  have hn : NodeAt (w1.setCell ⟨p, 1, none⟩ v') base S p ⟨nd.lv, nd.l, v', ks'⟩ := ⟨hbox, hN.ge, hnl, hnk, hN.ne1, hpv, fun g hg e2 => by
    rcases hgl g e2 with e | e
    · exact hN.ne3 g hg e
    · have := (hN.l.lt g hg).2; omega⟩
  have hb : ∀ k, Blk p ⟨nd.lv, nd.l, v', ks'⟩ k → Blk p nd k ∨ w.heap.size ≤ k := by
    rintro k (e | e | e)
    · exact .inl (.inl e)
    · exact .inl (.inr (.inl e))
    · exact (hgl k e).imp (fun e => .inr (.inr e)) id
  refine ⟨M.put1 hp hk2 hn hb, hk2.mono (fun k h _ => ⟨p, nd, hp, h⟩), fun k hk => ?_⟩
  rcases hk.upd with h | h
  · exact .inl h
  · exact (hb k h).imp (fun h => ⟨p, nd, hp, h⟩) id
/-- A node comes new. -/
theorem Mod.new (M : TMem w base S N) (hbase : base ≤ w.heap.size) (hb : Below w.heap.size w w1) {v1 v2 : Value} {l : List Ent} {ks : List Nat} (hl : OwnL EntR 189 2 w.heap.size S w1 v1 l.length l) (hk : OwnL PtrR 177 1 w.heap.size (fun _ => True) w1 v2 ks.length ks)
    (hne : ∀ g, v1.ownBlock = some g → v2.ownBlock ≠ some g) (t : TypeId) :
    Mod base S w N (w1.alloc (.cells #[v1, v2] t)) (upd N w1.heap.size ⟨v1, l, v2, ks⟩) := by
  have hal : Below w1.heap.size w1 (w1.alloc (.cells #[v1, v2] t)) := (Below.refl _ _).alloc (Nat.le_refl _) _
  have hb2 : Below w.heap.size w (w1.alloc (.cells #[v1, v2] t)) := hb.trans (hal.mono hb.size)
  have hn : NodeAt (w1.alloc (.cells #[v1, v2] t)) base S w1.heap.size ⟨v1, l, v2, ks⟩ :=
    ⟨BoxAt.new w1 _ _, Nat.le_trans hbase hb.size, OwnL.basem (hl.keep EntR.stable hal) hbase, OwnL.basem (hk.keep PtrR.stable hal) hbase, fun e => by have := (hl.lt _ e).2; omega, fun e => by have := (hk.lt _ e).2; omega, hne⟩
  have hblk : ∀ k, Blk w1.heap.size ⟨v1, l, v2, ks⟩ k → w.heap.size ≤ k := by
    rintro k (rfl | e | e)
    · exact hb.size
    · exact (hl.lt k e).1
    · exact (hk.lt k e).1
  refine ⟨M.add1 hb2 hn hblk, Keep.of_below hb2, fun k hk => ?_⟩
  rcases hk.upd with h | h
  · exact .inl h
  · exact .inr (hblk k h)
end
end Go.Proofs.Ytpibaahiboajhaa
