/-
  A tree: a key's value put.
-/
import Derived.Test.YtpibaahiboajhaaTre9
set_option linter.unusedSimpArgs false
set_option linter.unusedVariables false
namespace Go.Proofs.Ytpibaahiboajhaa
open Go.RowKit Go.Cib
attribute [local go_sem] cell_set Later.cell Later.frozen Grw.cell Grw.frozen

theorem flatten_set {α : Type} {s : Nat} : ∀ (css : List (List α)) (_ : ∀ cs ∈ css, cs.length = s) (i j : Nat) (u : α), i < css.length → j < s → css.flatten.set (i * s + j) u = (css.set i ((css.getD i []).set j u)).flatten
  | [], _, i, _, _, h, _ => by simp at h
  | c :: css, h, 0, j, u, _, hj => by
    have hc := h c (List.mem_cons_self ..)
    rw [List.flatten_cons, Nat.zero_mul, Nat.zero_add, List.set_append_left _ _ (by omega)]
    simp
  | c :: css, h, i + 1, j, u, hi, hj => by
    have hc := h c (List.mem_cons_self ..)
    rw [List.flatten_cons, List.set_append_right _ _ (by rw [hc, Nat.add_mul]; omega), hc]
    have e : (i + 1) * s + j - s = i * s + j := by rw [Nat.add_mul]; omega
    rw [e, flatten_set css (fun x hx => h x (List.mem_cons_of_mem _ hx)) i j u (by simpa using hi) hj]
    simp
section
variable {base : Nat} {S : Nat → Prop} {w : World} {N : NMap} {p : Nat} {nd : ND}
/-- An entry's value stored. -/
theorem Mod.setE (M : TMem w base S N) (hp : N p = some nd) {i g : Nat} {y : Ent} (hi : nd.l[i]? = some y) (hg : nd.lv.ownBlock = some g) {VA : Option Addr} {vm vc : Nat} {v : List Ver} (hx : EntR S w [.string y.key, .slice VA vm vc] ⟨y.key, v⟩) :
    Mod base S w N (w.setCell ⟨g, i * 2 + 1, none⟩ (.slice VA vm vc)) (upd N p ⟨nd.lv, nd.l.set i ⟨y.key, v⟩, nd.kv, nd.ks⟩) := by
  have hN := M.at_ p nd hp
  have hil : i < nd.l.length := (List.getElem?_eq_some_iff.1 hi).1
  have hk : Keep (fun k => k = g) w (w.setCell ⟨g, i * 2 + 1, none⟩ (.slice VA vm vc)) := setCell_keep w g (i * 2 + 1) _ rfl
  have hk2 : Keep (Blk p nd) w (w.setCell ⟨g, i * 2 + 1, none⟩ (.slice VA vm vc)) := hk.mono (fun k e _ => by subst e; exact .inr (.inl hg))
  have hSg : ∀ b, S b → b ≠ g := fun b hb e => M.sep p nd b hp (.inr (.inl (e ▸ hg))) hb
  have hpg : p ≠ g := fun e => hN.ne1 (e ▸ hg)
  have hbox : BoxAt (w.setCell ⟨g, i * 2 + 1, none⟩ (.slice VA vm vc)) p #[nd.lv, nd.kv] := hN.box.keeps hk hpg
  have hnk : OwnL PtrR 177 1 base (fun _ => True) (w.setCell ⟨g, i * 2 + 1, none⟩ (.slice VA vm vc)) nd.kv nd.ks.length nd.ks := by
    obtain ⟨css, h1, h2, h3, h4, h5⟩ := hN.k
    exact ⟨css, ownsRow_blk h1 (fun g' hg' => hk.block g' (hN.k.lt g' hg').2 (fun e => hN.ne3 g hg (e ▸ hg'))), h2, h3, h4, fun i cs x hc hx => h5 i cs x hc hx⟩
  have hnl : OwnL EntR 189 2 base S (w.setCell ⟨g, i * 2 + 1, none⟩ (.slice VA vm vc)) nd.lv nd.l.length (nd.l.set i ⟨y.key, v⟩) := by
    obtain ⟨css, h1, h2, h3, h4, h5⟩ := hN.l
    have hic : i < css.length := by omega
    obtain ⟨A0, n0, c0, hci, _, _⟩ := h5 i css[i] y (List.getElem?_eq_getElem hic) hi
    have hfl := flatten_set css h4 i 1 (.slice VA vm vc) hic (by omega)
    have hgd : css.getD i [] = css[i] := by simp [List.getD, List.getElem?_eq_getElem hic]
    rw [hgd, hci] at hfl
    refine ⟨css.set i [.string y.key, .slice VA vm vc], ?_, by rw [List.length_set], by rw [List.length_set]; exact h3, ?_, ?_⟩
    · refine ⟨?_, ?_⟩
      · rw [show [Value.string y.key, Value.slice VA vm vc] = ([Value.string y.key, Value.slice A0 n0 c0].set 1 (.slice VA vm vc)) from rfl, ← hfl, List.length_set]; exact h1.1
      · rcases h1.2 with ⟨e, _⟩ | ⟨g', cap, cur, e, hb, hblk, hnc, hcm, hsz, ht⟩
        · rw [e] at hg; cases hg
        · have eg : g' = g := by rw [e] at hg; exact Option.some.inj hg
          subst eg
          refine .inr ⟨g', cap, cur.setIfInBounds (i * 2 + 1) (.slice VA vm vc), e, hb, ?_, hnc, hcm, by simpa using hsz, ?_⟩
          · simp [World.setCell, Array.getElem?_modify, hblk]
          · rw [Array.toList_setIfInBounds, List.take_set, ht, hfl]; rfl
    · intro cs hcs
      rcases List.mem_or_eq_of_mem_set hcs with h | h
      · exact h4 _ h
      · rw [h]; rfl
    · intro j cs x hc hx'
      by_cases hij : i = j
      · subst hij
        rw [List.getElem?_set_self hic] at hc
        rw [List.getElem?_set_self hil] at hx'
        cases hc; cases hx'
        exact EntR.stable _ _ _ _ _ _ hx fun b hb hl => ⟨⟨hb, fun e => M.sep p nd b hp (.inr (.inl e.symm)) hb⟩, hk.block b hl (hSg b hb)⟩
      · rw [List.getElem?_set_ne hij] at hc hx'
        exact EntR.stable _ _ _ _ _ _ (h5 j cs x hc hx') fun b hb hl => ⟨hb, hk.block b hl (hSg b hb.1)⟩
  have hn : NodeAt (w.setCell ⟨g, i * 2 + 1, none⟩ (.slice VA vm vc)) base S p ⟨nd.lv, nd.l.set i ⟨y.key, v⟩, nd.kv, nd.ks⟩ := ⟨hbox, hN.ge, by simpa using hnl, hnk, hN.ne1, hN.ne2, hN.ne3⟩
  have hb : ∀ k, Blk p ⟨nd.lv, nd.l.set i ⟨y.key, v⟩, nd.kv, nd.ks⟩ k → Blk p nd k ∨ w.heap.size ≤ k := fun k h => .inl h
  refine ⟨M.put1 hp hk2 hn hb, hk2.mono (fun k h _ => ⟨p, nd, hp, h⟩), fun k hk => ?_⟩
  rcases hk.upd with h | h
  · exact .inl h
  · exact .inl ⟨p, nd, hp, h⟩
end

/-- A tree in memory: its box, its nodes. -/
structure TreeI (w : World) (base : Nat) (S : Nat → Prop) (t : Nat) (f : List Ent) (N : NMap) (D root : Nat) (ns : List Nat) : Prop where
  box : BoxAt w t #[.pointer (some ⟨root, 0, none⟩), .int .i64 (f.length : Int)]
  mem : TMem w base S N
  tree : TreeOf N D root f ns
  nod : ns.Nodup
  rises : Rises f
  tN : ¬ OwnN N t
  tS : ¬ S t
  ge : base ≤ t
/-- The same; F are its own blocks. -/
def TreeM (w : World) (base : Nat) (S : Nat → Prop) (t : Nat) (f : List Ent) (F : Nat → Prop) : Prop := ∃ N D root ns, TreeI w base S t f N D root ns ∧ F = fun k => k = t ∨ OwnN N k
section
variable {w w' : World} {base t : Nat} {S S' F G : Nat → Prop} {f : List Ent} {N : NMap} {D root : Nat} {ns : List Nat}
theorem TreeM.rises (h : TreeM w base S t f F) : Rises f := by obtain ⟨N, D, root, ns, h, _⟩ := h; exact h.rises
theorem TreeM.lt (h : TreeM w base S t f F) {k : Nat} (hk : F k) : base ≤ k ∧ k < w.heap.size := by
  obtain ⟨N, D, root, ns, h, rfl⟩ := h
  rcases hk with rfl | ⟨p, nd, h1, h2⟩
  · exact ⟨h.ge, h.box.lt⟩
  · exact h.mem.lt h1 h2
theorem TreeM.sep (h : TreeM w base S t f F) {k : Nat} (hk : F k) : ¬ S k := by
  obtain ⟨N, D, root, ns, h, rfl⟩ := h
  rcases hk with rfl | ⟨p, nd, h1, h2⟩
  · exact h.tS
  · exact h.mem.sep p nd k h1 h2
theorem TreeM.keep (h : TreeM w base S t f F) (hk : Keep G w w') (hF : ∀ k, F k → ¬ G k) (hS : ∀ b, S b → ¬ G b) : TreeM w' base S t f F := by
  obtain ⟨N, D, root, ns, h, rfl⟩ := h
  exact ⟨N, D, root, ns, ⟨h.box.keeps hk (hF t (.inl rfl)), h.mem.keep hk (fun p nd k h1 h2 => hF k (.inr ⟨p, nd, h1, h2⟩)) hS, h.tree, h.nod, h.rises, h.tN, h.tS, h.ge⟩, rfl⟩
theorem TreeM.below (h : TreeM w base S t f F) (hb : Below w.heap.size w w') : TreeM w' base S t f F := h.keep (Keep.of_below (F := fun _ => False) hb) (fun _ _ h => h) (fun _ _ h => h)
theorem TreeM.more (h : TreeM w base S t f F) (hS : ∀ b, S b → S' b) (hb : ∀ b, S' b → b < w.heap.size) (hN : ∀ k, F k → ¬ S' k) : TreeM w base S' t f F := by
  obtain ⟨N, D, root, ns, h, rfl⟩ := h
  exact ⟨N, D, root, ns, ⟨h.box, h.mem.more hS hb (fun p nd k h1 h2 => hN k (.inr ⟨p, nd, h1, h2⟩)), h.tree, h.nod, h.rises, h.tN, hN t (.inl rfl), h.ge⟩, rfl⟩
end
theorem tnone_is (w : World) {t : Nat} {a : Addr} {nv : Value} (X : BoxAt w t #[.pointer (some a), nv]) :
    Calls Try.prog 111 #[.pointer (some ⟨t, 0, none⟩)] w fun e w' => e = .returned (.bool false) ∧ w' = w := by
  have p0 := X.cell 0
  go_enter Try.func111, Try.ntmps111
  go_wp2_with fail
  go_ret
  exact ⟨rfl, rfl⟩
end Go.Proofs.Ytpibaahiboajhaa
