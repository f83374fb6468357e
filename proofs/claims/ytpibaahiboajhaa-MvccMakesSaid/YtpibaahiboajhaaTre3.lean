/-
  Trees, plainly: what lies below a node; trees with a hole; a key put among others.
-/
import Derived.Test.YtpibaahiboajhaaTre2
set_option linter.unusedSimpArgs false
set_option linter.unusedVariables false
namespace Go.Proofs.Ytpibaahiboajhaa
open Go.RowKit Go.Cib
attribute [local go_sem] cell_set Later.cell Later.frozen Grw.cell Grw.frozen

abbrev KLt (a b : ByteArray) : Prop := Op.bytesLess a.toList b.toList = true
def Rises (f : List Ent) : Prop := f.Pairwise fun x y => KLt x.key y.key

/-! ### What lies below a node: its kids' entries, with its own between them -/
def weave : List (List Ent) → List Ent → List Ent
  | q :: ps, e :: l => q ++ e :: weave ps l
  | q :: _, [] => q
  | [], _ => []
def wl : List (List Ent) → List Ent → List Ent
  | q :: ps, e :: l => q ++ e :: wl ps l
  | _, _ => []
def wr : List Ent → List (List Ent) → List Ent
  | e :: l, q :: ps => e :: (q ++ wr l ps)
  | _, _ => []
theorem weave_wr : ∀ (q : List Ent) (B : List (List Ent)) (l : List Ent), B.length = l.length → weave (q :: B) l = q ++ wr l B
  | q, [], [], _ => by simp [weave, wr]
  | q, b :: B, e :: l, h => by rw [weave, wr, weave_wr b B l (by simpa using h)]
theorem weave_split : ∀ (A : List (List Ent)) (l1 : List Ent) (B : List (List Ent)) (l2 : List Ent), A.length = l1.length → weave (A ++ B) (l1 ++ l2) = wl A l1 ++ weave B l2
  | [], [], _, _, _ => by simp [wl]
  | a :: A, e :: l1, B, l2, h => by
    rw [List.cons_append, List.cons_append, weave, wl, weave_split A l1 B l2 (by simpa using h), List.append_assoc]; rfl
theorem wl_app : ∀ (A : List (List Ent)) (l1 : List Ent) (B : List (List Ent)) (l2 : List Ent), A.length = l1.length → wl (A ++ B) (l1 ++ l2) = wl A l1 ++ wl B l2
  | [], [], _, _, _ => by simp [wl]
  | a :: A, e :: l1, B, l2, h => by
    rw [List.cons_append, List.cons_append, wl, wl, wl_app A l1 B l2 (by simpa using h), List.append_assoc]; rfl
theorem weave_at (A B : List (List Ent)) (q : List Ent) (l : List Ent) {i : Nat} (hi : i ≤ l.length) (hA : A.length = i) (hB : B.length + i = l.length) :
    weave (A ++ q :: B) l = wl A (l.take i) ++ q ++ wr (l.drop i) B := by
  have h := weave_split A (l.take i) (q :: B) (l.drop i) (by rw [List.length_take, hA]; omega)
  rw [List.take_append_drop] at h
  rw [h, weave_wr q B _ (by rw [List.length_drop]; omega), List.append_assoc]

/-- Kids and what lies below them. -/
def KidsOf (T : Nat → List Ent → List Nat → Prop) : List Nat → List (List Ent × List Nat) → Prop
  | [], [] => True
  | k :: ks, q :: ps => T k q.1 q.2 ∧ KidsOf T ks ps
  | _, _ => False
section
variable {T T' : Nat → List Ent → List Nat → Prop}
theorem KidsOf.len : ∀ {ks : List Nat} {ps : List (List Ent × List Nat)}, KidsOf T ks ps → ps.length = ks.length
  | [], [], _ => rfl
  | _ :: ks, _ :: ps, h => by rw [List.length_cons, List.length_cons, KidsOf.len h.2]
theorem KidsOf.split : ∀ {a b : List Nat} {ps : List (List Ent × List Nat)}, KidsOf T (a ++ b) ps → ∃ p1 p2, ps = p1 ++ p2 ∧ KidsOf T a p1 ∧ KidsOf T b p2
  | [], b, ps, h => ⟨[], ps, rfl, trivial, h⟩
  | k :: a, b, [], h => h.elim
  | k :: a, b, q :: ps, h => by
    obtain ⟨p1, p2, rfl, h1, h2⟩ := KidsOf.split h.2
    exact ⟨q :: p1, p2, rfl, ⟨h.1, h1⟩, h2⟩
theorem KidsOf.app : ∀ {a b : List Nat} {p1 p2 : List (List Ent × List Nat)}, KidsOf T a p1 → KidsOf T b p2 → KidsOf T (a ++ b) (p1 ++ p2)
  | [], _, [], _, _, h2 => h2
  | [], _, _ :: _, _, h1, _ => h1.elim
  | _ :: _, _, [], _, h1, _ => h1.elim
  | _ :: _, _, _ :: _, _, h1, h2 => ⟨h1.1, KidsOf.app h1.2 h2⟩
theorem KidsOf.mono : ∀ {ks : List Nat} {ps : List (List Ent × List Nat)}, KidsOf T ks ps → (∀ k q, q ∈ ps → T k q.1 q.2 → T' k q.1 q.2) → KidsOf T' ks ps
  | [], [], _, _ => trivial
  | _ :: _, _ :: _, h, hm => ⟨hm _ _ (List.mem_cons_self ..) h.1, KidsOf.mono h.2 fun k q hq => hm k q (List.mem_cons_of_mem _ hq)⟩
theorem KidsOf.mem : ∀ {ks : List Nat} {ps : List (List Ent × List Nat)}, KidsOf T ks ps → ∀ q ∈ ps, ∃ k, T k q.1 q.2
  | [], [], _, q, hq => by cases hq
  | k :: _, _ :: _, h, q, hq => by
    rcases List.mem_cons.1 hq with rfl | hq
    · exact ⟨k, h.1⟩
    · exact KidsOf.mem h.2 q hq
end
abbrev ents (ps : List (List Ent × List Nat)) : List (List Ent) := ps.map (·.1)
abbrev nods (ps : List (List Ent × List Nat)) : List Nat := (ps.map (·.2)).flatten
theorem mem_nods {ps : List (List Ent × List Nat)} {q : List Ent × List Nat} (hq : q ∈ ps) {k : Nat} (hk : k ∈ q.2) : k ∈ nods ps := List.mem_flatten.2 ⟨q.2, List.mem_map.2 ⟨q, hq, rfl⟩, hk⟩
theorem nods_app (a b : List (List Ent × List Nat)) : nods (a ++ b) = nods a ++ nods b := by simp [nods]
theorem nods_cons (q : List Ent × List Nat) (b : List (List Ent × List Nat)) : nods (q :: b) = q.2 ++ nods b := by simp [nods]

/-- Node p, of depth d, has f below it, in the nodes ns. -/
def TreeOf (N : NMap) : Nat → Nat → List Ent → List Nat → Prop
  | 0, p, f, ns => ∃ nd, N p = some nd ∧ nd.ks = [] ∧ nd.l.length ≤ 5 ∧ f = nd.l ∧ ns = [p]
  | d + 1, p, f, ns => ∃ nd ps, N p = some nd ∧ nd.l.length ≤ 5 ∧ nd.ks.length = nd.l.length + 1 ∧ KidsOf (TreeOf N d) nd.ks ps ∧ f = weave (ents ps) nd.l ∧ ns = p :: nods ps
section
variable {N N' : NMap} {d p : Nat} {f : List Ent} {ns : List Nat} {nd : ND}
theorem TreeOf.root : ∀ {d p : Nat} {f : List Ent} {ns : List Nat}, TreeOf N d p f ns → p ∈ ns
  | 0, _, _, _, ⟨_, _, _, _, _, h⟩ => by rw [h]; exact List.mem_singleton.2 rfl
  | _ + 1, _, _, _, ⟨_, _, _, _, _, _, _, h⟩ => by rw [h]; exact List.mem_cons_self ..
theorem TreeOf.node : ∀ {d p : Nat} {f : List Ent} {ns : List Nat}, TreeOf N d p f ns → ∃ nd, N p = some nd ∧ nd.l.length ≤ 5 ∧ nd.ks.length ≤ 6
  | 0, _, _, _, ⟨nd, h, h1, h2, _⟩ => ⟨nd, h, h2, by rw [h1]; exact Nat.zero_le _⟩
  | _ + 1, _, _, _, ⟨nd, _, h, h1, h2, _⟩ => ⟨nd, h, h1, by omega⟩
theorem TreeOf.congr : ∀ {d p : Nat} {f : List Ent} {ns : List Nat}, TreeOf N d p f ns → (∀ q ∈ ns, N' q = N q) → TreeOf N' d p f ns
  | 0, _, _, _, ⟨nd, h1, h2, h3, h4, h5⟩, hq => ⟨nd, (hq _ (by rw [h5]; exact List.mem_singleton.2 rfl)).trans h1, h2, h3, h4, h5⟩
  | d + 1, _, _, _, ⟨nd, ps, h1, h2, h3, h4, h5, h6⟩, hq =>
    ⟨nd, ps, (hq _ (by rw [h6]; exact List.mem_cons_self ..)).trans h1, h2, h3, h4.mono fun _ q hm hT => hT.congr fun k hk => hq k (by rw [h6]; exact List.mem_cons_of_mem _ (mem_nods hm hk)), h5, h6⟩
theorem TreeOf.some : ∀ {d p : Nat} {f : List Ent} {ns : List Nat}, TreeOf N d p f ns → ∀ q ∈ ns, ∃ nd, N q = some nd
  | 0, _, _, _, ⟨nd, h1, _, _, _, h5⟩, q, hq => by
    rw [h5] at hq
    rw [List.mem_singleton.1 hq]; exact ⟨nd, h1⟩
  | d + 1, _, _, _, ⟨nd, ps, h1, _, _, h4, _, h6⟩, q, hq => by
    rw [h6] at hq
    rcases List.mem_cons.1 hq with rfl | hq
    · exact ⟨nd, h1⟩
    · obtain ⟨l, hl, hk⟩ := List.mem_flatten.1 hq
      obtain ⟨pq, hpq, rfl⟩ := List.mem_map.1 hl
      obtain ⟨k, hT⟩ := h4.mem pq hpq
      exact hT.some q hk
/-- Kid i of a node, and what lies on both sides of it. -/
theorem TreeOf.at (h : TreeOf N (d + 1) p f ns) (hp : N p = .some nd) {i : Nat} (hi : i ≤ nd.l.length) :
    ∃ (A B : List (List Ent × List Nat)) (q : List Ent × List Nat) (k : Nat) (k1 k2 : List Nat), KidsOf (TreeOf N d) k1 A ∧ TreeOf N d k q.1 q.2 ∧ KidsOf (TreeOf N d) k2 B ∧ nd.ks = k1 ++ k :: k2 ∧ k1.length = i ∧ A.length = i ∧ B.length + i = nd.l.length ∧
      f = wl (ents A) (nd.l.take i) ++ q.1 ++ wr (nd.l.drop i) (ents B) ∧ ns = p :: (nods A ++ q.2 ++ nods B) ∧ nd.l.length ≤ 5 := by
  obtain ⟨nd', ps, h1, h2, h3, h4, h5, h6⟩ := h
  rw [hp] at h1
  cases h1
  have hik : i < nd.ks.length := by omega
  have e : nd.ks = nd.ks.take i ++ nd.ks[i] :: nd.ks.drop (i + 1) := by rw [List.getElem_cons_drop, List.take_append_drop]
  rw [e] at h4
  obtain ⟨A, ps2, rfl, h7, h8⟩ := h4.split
  match ps2, h8 with
  | q :: B, h8 =>
    have hA : A.length = i := by rw [h7.len, List.length_take]; omega
    have hB : B.length + i = nd.l.length := by rw [h8.2.len, List.length_drop]; omega
    refine ⟨A, B, q, nd.ks[i], _, _, h7, h8.1, h8.2, e, by rw [List.length_take]; omega, hA, hB, ?_, ?_, h2⟩
    · rw [h5, show ents (A ++ q :: B) = ents A ++ q.1 :: ents B by simp [ents]]
      exact weave_at _ _ _ _ hi (by simpa using hA) (by simpa using hB)
    · rw [h6, nods_app, nods_cons, List.append_assoc]
theorem TreeOf.mk {A B : List (List Ent × List Nat)} {q : List Ent × List Nat} {k : Nat} {k1 k2 : List Nat} {i : Nat} (hp : N p = .some nd) (hA : KidsOf (TreeOf N d) k1 A) (hq : TreeOf N d k q.1 q.2) (hB : KidsOf (TreeOf N d) k2 B)
    (hk : nd.ks = k1 ++ k :: k2) (h1 : A.length = i) (h2 : B.length + i = nd.l.length) (h5 : nd.l.length ≤ 5) :
    TreeOf N (d + 1) p (wl (ents A) (nd.l.take i) ++ q.1 ++ wr (nd.l.drop i) (ents B)) (p :: (nods A ++ q.2 ++ nods B)) := by
  refine ⟨nd, A ++ q :: B, hp, h5, ?_, by rw [hk]; exact hA.app ⟨hq, hB⟩, ?_, ?_⟩
  · rw [hk, List.length_append, List.length_cons, ← hA.len, ← hB.len]; omega
  · rw [show ents (A ++ q :: B) = ents A ++ q.1 :: ents B by simp [ents]]
    exact (weave_at _ _ _ _ (by omega) (by simpa using h1) (by simpa using h2)).symm
  · rw [nods_app, nods_cons, List.append_assoc]
/-- A leaf has no kids, and no other node. -/
theorem TreeOf.leaf (h : TreeOf N d p f ns) (hp : N p = .some nd) (hk : nd.ks.length = 0) : d = 0 ∧ f = nd.l ∧ ns = [p] := by
  match d, h with
  | 0, ⟨nd', h1, _, _, h4, h5⟩ => rw [hp] at h1; cases h1; exact ⟨rfl, h4, h5⟩
  | d + 1, ⟨nd', ps, h1, _, h3, _⟩ => rw [hp] at h1; cases h1; omega
theorem TreeOf.inner (h : TreeOf N d p f ns) (hp : N p = .some nd) (hk : nd.ks.length ≠ 0) : ∃ d', d = d' + 1 := by
  match d, h with
  | 0, ⟨nd', h1, h2, _⟩ => rw [hp] at h1; cases h1; exact absurd (by rw [h2]; rfl) hk
  | d + 1, _ => exact ⟨d, rfl⟩
end

/-- All of a tree but what lies below one node: the nodes outside stand in ns0. -/
def Hole (N : NMap) (D root d p : Nat) (pre post : List Ent) (ns0 : List Nat) : Prop :=
  ∀ N' f' ns', (∀ q ∈ ns0, N' q = N q) → TreeOf N' d p f' ns' → ∃ NS, TreeOf N' D root (pre ++ f' ++ post) NS ∧ NS.Perm (ns0 ++ ns')
section
variable {N N' : NMap} {D root d p : Nat} {pre post f : List Ent} {ns0 ns : List Nat} {nd : ND}
theorem Hole.refl : Hole N D root D root [] [] [] := fun N' f' ns' _ h => ⟨ns', by simpa using h, by simp⟩
theorem Hole.congr (h : Hole N D root d p pre post ns0) (hN : ∀ q ∈ ns0, N' q = N q) : Hole N' D root d p pre post ns0 := fun M f' ns' hM hT => h M f' ns' (fun q hq => (hM q hq).trans (hN q hq)) hT
theorem Hole.down (h : Hole N D root (d + 1) p pre post ns0) (hT : TreeOf N (d + 1) p f ns) (hp : N p = .some nd) {i : Nat} (hi : i ≤ nd.l.length) (hnd : (ns0 ++ ns).Nodup) :
    ∃ (k : Nat) (q : List Ent) (nq ns0' : List Nat) (a b : List Ent), nd.ks[i]? = .some k ∧ Hole N D root d k (pre ++ a) (b ++ post) ns0' ∧ TreeOf N d k q nq ∧ (ns0' ++ nq).Perm (ns0 ++ ns) ∧ f = a ++ q ++ b ∧
      (∃ A B : List (List Ent), A.length = i ∧ B.length + i = nd.l.length ∧ a = wl A (nd.l.take i) ∧ b = wr (nd.l.drop i) B) := by
  obtain ⟨A, B, q, k, k1, k2, hA, hq, hB, hk, hk1, hAl, hBl, rfl, rfl, h5⟩ := hT.at hp hi
  have hpm : ((ns0 ++ p :: (nods A ++ nods B)) ++ q.2).Perm (ns0 ++ p :: (nods A ++ q.2 ++ nods B)) := by
    rw [List.append_assoc]
    refine List.Perm.append_left _ ?_
    rw [List.cons_append]
    refine List.Perm.cons _ ?_
    rw [List.append_assoc, List.append_assoc]
    exact List.Perm.append_left _ List.perm_append_comm
  refine ⟨k, q.1, q.2, ns0 ++ p :: (nods A ++ nods B), wl (ents A) (nd.l.take i), wr (nd.l.drop i) (ents B), ?_, ?_, hq, hpm, rfl, ents A, ents B, by simpa using hAl, by simpa using hBl, rfl, rfl⟩
  · rw [hk, List.getElem?_append_right (by omega), hk1, Nat.sub_self]; rfl
  · intro N' f' ns' hN' hT'
    have hA' : KidsOf (TreeOf N' d) k1 A := hA.mono fun _ q hm hT => hT.congr fun k hk => hN' k (List.mem_append_right _ (List.mem_cons_of_mem _ (List.mem_append_left _ (mem_nods hm hk))))
    have hB' : KidsOf (TreeOf N' d) k2 B := hB.mono fun _ q hm hT => hT.congr fun k hk => hN' k (List.mem_append_right _ (List.mem_cons_of_mem _ (List.mem_append_right _ (mem_nods hm hk))))
    have hp' : N' p = .some nd := (hN' p (List.mem_append_right _ (List.mem_cons_self ..))).trans hp
    have := TreeOf.mk (q := (f', ns')) hp' hA' hT' hB' hk hAl hBl h5
    obtain ⟨NS, h1, h2⟩ := h N' _ _ (fun q hq => hN' q (List.mem_append_left _ hq)) this
    refine ⟨NS, by simpa [List.append_assoc] using h1, h2.trans ?_⟩
    show (ns0 ++ p :: (nods A ++ ns' ++ nods B)).Perm _
    simp only [List.append_assoc, List.cons_append]
    exact List.Perm.append_left _ (List.Perm.cons _ (List.Perm.append_left _ List.perm_append_comm))
end

/-! ### In order -/
theorem wl_lt {k : ByteArray} : ∀ (A : List (List Ent)) (l : List Ent), Rises (wl A l) → (∀ e ∈ l, KLt e.key k) → ∀ x ∈ wl A l, KLt x.key k
  | [], _, _, _, x, hx => by simp [wl] at hx
  | _ :: _, [], _, _, x, hx => by simp [wl] at hx
  | q :: A, e :: l, hr, hl, x, hx => by
    rw [wl] at hx hr
    obtain ⟨h1, h2, h3⟩ := List.pairwise_append.1 hr
    rcases List.mem_append.1 hx with hx | hx
    · exact bl_trans (h3 x hx e (List.mem_cons_self ..)) (hl e (List.mem_cons_self ..))
    · rcases List.mem_cons.1 hx with rfl | hx
      · exact hl _ (List.mem_cons_self ..)
      · exact wl_lt A l (List.pairwise_cons.1 h2).2 (fun e he => hl e (List.mem_cons_of_mem _ he)) x hx
theorem wr_gt {k : ByteArray} {l : List Ent} {B : List (List Ent)} (hr : Rises (wr l B)) (hl : ∀ e ∈ l, KLt k e.key) : ∀ x ∈ wr l B, KLt k x.key := by
  intro x hx
  match l, B, hr, hl, hx with
  | [], _, _, _, hx => simp [wr] at hx
  | _ :: _, [], _, _, hx => simp [wr] at hx
  | e :: l, q :: B, hr, hl, hx =>
    rw [wr] at hx hr
    rcases List.mem_cons.1 hx with rfl | hx
    · exact hl _ (List.mem_cons_self ..)
    · exact bl_trans (hl e (List.mem_cons_self ..)) ((List.pairwise_cons.1 hr).1 x hx)
theorem posE_take (l : List Ent) (k : ByteArray) : ∀ e ∈ l.take (posE l k), KLt e.key k := by
  induction l with
  | nil => intro e he; simp at he
  | cons y l ih =>
    intro e he
    rw [posE_cons] at he
    by_cases h : Op.bytesLess y.key.toList k.toList = true
    · rw [if_pos h, List.take_succ_cons] at he
      rcases List.mem_cons.1 he with rfl | he
      · exact h
      · exact ih e he
    · rw [if_neg h] at he
      simp at he
theorem posE_head (l : List Ent) (k : ByteArray) : ∀ e, l[posE l k]? = some e → ¬ KLt e.key k := by
  induction l with
  | nil => intro e he; simp at he
  | cons y l ih =>
    intro e he
    rw [posE_cons] at he
    by_cases h : Op.bytesLess y.key.toList k.toList = true
    · rw [if_pos h, List.getElem?_cons_succ] at he
      exact ih e he
    · rw [if_neg h] at he
      simp at he
      subst he; exact h
/-- Behind the place of a key that isn't there all keys are above it. -/
theorem posE_drop {l : List Ent} {k : ByteArray} (hr : Rises l) (hn : isE l k = false) : ∀ e ∈ l.drop (posE l k), KLt k e.key := by
  intro e he
  rcases Nat.lt_or_ge (posE l k) l.length with hlt | hge
  · have hg := List.getElem?_eq_getElem hlt
    have h1 := posE_head l k _ hg
    unfold isE at hn
    rw [hg] at hn
    have h2 : ¬ l[posE l k].key = k := by simpa using hn
    have h3 : KLt k l[posE l k].key := by
      cases h4 : Op.bytesLess k.toList l[posE l k].key.toList with
      | true => exact h4
      | false => exact absurd (bl_tri (by simpa using h1) h4) h2
    rw [List.drop_eq_getElem_cons hlt] at he
    rcases List.mem_cons.1 he with rfl | he
    · exact h3
    · have hr2 : Rises (l.drop (posE l k)) := List.Pairwise.sublist (List.drop_sublist _ _) hr
      rw [List.drop_eq_getElem_cons hlt] at hr2
      exact bl_trans h3 ((List.pairwise_cons.1 hr2).1 e he)
  · rw [List.drop_of_length_le hge] at he
    cases he
theorem isE_some {l : List Ent} {k : ByteArray} (h : isE l k = true) : ∃ e, l[posE l k]? = some e ∧ e.key = k ∧ posE l k < l.length := by
  unfold isE at h
  cases hg : l[posE l k]? with
  | none => rw [hg] at h; cases h
  | some e => rw [hg] at h; exact ⟨e, rfl, by simpa using h, (List.getElem?_eq_some_iff.1 hg).1⟩
theorem Rises.sub {a b : List Ent} (h : Rises b) (hs : a.Sublist b) : Rises a := List.Pairwise.sublist hs h
theorem wl_sub : ∀ (A : List (List Ent)) (l : List Ent), A.length = l.length → l.Sublist (wl A l)
  | [], [], _ => List.Sublist.slnil
  | q :: A, e :: l, h => by
    rw [wl]
    exact ((wl_sub A l (by simpa using h)).cons_cons e).trans (List.sublist_append_right _ _)
theorem wr_sub : ∀ (l : List Ent) (B : List (List Ent)), B.length = l.length → l.Sublist (wr l B)
  | [], [], _ => List.Sublist.slnil
  | e :: l, q :: B, h => by
    rw [wr]
    exact ((wr_sub l B (by simpa using h)).trans (List.sublist_append_right _ _)).cons_cons e
/-- A node's own entries rise, where all below it do. -/
theorem TreeOf.rises {N : NMap} {d p : Nat} {f : List Ent} {ns : List Nat} {nd : ND} (h : TreeOf N d p f ns) (hp : N p = .some nd) (hr : Rises f) : Rises nd.l := by
  by_cases hk : nd.ks.length = 0
  · obtain ⟨_, rfl, _⟩ := h.leaf hp hk
    exact hr
  · obtain ⟨d', rfl⟩ := h.inner hp hk
    obtain ⟨A, B, q, k, k1, k2, _, _, _, _, _, hA, hB, hf, _⟩ := h.at hp (Nat.le_refl _)
    rw [List.take_length] at hf
    rw [hf, List.append_assoc] at hr
    exact hr.sub ((wl_sub (ents A) nd.l (by simpa using hA)).trans (List.sublist_append_left _ _))

/-! ### A key put among others -/
def putE : List Ent → ByteArray → List Ver → List Ent
  | [], k, v => [⟨k, v⟩]
  | e :: l, k, v => if Op.bytesLess e.key.toList k.toList = true then e :: putE l k v else if e.key = k then ⟨k, v⟩ :: l else ⟨k, v⟩ :: e :: l
def getE (f : List Ent) (k : ByteArray) : Option (List Ver) := (f.find? fun e => decide (e.key = k)).map (·.vers)
theorem putE_app {k : ByteArray} (v : List Ver) : ∀ (a b : List Ent), (∀ x ∈ a, KLt x.key k) → putE (a ++ b) k v = a ++ putE b k v
  | [], _, _ => rfl
  | x :: a, b, h => by
    rw [List.cons_append, putE, if_pos (h x (List.mem_cons_self ..)), putE_app v a b fun x hx => h x (List.mem_cons_of_mem _ hx)]; rfl
theorem putE_new {k : ByteArray} (v : List Ver) : ∀ (b : List Ent), (∀ x ∈ b, KLt k x.key) → putE b k v = ⟨k, v⟩ :: b
  | [], _ => rfl
  | x :: b, h => by
    have h1 := h x (List.mem_cons_self ..)
    rw [putE, if_neg (by rw [bl_asymm h1]; decide), if_neg (fun e => bl_ne h1 e.symm)]
theorem putE_old {k : ByteArray} (v : List Ver) (e : Ent) (b : List Ent) (h : e.key = k) : putE (e :: b) k v = ⟨k, v⟩ :: b := by
  rw [putE, if_neg (by rw [h, bl_irrefl]; decide), if_pos h]
theorem getE_none {f : List Ent} {k : ByteArray} (h : ∀ x ∈ f, x.key ≠ k) : getE f k = none := by
  unfold getE
  rw [List.find?_eq_none.2 (by simpa using h)]; rfl
theorem getE_some {a b : List Ent} {e : Ent} {k : ByteArray} (ha : ∀ x ∈ a, KLt x.key k) (he : e.key = k) : getE (a ++ e :: b) k = some e.vers := by
  unfold getE
  rw [List.find?_append, List.find?_eq_none.2 (by simpa using fun x hx => bl_ne (ha x hx))]
  simp [he]
theorem putE_rises {k : ByteArray} {v : List Ver} : ∀ (f : List Ent), Rises f → Rises (putE f k v) ∧ ∀ x ∈ putE f k v, x.key = k ∨ ∃ y ∈ f, y.key = x.key
  | [], _ => ⟨by simp [putE, Rises], by simp [putE]⟩
  | e :: l, h => by
    obtain ⟨h1, h2⟩ := List.pairwise_cons.1 h
    obtain ⟨i1, i2⟩ := putE_rises (k := k) (v := v) l h2
    unfold putE
    split
    · rename_i hlt
      refine ⟨List.pairwise_cons.2 ⟨fun x hx => ?_, i1⟩, fun x hx => ?_⟩
      · rcases i2 x hx with e2 | ⟨y, hy, e2⟩
        · rw [e2]; exact hlt
        · rw [← e2]; exact h1 y hy
      · rcases List.mem_cons.1 hx with rfl | hx
        · exact .inr ⟨_, List.mem_cons_self .., rfl⟩
        · rcases i2 x hx with e2 | ⟨y, hy, e2⟩
          · exact .inl e2
          · exact .inr ⟨y, List.mem_cons_of_mem _ hy, e2⟩
    · rename_i hlt
      split
      · rename_i he
        subst he
        refine ⟨List.pairwise_cons.2 ⟨h1, h2⟩, fun x hx => ?_⟩
        rcases List.mem_cons.1 hx with rfl | hx
        · exact .inl rfl
        · exact .inr ⟨x, List.mem_cons_of_mem _ hx, rfl⟩
      · rename_i he
        have hk : KLt k e.key := by
          cases h4 : Op.bytesLess k.toList e.key.toList with
          | true => exact h4
          | false => exact absurd (bl_tri (by simpa using hlt) h4) he
        refine ⟨List.pairwise_cons.2 ⟨fun x hx => ?_, h⟩, fun x hx => ?_⟩
        · rcases List.mem_cons.1 hx with rfl | hx
          · exact hk
          · exact bl_trans hk (h1 x hx)
        · rcases List.mem_cons.1 hx with rfl | hx
          · exact .inl rfl
          · exact .inr ⟨x, hx, rfl⟩
end Go.Proofs.Ytpibaahiboajhaa
