/-
  Trees, plainly: a node that becomes two; a key put into a leaf; a value put in place of another one.
-/
import Derived.Test.YtpibaahiboajhaaTre3
set_option linter.unusedSimpArgs false
set_option linter.unusedVariables false
namespace Go.Proofs.Ytpibaahiboajhaa
open Go.RowKit Go.Cib
attribute [local go_sem] cell_set Later.cell Later.frozen Grw.cell Grw.frozen

theorem weave_mid : ∀ (A : List (List Ent)) (l1 : List Ent) (m : Ent) (B : List (List Ent)) (l2 : List Ent), A.length = l1.length + 1 → weave (A ++ B) (l1 ++ m :: l2) = weave A l1 ++ m :: weave B l2
  | [a], [], m, B, l2, _ => by simp [weave]
  | a :: a2 :: A, [], _, _, _, h => by simp at h
  | a :: A, e :: l1, m, B, l2, h => by
    rw [List.cons_append, List.cons_append, weave, weave_mid A l1 m B l2 (by simpa using h), weave, List.append_assoc, List.cons_append]
section
variable {N N' : NMap} {d a b : Nat} {f : List Ent} {ns : List Nat} {na nda ndb : ND} {m : Ent}
theorem TreeOf.halve : ∀ {d : Nat} {f : List Ent} {ns : List Nat}, TreeOf N d a f ns → N a = .some na → na.l.length = 5 → ns.Nodup → b ∉ ns → na.l = nda.l ++ m :: ndb.l → nda.l.length = 2 → na.ks = nda.ks ++ ndb.ks → (na.ks.length = 0 ∨ nda.ks.length = 3) →
    N' a = .some nda → N' b = .some ndb → (∀ q ∈ ns, q ≠ a → N' q = N q) → ∃ f1 f2 n1 n2, TreeOf N' d a f1 n1 ∧ TreeOf N' d b f2 n2 ∧ f = f1 ++ m :: f2 ∧ (n1 ++ n2).Perm (b :: ns)
  | 0, f, ns, h, ha, h5, hnd, hb, hl, hla, hk, hka, h1, h2, hN => by
    obtain ⟨nd, e1, e2, e3, e4, e5⟩ := h
    rw [ha] at e1; cases e1
    rw [e2] at hk
    obtain ⟨k1, k2⟩ := List.append_eq_nil_iff.1 hk.symm
    have hlb : ndb.l.length = 2 := by have := congrArg List.length hl; rw [List.length_append, List.length_cons, hla, h5] at this; omega
    refine ⟨nda.l, ndb.l, [a], [b], ⟨nda, h1, k1, by omega, rfl, rfl⟩, ⟨ndb, h2, k2, by omega, rfl, rfl⟩, by rw [e4, hl], ?_⟩
    rw [e5]
    exact List.Perm.swap _ _ _
  | d + 1, f, ns, h, ha, h5, hnd, hb, hl, hla, hk, hka, h1, h2, hN => by
    obtain ⟨nd, ps, e1, e2, e3, e4, e5, e6⟩ := h
    rw [ha] at e1; cases e1
    have hlb : ndb.l.length = 2 := by have := congrArg List.length hl; rw [List.length_append, List.length_cons, hla, h5] at this; omega
    have hk3 : nda.ks.length = 3 := by rcases hka with e | e <;> omega
    have hk4 : ndb.ks.length = 3 := by have := congrArg List.length hk; rw [List.length_append] at this; omega
    rw [hk] at e4
    obtain ⟨p1, p2, rfl, h7, h8⟩ := e4.split
    rw [e6] at hnd hN
    have hna : a ∉ nods (p1 ++ p2) := (List.nodup_cons.1 hnd).1
    have c1 : KidsOf (TreeOf N' d) nda.ks p1 := h7.mono fun _ q hm hT => hT.congr fun k hk => hN k (List.mem_cons_of_mem _ (mem_nods (List.mem_append_left _ hm) hk)) fun e => hna (e ▸ mem_nods (List.mem_append_left _ hm) hk)
    have c2 : KidsOf (TreeOf N' d) ndb.ks p2 := h8.mono fun _ q hm hT => hT.congr fun k hk => hN k (List.mem_cons_of_mem _ (mem_nods (List.mem_append_right _ hm) hk)) fun e => hna (e ▸ mem_nods (List.mem_append_right _ hm) hk)
    refine ⟨weave (ents p1) nda.l, weave (ents p2) ndb.l, a :: nods p1, b :: nods p2, ⟨nda, p1, h1, by omega, by omega, c1, rfl, rfl⟩, ⟨ndb, p2, h2, by omega, by omega, c2, rfl, rfl⟩, ?_, ?_⟩
    · rw [e5, hl, show ents (p1 ++ p2) = ents p1 ++ ents p2 by simp [ents]]
      exact weave_mid _ _ _ _ _ (by rw [List.length_map, h7.len]; omega)
    · rw [e6, nods_app, List.cons_append]
      exact (List.Perm.cons _ List.perm_middle).trans (List.Perm.swap _ _ _)
theorem TreeOf.split {n i : Nat} {nd ndn : ND} (h : TreeOf N (d + 1) n f ns) (hn : N n = .some nd) (hi : i ≤ nd.l.length) (h4 : nd.l.length ≤ 4) (hk : nd.ks[i]? = .some a) (ha : N a = .some na) (h5 : na.l.length = 5) (hnd : ns.Nodup) (hb : b ∉ ns)
    (hl : na.l = nda.l ++ m :: ndb.l) (hla : nda.l.length = 2) (hks : na.ks = nda.ks ++ ndb.ks) (hka : na.ks.length = 0 ∨ nda.ks.length = 3)
    (hn' : N' n = .some ndn) (hnl : ndn.l = nd.l.take i ++ m :: nd.l.drop i) (hnk : ndn.ks = nd.ks.take (i + 1) ++ b :: nd.ks.drop (i + 1)) (h1 : N' a = .some nda) (h2 : N' b = .some ndb) (hN : ∀ q ∈ ns, q ≠ a → q ≠ n → N' q = N q) :
    ∃ ns', TreeOf N' (d + 1) n f ns' ∧ ns'.Perm (b :: ns) := by
  obtain ⟨A, B, q, k, k1, k2, hA, hq, hB, hks2, hk1, hAl, hBl, rfl, rfl, _⟩ := h.at hn hi
  have e : k = a := by
    rw [hks2, List.getElem?_append_right (by omega), hk1, Nat.sub_self] at hk
    simpa using hk
  subst e
  obtain ⟨hn1, hn2⟩ := List.nodup_cons.1 hnd
  obtain ⟨hn3, hn4, hn5⟩ := List.nodup_append.1 hn2
  obtain ⟨hn6, hn7, hn8⟩ := List.nodup_append.1 hn3
  have mA : ∀ {x : Nat}, x ∈ nods A → x ∈ n :: (nods A ++ q.2 ++ nods B) := fun hx => List.mem_cons_of_mem _ (List.mem_append_left _ (List.mem_append_left _ hx))
  have mq : ∀ {x : Nat}, x ∈ q.2 → x ∈ n :: (nods A ++ q.2 ++ nods B) := fun hx => List.mem_cons_of_mem _ (List.mem_append_left _ (List.mem_append_right _ hx))
  have mB : ∀ {x : Nat}, x ∈ nods B → x ∈ n :: (nods A ++ q.2 ++ nods B) := fun hx => List.mem_cons_of_mem _ (List.mem_append_right _ hx)
  have hkq := hq.root
  have ne : ∀ {x : Nat}, x ∈ nods A ++ q.2 ++ nods B → x ≠ n := fun hx e => hn1 (e ▸ hx)
  have hA' : KidsOf (TreeOf N' d) k1 A := hA.mono fun _ q' hm hT => hT.congr fun x hx => by
    have hx' := mem_nods hm hx
    exact hN x (mA hx') (fun e => hn8 x hx' k hkq e) (ne (List.mem_append_left _ (List.mem_append_left _ hx')))
  have hB' : KidsOf (TreeOf N' d) k2 B := hB.mono fun _ q' hm hT => hT.congr fun x hx => by
    have hx' := mem_nods hm hx
    exact hN x (mB hx') (fun e => hn5 k (List.mem_append_right _ hkq) x hx' e.symm) (ne (List.mem_append_right _ hx'))
  obtain ⟨f1, f2, n1, n2, t1, t2, hf, hpm⟩ := hq.halve (N' := N') ha h5 hn7 (fun hb' => hb (mq hb')) hl hla hks hka h1 h2 (fun x hx hne => hN x (mq hx) hne (ne (List.mem_append_left _ (List.mem_append_right _ hx))))
  have hlen : (nd.l.take i).length = i := by rw [List.length_take]; omega
  have := TreeOf.mk (nd := ndn) (i := i) (q := (f1, n1)) (B := (f2, n2) :: B) (k2 := b :: k2) hn' hA' t1 ⟨t2, hB'⟩ (by
    have e1 : (k1 ++ k :: k2).take (i + 1) = k1 ++ [k] := by rw [← hk1, show k1.length + 1 = (k1 ++ [k]).length by simp, show k1 ++ k :: k2 = (k1 ++ [k]) ++ k2 by simp, List.take_left]
    have e2 : (k1 ++ k :: k2).drop (i + 1) = k2 := by rw [← hk1, show k1.length + 1 = (k1 ++ [k]).length by simp, show k1 ++ k :: k2 = (k1 ++ [k]) ++ k2 by simp, List.drop_left]
    rw [hnk, hks2, e1, e2]; simp) hAl (by rw [hnl, List.length_cons, List.length_append, List.length_cons, hlen, List.length_drop]; omega) (by rw [hnl, List.length_append, List.length_cons, hlen, List.length_drop]; omega)
  have e1 : ndn.l.take i = nd.l.take i := by rw [hnl, List.take_append_of_le_length (by omega), List.take_of_length_le (by omega)]
  have e2 : ndn.l.drop i = m :: nd.l.drop i := by
    have := List.drop_left (l₁ := nd.l.take i) (l₂ := m :: nd.l.drop i)
    rw [hlen] at this
    rw [hnl, this]
  rw [e1, e2] at this
  refine ⟨n :: (nods A ++ n1 ++ nods ((f2, n2) :: B)), ?_, ?_⟩
  · rw [show wl (ents A) (nd.l.take i) ++ q.1 ++ wr (nd.l.drop i) (ents B) = wl (ents A) (nd.l.take i) ++ f1 ++ wr (m :: nd.l.drop i) (ents ((f2, n2) :: B)) by
      simp only [ents, List.map_cons, wr, hf, List.append_assoc, List.cons_append]]
    exact this
  · show (n :: (nods A ++ n1 ++ nods ((f2, n2) :: B))).Perm _
    rw [nods_cons]
    refine (List.Perm.cons n ?_).trans (List.Perm.swap _ _ _)
    show (nods A ++ n1 ++ (n2 ++ nods B)).Perm _
    have hp2 : (nods A ++ n1 ++ (n2 ++ nods B)).Perm (nods A ++ ((b :: q.2) ++ nods B)) := by
      rw [List.append_assoc, ← List.append_assoc n1]
      exact List.Perm.append_left _ (List.Perm.append_right _ hpm)
    refine hp2.trans ?_
    rw [List.cons_append, List.append_assoc]
    exact List.perm_middle
end
section
variable {N N' : NMap} {D root d p : Nat} {pre post f : List Ent} {ns0 ns : List Nat} {nd nd' : ND} {k : ByteArray} {v : List Ver}
theorem take_put_drop {l : List Ent} (hr : Rises l) (hn : isE l k = false) (v : List Ver) : putE l k v = l.take (posE l k) ++ ⟨k, v⟩ :: l.drop (posE l k) := by
  conv => lhs; rw [← List.take_append_drop (posE l k) l]
  rw [putE_app v _ _ (posE_take l k), putE_new v _ (posE_drop hr hn)]
/-- A key that isn't there, put into a leaf. -/
theorem Hole.leaf (h : Hole N D root 0 p pre post ns0) (hT : TreeOf N 0 p f ns) (hp : N p = .some nd) (hpre : ∀ x ∈ pre, KLt x.key k) (hpost : ∀ x ∈ post, KLt k x.key) (hr : Rises nd.l) (hn : isE nd.l k = false) (h4 : nd.l.length ≤ 4)
    (hp' : N' p = .some nd') (hl : nd'.l = nd.l.take (posE nd.l k) ++ ⟨k, v⟩ :: nd.l.drop (posE nd.l k)) (hks : nd'.ks = nd.ks) (hN : ∀ q ∈ ns0, N' q = N q) :
    ∃ NS, TreeOf N' D root (putE (pre ++ f ++ post) k v) NS ∧ NS.Perm (ns0 ++ ns) := by
  obtain ⟨nd2, e1, e2, e3, rfl, rfl⟩ := hT
  rw [hp] at e1; cases e1
  have hpl := posE_le nd.l k
  have hT' : TreeOf N' 0 p nd'.l [p] := ⟨nd', hp', hks.trans e2, by rw [hl, List.length_append, List.length_cons, List.length_take, List.length_drop]; omega, rfl, rfl⟩
  obtain ⟨NS, t1, t2⟩ := h N' _ _ hN hT'
  refine ⟨NS, ?_, t2⟩
  have e : putE (pre ++ nd.l ++ post) k v = pre ++ nd'.l ++ post := by
    rw [List.append_assoc, putE_app v pre _ hpre]
    conv => lhs; rw [← List.take_append_drop (posE nd.l k) nd.l]
    rw [List.append_assoc, putE_app v _ _ (posE_take nd.l k), putE_new v _ (fun x hx => by
      rcases List.mem_append.1 hx with hx | hx
      · exact posE_drop hr hn x hx
      · exact hpost x hx), hl]
    simp
  rw [e]; exact t1
/-- An entry of a node becomes another one. -/
theorem TreeOf.set {i : Nat} {e : Ent} (h : TreeOf N d p f ns) (hp : N p = .some nd) (hi : nd.l[i]? = .some e) (hnd : ns.Nodup) (hr : Rises f) :
    ∃ a b, f = a ++ e :: b ∧ (∀ x ∈ a, KLt x.key e.key) ∧ ∀ e' N' nd', N' p = .some nd' → nd'.l = nd.l.set i e' → nd'.ks = nd.ks → (∀ q ∈ ns, q ≠ p → N' q = N q) → TreeOf N' d p (a ++ e' :: b) ns := by
  have hil : i < nd.l.length := (List.getElem?_eq_some_iff.1 hi).1
  have hde : nd.l.drop i = e :: nd.l.drop (i + 1) := by rw [List.drop_eq_getElem_cons hil, (List.getElem?_eq_some_iff.1 hi).2]
  by_cases hk : nd.ks.length = 0
  · obtain ⟨rfl, rfl, rfl⟩ := h.leaf hp hk
    obtain ⟨nd2, e1, e2, e3, _, _⟩ := h
    rw [hp] at e1; cases e1
    have hf : nd.l = nd.l.take i ++ e :: nd.l.drop (i + 1) := by rw [← hde, List.take_append_drop]
    refine ⟨nd.l.take i, nd.l.drop (i + 1), hf, fun x hx => ?_, fun e' N' nd' h1 h2 h3 h4 => ⟨nd', h1, h3.trans e2, by rw [h2, List.length_set]; exact e3, ?_, rfl⟩⟩
    · rw [hf] at hr
      exact (List.pairwise_append.1 hr).2.2 x hx e (List.mem_cons_self ..)
    · rw [h2, List.set_eq_take_append_cons_drop, if_pos hil]
  · obtain ⟨d', rfl⟩ := h.inner hp hk
    obtain ⟨A, B, q, kk, k1, k2, hA, hq, hB, hks2, hk1, hAl, hBl, rfl, rfl, h5⟩ := h.at hp (Nat.le_of_lt hil)
    match B, hBl, hB with
    | [], hBl, _ => simp at hBl; omega
    | qb :: B, hBl, hB =>
      have hw : wr (nd.l.drop i) (ents (qb :: B)) = e :: (qb.1 ++ wr (nd.l.drop (i + 1)) (ents B)) := by rw [hde]; rfl
      rw [hw] at hr
      refine ⟨wl (ents A) (nd.l.take i) ++ q.1, qb.1 ++ wr (nd.l.drop (i + 1)) (ents B), by rw [hw], fun x hx => (List.pairwise_append.1 hr).2.2 x hx e (List.mem_cons_self ..), fun e' N' nd' h1 h2 h3 h4 => ?_⟩
      obtain ⟨hn1, _⟩ := List.nodup_cons.1 hnd
      have ne : ∀ {x : Nat}, x ∈ nods A ++ q.2 ++ nods (qb :: B) → N' x = N x := fun hx => h4 _ (List.mem_cons_of_mem _ hx) fun e => hn1 (e ▸ hx)
      have := TreeOf.mk (q := q) h1 (hA.mono fun _ q' hm hT => hT.congr fun x hx => ne (List.mem_append_left _ (List.mem_append_left _ (mem_nods hm hx)))) (hq.congr fun x hx => ne (List.mem_append_left _ (List.mem_append_right _ hx)))
        (hB.mono fun _ q' hm hT => hT.congr fun x hx => ne (List.mem_append_right _ (mem_nods hm hx))) (h3.trans hks2) hAl (by rw [h2, List.length_set]; exact hBl) (by rw [h2, List.length_set]; exact h5)
      have e1 : nd'.l.take i = nd.l.take i := by rw [h2, List.take_set_of_le (Nat.le_refl _)]
      have e2 : nd'.l.drop i = e' :: nd.l.drop (i + 1) := by
        rw [h2, List.set_eq_take_append_cons_drop, if_pos hil]
        have := List.drop_left (l₁ := nd.l.take i) (l₂ := e' :: nd.l.drop (i + 1))
        rwa [show (nd.l.take i).length = i by rw [List.length_take]; omega] at this
      rw [e1, e2] at this
      simpa [ents, wr] using this
end
end Go.Proofs.Ytpibaahiboajhaa
