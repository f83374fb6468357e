/-
  A full node becomes two.
-/
import Derived.Test.YtpibaahiboajhaaTre7
import Derived.Test.YtpibaahiboajhaaOrd
set_option linter.unusedSimpArgs false
set_option linter.unusedVariables false
namespace Go.Proofs.Ytpibaahiboajhaa
open Go.RowKit Go.Cib
attribute [local go_sem] cell_set Later.cell Later.frozen Grw.cell Grw.frozen

def EntS (S0 : Nat → Prop) (S : Nat → Prop) (w : World) (cs : List Value) (e : Ent) : Prop := EntR (fun b => S b ∧ S0 b) w cs e
theorem EntS.stable {S0 : Nat → Prop} : Stable (EntS S0) := fun S S' w w' cs e h hk => EntR.stable _ _ _ _ _ _ h fun b hb hl => ⟨⟨(hk b hb.1 hl).1, hb.2⟩, (hk b hb.1 hl).2⟩
theorem EntS.one {S0 : Nat → Prop} : ∀ S w cs x, EntS S0 S w cs x → ∀ u ∈ cs, u.oneCell' = true := fun _ _ _ _ h => EntR.one _ _ _ _ h
/-- A row of one's own as a reading: in its own block, or in S. -/
theorem OwnL.rdo {X : Type} {R : (Nat → Prop) → World → List Value → X → Prop} (hR : Stable R) {E : TypeId} {s base n : Nat} {S : Nat → Prop} {w : World} {v : Value} {xs : List X} (h : OwnL R E s base S w v n xs) :
    ∃ A c, v = .slice A n c ∧ n ≤ c ∧ RdL R s (fun b => S b ∨ v.ownBlock = some b) w A n xs ∧ (0 < n → ∃ g, A = some ⟨g, 0, none⟩) := by
  obtain ⟨A, c, e, hc, hr⟩ := h.rd (S' := fun _ => True) (fun _ _ => trivial) (fun cs x hx => hR _ _ _ _ _ _ hx fun _ _ _ => ⟨trivial, rfl⟩)
  obtain ⟨css, h1, h2, h3, h4, h5⟩ := h
  rcases h1.2 with ⟨e2, e3⟩ | ⟨g, cap, cur, e2, _, hblk, hnc, hcm, hsz, ht⟩
  · refine ⟨A, c, e, hc, ⟨h2, fun hp => by omega⟩, fun hp => by omega⟩
  · have hA2 : A = some ⟨g, 0, none⟩ := by rw [e2] at e; injection e with e _ _; exact e.symm
    refine ⟨A, c, e, hc, ⟨h2, fun hp => ?_⟩, fun _ => ⟨g, hA2⟩⟩
    refine ⟨g, 0, hA2, .inr (by rw [e2]; rfl), (Array.getElem?_eq_some_iff.1 hblk).1, fun i x hx => ?_⟩
    have hi : i < css.length := by have := (List.getElem?_eq_some_iff.1 hx).1; omega
    refine ⟨css[i], h4 _ (List.getElem_mem _), hR _ _ _ _ _ _ (h5 i _ x (List.getElem?_eq_getElem hi) hx) (fun q hq _ => ⟨.inl hq.1, rfl⟩), fun j u hj => ?_⟩
    have hjs : j < s := by have h6 := (List.getElem?_eq_some_iff.1 hj).1; have h7 := h4 _ (List.getElem_mem hi); omega
    have hf := flatten_get css h4 i css[i] j (List.getElem?_eq_getElem hi) hjs
    have hc := h1.cells (g := g) (by rw [e2]; rfl) (i * s + j) u (by rw [hf]; exact hj)
    have ha : (⟨g, 0, none⟩ : Addr).add (i * s + j) = ⟨g, 0 + i * s + j, none⟩ := by unfold Addr.add; split <;> simp_all <;> omega
    rw [ha] at hc
    exact hc
theorem OwnL.entS {E : TypeId} {s base n : Nat} {S : Nat → Prop} {w : World} {v : Value} {xs : List Ent} (h : OwnL EntR E s base S w v n xs) : OwnL (EntS S) E s base S w v n xs := by
  obtain ⟨css, h1, h2, h3, h4, h5⟩ := h
  exact ⟨css, h1, h2, h3, h4, fun i cs x hc hx => EntR.stable _ _ _ _ _ _ (h5 i cs x hc hx) fun b hb _ => ⟨⟨hb, hb.1⟩, rfl⟩⟩
theorem OwnL.ofEntS {E : TypeId} {s base n : Nat} {S S0 : Nat → Prop} {w : World} {v : Value} {xs : List Ent} (h : OwnL (EntS S) E s base S0 w v n xs) : OwnL EntR E s base S w v n xs := by
  obtain ⟨css, h1, h2, h3, h4, h5⟩ := h
  exact ⟨css, h1, h2, h3, h4, fun i cs x hc hx => EntR.stable _ _ _ _ _ _ (h5 i cs x hc hx) fun b hb _ => ⟨⟨hb.2, hb.1.2⟩, rfl⟩⟩
theorem OwnL.ptrT {E : TypeId} {s base n : Nat} {S S0 : Nat → Prop} {w : World} {v : Value} {xs : List Nat} (h : OwnL PtrR E s base S0 w v n xs) : OwnL PtrR E s base S w v n xs := by
  obtain ⟨css, h1, h2, h3, h4, h5⟩ := h
  exact ⟨css, h1, h2, h3, h4, fun i cs x hc hx => h5 i cs x hc hx⟩
/-- A piece of a node's entries, for slices.Clone. -/
theorem NodeAt.ents {w : World} {base : Nat} {S : Nat → Prop} {p : Nat} {nd : ND} (h : NodeAt w base S p nd) : ∃ A c, nd.lv = .slice A nd.l.length c ∧ nd.l.length ≤ c ∧ RdL (EntS S) 2 (fun _ => True) w A nd.l.length nd.l ∧ (0 < nd.l.length → ∃ g, A = some ⟨g, 0, none⟩) := by
  obtain ⟨A, c, e, hc, hr, hg⟩ := OwnL.rdo EntS.stable (OwnL.entS h.l)
  exact ⟨A, c, e, hc, hr.weaken EntS.stable (fun _ _ => trivial), hg⟩
theorem NodeAt.kids {w : World} {base : Nat} {S : Nat → Prop} {p : Nat} {nd : ND} (h : NodeAt w base S p nd) : ∃ A c, nd.kv = .slice A nd.ks.length c ∧ nd.ks.length ≤ c ∧ RdL PtrR 1 (fun _ => True) w A nd.ks.length nd.ks ∧ (0 < nd.ks.length → ∃ g, A = some ⟨g, 0, none⟩) := by
  obtain ⟨A, c, e, hc, hr, hg⟩ := OwnL.rdo PtrR.stable h.k
  exact ⟨A, c, e, hc, hr.weaken PtrR.stable (fun _ _ => trivial), hg⟩
theorem entS_at {S : Nat → Prop} {w : World} {g n : Nat} {l : List Ent} (h : RdL (EntS S) 2 (fun _ => True) w (some ⟨g, 0, none⟩) n l) {k : Nat} {y : Ent} (hk : l[k]? = some y) :
    ∃ (VA : Option Addr) (vm vc : Nat), g < w.heap.size ∧ EntR S w [.string y.key, .slice VA vm vc] y ∧ w.cell? ⟨g, k * 2, none⟩ = some (.string y.key) ∧ w.cell? ⟨g, k * 2 + 1, none⟩ = some (.slice VA vm vc) := by
  have hkl : k < n := by rw [← h.1]; exact (List.getElem?_eq_some_iff.1 hk).1
  obtain ⟨b, o, e, _, hb⟩ := h.addr hkl
  cases e
  obtain ⟨hl, cs, h1, ⟨VA, vm, vc, rfl, h2, h3⟩, h4⟩ := h.at hkl
  have hy : l[k] = y := by rw [List.getElem?_eq_getElem hl] at hk; exact Option.some.inj hk
  rw [hy] at h3 h4
  refine ⟨VA, vm, vc, hb, ⟨VA, vm, vc, rfl, h2, h3.weaken VerR.stable (fun b hb => hb.2)⟩, ?_, ?_⟩
  · have := h4 0 _ rfl; simpa using this
  · have := h4 1 _ rfl; simpa using this
/-- What a split leaves. -/
structure Halved (N N' : NMap) (n a b i : Nat) (nd na : ND) (m : Ent) (nda ndb ndn : ND) : Prop where
  at_n : N' n = some ndn
  at_a : N' a = some nda
  at_b : N' b = some ndb
  other : ∀ q, q ≠ n → q ≠ a → q ≠ b → N' q = N q
  l : na.l = nda.l ++ m :: ndb.l
  ll : nda.l.length = 2
  k : na.ks = nda.ks ++ ndb.ks
  kl : na.ks.length = 0 ∨ nda.ks.length = 3
  nl : ndn.l = nd.l.take i ++ m :: nd.l.drop i
  nk : ndn.ks = nd.ks.take (i + 1) ++ b :: nd.ks.drop (i + 1)
theorem len5 {α : Type} {l : List α} (h : l.length = 5) : ∃ a b m c d, l = [a, b, m, c, d] := by
  match l, h with
  | [a, b, m, c, d], _ => exact ⟨a, b, m, c, d, rfl⟩

set_option maxRecDepth 100000 in
set_option maxHeartbeats 8000000 in
theorem split_any {w : World} {base n i a : Nat} {S : Nat → Prop} {N : NMap} {nd na : ND} (M : Hid (TMem w base S N)) (hbase : base ≤ w.heap.size) (hn : N n = some nd) (ha : N a = some na) (hna : n ≠ a) (hi : i ≤ nd.l.length) (hl4 : nd.l.length ≤ 4) (hkl : nd.ks.length = nd.l.length + 1) (hk : nd.ks[i]? = some a)
    (h5 : na.l.length = 5) (hk6 : na.ks.length = 0 ∨ na.ks.length = 6) :
    Calls Try.prog 114 #[.pointer (some ⟨n, 0, none⟩), .int .i64 (i : Int)] w fun e w' => e = .returned (.tuple #[]) ∧ ∃ N' b nda ndb ndn m, Mod base S w N w' N' ∧ w.heap.size ≤ b ∧ Halved N N' n a b i nd na m nda ndb ndn := by
  have Mn := M.out.at_ n nd hn
  have Ma := M.out.at_ a na ha
  have pn0 := Mn.box.cell 0
  have pn1 := Mn.box.cell 1
  have pa0 := Ma.box.cell 0
  have pa1 := Ma.box.cell 1
  obtain ⟨KA, KC, hkv, hKC, KR, hKg⟩ := Mn.kids
  have hiK : i < nd.ks.length := by omega
  obtain ⟨gb, go, q2, rfl, hq2, hgb, _, hcell⟩ := ptr_at KR hiK
  have e2 : q2 = a := by rw [hq2] at hk; exact Option.some.inj hk
  subst e2
  obtain ⟨EA, EC, hlv, hEC, ER, hEg⟩ := Ma.ents
  obtain ⟨ga, rfl⟩ := hEg (by omega)
  have R3 := Lib.hid (RdL.drop ER (k := 3) (by omega))
  rw [h5] at R3 hlv hEC
  rw [hkv] at pn1
  rw [hlv] at pa0
  have q0 : (0 : Int) ≤ (i : Int) := Int.natCast_nonneg _
  have q1 : (i : Int) < (nd.ks.length : Int) := by omega
  have hsuf := fun w' => slice_suf sl_ent (g := ga) (o := 0) (N := 5) (c := EC) (k := 3) (by omega) (by omega) w'
  have hc1 := cloneE_any EntS.stable EntS.one (c := EC - 3) R3 (by omega)
  clear hq2 KR ER hKg
  go_enter Try.func114, Try.ntmps114
  go_wp2_with fail
  refine hc1.mono ?_
  rintro e w1 ⟨v1, rfl, o1, b1⟩
  obtain ⟨A1, C1, rfl, _⟩ := OwnL.form o1
  have hb1 := b1.size
  obtain ⟨b, hb⟩ : ∃ b, w1.heap.size = b := ⟨_, rfl⟩
  have hnlt0 := Mn.box.lt
  have halt0 := Ma.box.lt
  have hbn : ¬ (b = n) := by omega
  have hba : ¬ (b = q2) := by omega
  have hnb : ¬ (n = b) := fun e => hbn e.symm
  have hab : ¬ (q2 = b) := fun e => hba e.symm
  have hqn : ¬ (q2 = n) := fun e => hna e.symm
  have hld : (na.l.drop 3).length = 2 := by rw [List.length_drop, h5]
  have m1 := Mod.new M.out hbase b1 (l := na.l.drop 3) (ks := []) (by rw [hld]; exact OwnL.ofEntS o1) (OwnL.nil_ : OwnL PtrR 177 1 w.heap.size (fun _ => True) w1 (.slice none 0 0) 0 []) (fun g _ e => by cases e) 181
  rw [hb] at m1
  obtain ⟨w2, hw2⟩ : ∃ w2, w1.alloc (.cells #[.slice A1 (5 - 3) C1, .slice none 0 0] 181) = w2 := ⟨_, rfl⟩
  rw [hw2] at m1
  have hn2 : upd N b ⟨.slice A1 (5 - 3) C1, na.l.drop 3, .slice none 0 0, []⟩ n = some nd := (upd_ne _ _ hnb).trans hn
  have ha2 : upd N b ⟨.slice A1 (5 - 3) C1, na.l.drop 3, .slice none 0 0, []⟩ q2 = some na := (upd_ne _ _ hab).trans ha
  have hb2 : upd N b ⟨.slice A1 (5 - 3) C1, na.l.drop 3, .slice none 0 0, []⟩ b = some ⟨.slice A1 (5 - 3) C1, na.l.drop 3, .slice none 0 0, []⟩ := upd_same _ _ _
  have hoth2 : ∀ q, q ≠ n → q ≠ q2 → q ≠ b → upd N b ⟨.slice A1 (5 - 3) C1, na.l.drop 3, .slice none 0 0, []⟩ q = N q := fun q _ _ h => upd_ne _ _ h
  have hleaf := leaf_any (m1.mem.at_ q2 na ha2)
  rcases hk6 with hk0 | hk6
  · have e0 : (na.ks.length == 0) = true := by simpa using hk0
    rw [e0] at hleaf
    clear o1 b1 hc1
    go_wp2_with fail
    refine hleaf.mono ?_
    rintro e wq ⟨rfl, rfl⟩
    have key := Lib.hid (⟨_, _, _, _, _, m1, hn2, ha2, hb2, hoth2, by simp, .inl hk0⟩ : ∃ N3 kva ksa kvb ksb, Mod base S w N wq N3 ∧ N3 n = some nd ∧ N3 q2 = some ⟨na.lv, na.l, kva, ksa⟩ ∧ N3 b = some ⟨.slice A1 (5 - 3) C1, na.l.drop 3, kvb, ksb⟩ ∧ (∀ q, q ≠ n → q ≠ q2 → q ≠ b → N3 q = N q) ∧ na.ks = ksa ++ ksb ∧ (na.ks.length = 0 ∨ ksa.length = 3))
    clear m1 hleaf hn2 ha2 hb2 hoth2 M
    go_wp2_with fail
    obtain ⟨N3, kva, ksa, kvb, ksb, m3, hn3, ha3, hb3, hother, hks, hksl⟩ := key.out
    clear key
    -- region 5
    have Mq := Lib.hid m3.mem
    have Bn := m3.mem.at_ n nd hn3
    have Ba := m3.mem.at_ q2 _ ha3
    obtain ⟨EA3, EC3, hlv3, hEC3, ER3, hEg3⟩ := Ba.ents
    have e3 : EA3 = some ⟨ga, 0, none⟩ ∧ EC3 = EC := by
      have := hlv.symm.trans hlv3
      injection this with e1 e2 e3
      exact ⟨e1.symm, e3.symm⟩
    obtain ⟨rfl, rfl⟩ := e3
    obtain ⟨y0, y1, ym, y3, y4, hl5⟩ := len5 h5
    obtain ⟨VA, vm, vc, hga, hER, cm0, cm1⟩ := entS_at ER3 (k := 2) (y := ym) (by rw [hl5]; rfl)
    have c1 := Bn.box.cell 0
    have c2 := Ba.box.cell 0
    have hsz3 := m3.keep.size
    have dis1 : ∀ k, Blk n nd k → k ≠ n → True := fun _ _ _ => trivial
    have nn := Bn.ne1
    have na_ : nd.lv.ownBlock ≠ some q2 := fun e => m3.mem.dis n q2 nd _ hn3 ha3 hna q2 (.inr (.inl e)) (.inl rfl)
    have ng_ : nd.lv.ownBlock ≠ some ga := fun e => m3.mem.dis n q2 nd _ hn3 ha3 hna ga (.inr (.inl e)) (.inr (.inl (by rw [hlv]; rfl)))
    have hnlt := Bn.box.lt
    have halt := Ba.box.lt
    have HO3 := Lib.hid Bn.l
    have HR3 := Lib.hid (EntR.stable _ (Go.Cib.Rest S nd.lv) _ wq _ _ hER fun b hb _ => ⟨⟨hb, fun e => m3.mem.sep n nd b hn3 (.inr (.inl e.symm)) hb⟩, rfl⟩)
    rw [hlv] at c2
    have hcs : wq.cell? ⟨n, 0, none⟩ = some nd.lv ∧ wq.cell? ⟨q2, 0, none⟩ = some (.slice (some ⟨ga, 0, none⟩) 5 EC3) ∧ wq.cell? ⟨ga, 4, none⟩ = some (.string ym.key) ∧ wq.cell? ⟨ga, 5, none⟩ = some (.slice VA vm vc) := ⟨c1, by simpa using c2, cm0, cm1⟩
    have fn0 := Bn.box.frozen 0
    have HM3 := Lib.hid m3
    have HN3 := Lib.hid hother
    clear m3 Mq Bn Ba hlv3 hEC3 ER3 hEg3 hER cm0 cm1 c1 c2 dis1 hother
    refine wp_region_L (S := fun w' => w'.cell? ⟨n, 0, none⟩ = some nd.lv ∧ w'.cell? ⟨q2, 0, none⟩ = some (.slice (some ⟨ga, 0, none⟩) 5 EC3) ∧ w'.cell? ⟨ga, 4, none⟩ = some (.string ym.key) ∧ w'.cell? ⟨ga, 5, none⟩ = some (.slice VA vm vc)) [14, 15, 16] (by kernel_rfl) (hcs) (fun hHeld => ?_)
    obtain ⟨wd, hwd⟩ : ∃ wd, wq.drew = wd := ⟨_, rfl⟩
    have hbd : Below wq.heap.size wq wd := hwd ▸ (Below.refl _ _).drew
    rw [hwd] at hHeld ⊢
    clear hwd
    refine wpAnyL_take (i := 0) (v := ?_) rfl (by kernel_rfl) (by kernel_rfl) (by kernel_rfl) (by kernel_rfl) (fun _ _ _ h => h) (Or.inl ⟨by first | kernel_rfl | rfl, ?_⟩) (by assumption) ?_
    rotate_left
    · (intro wq0 hSw; (try dsimp only at hSw); (try simp (maxSteps := 2000000) only [List.getElem_toArray, List.getElem_cons_succ, List.getElem_cons_zero]); go_simp); try with_reducible rfl
    try simp (maxSteps := 2000000) only [List.getElem_toArray, List.getElem_cons_succ, List.getElem_cons_zero, Act.put, List.setIfInBounds_toArray, List.set_cons_zero, List.set_cons_succ]
    refine wpAnyL_take (i := 1) (v := ?_) rfl (by kernel_rfl) (by kernel_rfl) (by kernel_rfl) (by kernel_rfl) (fun _ _ _ h => h) (Or.inl ⟨by first | kernel_rfl | rfl, ?_⟩) (by assumption) ?_
    rotate_left
    · (intro wq0 hSw; (try dsimp only at hSw); (try simp (maxSteps := 2000000) only [List.getElem_toArray, List.getElem_cons_succ, List.getElem_cons_zero]); go_simp); try with_reducible rfl
    try simp (maxSteps := 2000000) only [List.getElem_toArray, List.getElem_cons_succ, List.getElem_cons_zero, Act.put, List.setIfInBounds_toArray, List.set_cons_zero, List.set_cons_succ]
    refine wpAnyL_take (i := 2) (v := ?_) rfl (by kernel_rfl) (by kernel_rfl) (by kernel_rfl) (by kernel_rfl) (fun _ _ _ h => h) (Or.inl ⟨by first | kernel_rfl | rfl, ?_⟩) (by assumption) ?_
    rotate_left
    · (intro wq0 hSw; (try dsimp only at hSw); (try simp (maxSteps := 2000000) only [List.getElem_toArray, List.getElem_cons_succ, List.getElem_cons_zero]); go_simp); try with_reducible rfl
    try simp (maxSteps := 2000000) only [List.getElem_toArray, List.getElem_cons_succ, List.getElem_cons_zero, Act.put, List.setIfInBounds_toArray, List.set_cons_zero, List.set_cons_succ]
    refine wpAnyL_take (i := 3) (v := ?_) rfl (by kernel_rfl) (by kernel_rfl) (by kernel_rfl) (by kernel_rfl) (fun _ _ _ h => h) (Or.inl ⟨by first | kernel_rfl | rfl, ?_⟩) (by assumption) ?_
    rotate_left
    · (intro wq0 hSw; (try dsimp only at hSw); (try simp (maxSteps := 2000000) only [List.getElem_toArray, List.getElem_cons_succ, List.getElem_cons_zero]); go_simp); try with_reducible rfl
    try simp (maxSteps := 2000000) only [List.getElem_toArray, List.getElem_cons_succ, List.getElem_cons_zero, Act.put, List.setIfInBounds_toArray, List.set_cons_zero, List.set_cons_succ]
    refine wpAnyL_take (i := 4) (v := ?_) rfl (by kernel_rfl) (by kernel_rfl) (by kernel_rfl) (by kernel_rfl) (fun _ _ _ h => h) (Or.inl ⟨by first | kernel_rfl | rfl, ?_⟩) (by assumption) ?_
    rotate_left
    · (intro wq0 hSw; (try dsimp only at hSw); (try simp (maxSteps := 2000000) only [List.getElem_toArray, List.getElem_cons_succ, List.getElem_cons_zero]); go_simp); try with_reducible rfl
    try simp (maxSteps := 2000000) only [List.getElem_toArray, List.getElem_cons_succ, List.getElem_cons_zero, Act.put, List.setIfInBounds_toArray, List.set_cons_zero, List.set_cons_succ]
    refine wpAnyL_take (i := 5) (v := ?_) rfl (by kernel_rfl) (by kernel_rfl) (by kernel_rfl) (by kernel_rfl) (fun _ _ _ h => h) (Or.inl ⟨by first | kernel_rfl | rfl, ?_⟩) (by assumption) ?_
    rotate_left
    · (intro wq0 hSw; (try dsimp only at hSw); (try simp (maxSteps := 2000000) only [List.getElem_toArray, List.getElem_cons_succ, List.getElem_cons_zero]); go_simp); try with_reducible rfl
    try simp (maxSteps := 2000000) only [List.getElem_toArray, List.getElem_cons_succ, List.getElem_cons_zero, Act.put, List.setIfInBounds_toArray, List.set_cons_zero, List.set_cons_succ]
    refine wpAnyL_take (i := 6) (v := ?_) rfl (by kernel_rfl) (by kernel_rfl) (by kernel_rfl) (by kernel_rfl) (fun _ _ _ h => h) (Or.inl ⟨by first | kernel_rfl | rfl, ?_⟩) (by assumption) ?_
    rotate_left
    · (intro wq0 hSw; (try dsimp only at hSw); (try simp (maxSteps := 2000000) only [List.getElem_toArray, List.getElem_cons_succ, List.getElem_cons_zero]); go_simp); try with_reducible rfl
    try simp (maxSteps := 2000000) only [List.getElem_toArray, List.getElem_cons_succ, List.getElem_cons_zero, Act.put, List.setIfInBounds_toArray, List.set_cons_zero, List.set_cons_succ]
    refine wpAnyL_take (i := 7) (v := ?_) rfl (by kernel_rfl) (by kernel_rfl) (by kernel_rfl) (by kernel_rfl) (fun _ _ _ h => h) (Or.inl ⟨by first | kernel_rfl | rfl, ?_⟩) (by assumption) ?_
    rotate_left
    · (intro wq0 hSw; (try dsimp only at hSw); (try simp (maxSteps := 2000000) only [List.getElem_toArray, List.getElem_cons_succ, List.getElem_cons_zero]); go_simp); try with_reducible rfl
    try simp (maxSteps := 2000000) only [List.getElem_toArray, List.getElem_cons_succ, List.getElem_cons_zero, Act.put, List.setIfInBounds_toArray, List.set_cons_zero, List.set_cons_succ]
    refine wpAnyL_take (i := 8) (v := ?_) rfl (by kernel_rfl) (by kernel_rfl) (by kernel_rfl) (by kernel_rfl) (fun _ _ _ h => h) (Or.inl ⟨by first | kernel_rfl | rfl, ?_⟩) (by assumption) ?_
    rotate_left
    · (intro wq0 hSw; (try dsimp only at hSw); (try simp (maxSteps := 2000000) only [List.getElem_toArray, List.getElem_cons_succ, List.getElem_cons_zero]); go_simp); try with_reducible rfl
    try simp (maxSteps := 2000000) only [List.getElem_toArray, List.getElem_cons_succ, List.getElem_cons_zero, Act.put, List.setIfInBounds_toArray, List.set_cons_zero, List.set_cons_succ]
    refine wpAnyL_take (i := 9) (v := ?_) rfl (by kernel_rfl) (by kernel_rfl) (by kernel_rfl) (by kernel_rfl) (fun _ _ _ h => h) (Or.inl ⟨by first | kernel_rfl | rfl, ?_⟩) (by assumption) ?_
    rotate_left
    · (intro wq0 hSw; (try dsimp only at hSw); (try simp (maxSteps := 2000000) only [List.getElem_toArray, List.getElem_cons_succ, List.getElem_cons_zero]); go_simp); try with_reducible rfl
    try simp (maxSteps := 2000000) only [List.getElem_toArray, List.getElem_cons_succ, List.getElem_cons_zero, Act.put, List.setIfInBounds_toArray, List.set_cons_zero, List.set_cons_succ]
    refine wpAnyL_take (i := 10) (v := ?_) rfl (by kernel_rfl) (by kernel_rfl) (by kernel_rfl) (by kernel_rfl) (fun _ _ _ h => h) (Or.inl ⟨by first | kernel_rfl | rfl, ?_⟩) (by assumption) ?_
    rotate_left
    · (intro wq0 hSw; (try dsimp only at hSw); (try simp (maxSteps := 2000000) only [List.getElem_toArray, List.getElem_cons_succ, List.getElem_cons_zero]); go_simp); try with_reducible rfl
    try simp (maxSteps := 2000000) only [List.getElem_toArray, List.getElem_cons_succ, List.getElem_cons_zero, Act.put, List.setIfInBounds_toArray, List.set_cons_zero, List.set_cons_succ]
    refine wpAnyL_take (i := 11) (v := ?_) rfl (by kernel_rfl) (by kernel_rfl) (by kernel_rfl) (by kernel_rfl) (fun _ _ _ h => h) (Or.inl ⟨by first | kernel_rfl | rfl, ?_⟩) (by assumption) ?_
    rotate_left
    · (intro wq0 hSw; (try dsimp only at hSw); (try simp (maxSteps := 2000000) only [List.getElem_toArray, List.getElem_cons_succ, List.getElem_cons_zero]); go_simp); try with_reducible rfl
    try simp (maxSteps := 2000000) only [List.getElem_toArray, List.getElem_cons_succ, List.getElem_cons_zero, Act.put, List.setIfInBounds_toArray, List.set_cons_zero, List.set_cons_succ]
    refine wpAnyL_ready (rs := [12]) (by kernel_rfl) (by simp) ?_
    refine AllReadyL.cons rfl (fun K hK => ?_) AllReadyL.nil
    try simp (maxSteps := 2000000) only [List.getElem_toArray, List.getElem_cons_succ, List.getElem_cons_zero]
    go_simp
    have hal : Below wd.heap.size wd (wd.alloc (.cells #[.string ym.key, .slice VA vm vc] 189)) := (Below.refl _ _).alloc (Nat.le_refl _) _
    have hbx := BoxAt.new wd #[.string ym.key, .slice VA vm vc] 189
    obtain ⟨wa, hwa⟩ : ∃ wa, wd.alloc (.cells #[.string ym.key, .slice VA vm vc] 189) = wa := ⟨_, rfl⟩
    rw [hwa] at hal hbx
    have hba9 : Below wq.heap.size wq wa := hbd.trans (hal.mono hbd.size)
    have hsa := hba9.size
    obtain ⟨vb, hvb⟩ : ∃ vb, wd.heap.size = vb := ⟨_, rfl⟩
    have hqd := hbd.size
    rw [hvb] at hbx hqd hal
    have hd1 : wa.cell? ⟨n, 0, none⟩ = some nd.lv ∧ wa.cell? ⟨q2, 0, none⟩ = some (.slice (some ⟨ga, 0, none⟩) 5 EC3) ∧ wa.cell? ⟨ga, 4, none⟩ = some (.string ym.key) ∧ wa.cell? ⟨ga, 5, none⟩ = some (.slice VA vm vc) := ⟨(hba9.cell (p := ⟨n, 0, none⟩) hnlt).trans hcs.1, (hba9.cell (p := ⟨q2, 0, none⟩) halt).trans hcs.2.1, (hba9.cell (p := ⟨ga, 4, none⟩) hga).trans hcs.2.2.1, (hba9.cell (p := ⟨ga, 5, none⟩) hga).trans hcs.2.2.2⟩
    try rw [hwa]
    try rw [hvb]
    refine hK.out _ _ (by first | exact hd1 | (rw [hwa]; exact hd1)) (fun hHeld => ?_)
    clear hK K
    try simp (maxSteps := 2000000) only [List.getElem_toArray, List.getElem_cons_succ, List.getElem_cons_zero, Act.put, List.setIfInBounds_toArray, List.set_cons_zero, List.set_cons_succ]
    try rw [hwa]
    try rw [hvb]
    clear hwa
    refine wpAnyL_ready (rs := [13]) (by kernel_rfl) (by simp) ?_
    refine AllReadyL.cons rfl (fun K hK => ?_) AllReadyL.nil
    try simp (maxSteps := 2000000) only [List.getElem_toArray, List.getElem_cons_succ, List.getElem_cons_zero]
    go_simp
    have hne9 : nd.lv.ownBlock ≠ some vb := fun e => by have := (OwnL.lt HO3.out vb e).2; omega
    have hinsE := insE_own (i := i) (Lib.hid (OwnL.keep EntR.stable HO3.out hba9)) (Nat.le_trans hbase (Nat.le_trans hsz3 hsa)) hbx (Lib.hid (EntR.stable _ (Go.Cib.Rest S nd.lv) _ wa _ _ HR3.out fun b' hb' hl' => ⟨hb', hba9.block b' hl'⟩)) rfl hne9 hi (by omega)
    refine hinsE.mono ?_
    rintro e wb ⟨v6, rfl, o6, g6, at6⟩
    obtain ⟨A7, C7, rfl, _⟩ := OwnL.form o6
    try (go_wp2_with fail)
    have hd2 : wb.cell? ⟨n, 0, none⟩ = some nd.lv ∧ wb.cell? ⟨q2, 0, none⟩ = some (.slice (some ⟨ga, 0, none⟩) 5 EC3) ∧ wb.cell? ⟨ga, 4, none⟩ = some (.string ym.key) ∧ wb.cell? ⟨ga, 5, none⟩ = some (.slice VA vm vc) := ⟨g6.cell hd1.1 (fun e => nn e.symm), g6.cell hd1.2.1 (fun e => na_ e.symm), g6.cell hd1.2.2.1 (fun e => ng_ e.symm), g6.cell hd1.2.2.2 (fun e => ng_ e.symm)⟩
    refine hK.out _ _ hd2 (fun hHeld => ?_)
    clear hK K
    try simp (maxSteps := 2000000) only [List.getElem_toArray, List.getElem_cons_succ, List.getElem_cons_zero, Act.put, List.setIfInBounds_toArray, List.set_cons_zero, List.set_cons_succ]
    have fb0 : wb.frozen? ⟨n, 0, none⟩ = false := (World.frozen?_of_block (a := ⟨n, 0, none⟩) ((g6.block n (by omega) (fun e => nn e.symm)).trans (hba9.block n hnlt))).trans fn0
    refine wpAnyL_ready (rs := [14]) (by kernel_rfl) (by simp) ?_
    refine AllReadyL.last rfl (by decide) (fun K hK => ?_) AllReadyL.nil
    try simp (maxSteps := 2000000) only [List.getElem_toArray, List.getElem_cons_succ, List.getElem_cons_zero]
    go_simp
    refine hK.out _ _ ?_
    clear hK K
    try simp (maxSteps := 2000000) only [List.getElem_toArray, List.getElem_cons_succ, List.getElem_cons_zero, Act.put, List.setIfInBounds_toArray, List.set_cons_zero, List.set_cons_succ]
    refine wpAnyL_ready (rs := [15]) (by kernel_rfl) (by simp) ?_
    refine AllReadyL.last rfl (by decide) (fun K hK => ?_) AllReadyL.nil
    try simp (maxSteps := 2000000) only [List.getElem_toArray, List.getElem_cons_succ, List.getElem_cons_zero]
    go_simp
    refine hK.out _ _ ?_
    clear hK K
    try simp (maxSteps := 2000000) only [List.getElem_toArray, List.getElem_cons_succ, List.getElem_cons_zero, Act.put, List.setIfInBounds_toArray, List.set_cons_zero, List.set_cons_succ]
    refine wpAnyL_ready (rs := [16]) (by kernel_rfl) (by simp) ?_
    refine AllReadyL.last rfl (by decide) (fun K hK => ?_) AllReadyL.nil
    try simp (maxSteps := 2000000) only [List.getElem_toArray, List.getElem_cons_succ, List.getElem_cons_zero]
    go_simp
    refine hK.out _ _ ?_
    clear hK K
    try simp (maxSteps := 2000000) only [List.getElem_toArray, List.getElem_cons_succ, List.getElem_cons_zero, Act.put, List.setIfInBounds_toArray, List.set_cons_zero, List.set_cons_succ]
    refine wpAnyL_done (by kernel_rfl) ?_ _
    have hsz1 := g6.size
    have hz9 : wq.heap.size ≤ wa.heap.size := hsa
    have kp6 : Keep (fun k => nd.lv.ownBlock = some k) wq wb := (Keep.of_below hba9).trans (Keep.of_grown g6) (fun k hk hl => by exact hk.symm)
    have m4 := HM3.out.trans (Mod.setL HM3.out.mem hn3 kp6 (l' := nd.l.take i ++ ym :: nd.l.drop i) (v' := .slice A7 (nd.l.length + 1) C7) (by
      have e : (nd.l.take i ++ ym :: nd.l.drop i).length = nd.l.length + 1 := by simp only [List.length_append, List.length_cons, List.length_take, List.length_drop]; omega
      rw [e]; exact o6) (at6.imp id (fun ⟨g, e1, e2⟩ g' e3 => by rw [e1] at e3; injection e3 with e3; omega)))
    have hn4 : upd N3 n ⟨.slice A7 (nd.l.length + 1) C7, nd.l.take i ++ ym :: nd.l.drop i, nd.kv, nd.ks⟩ n = some _ := upd_same _ _ _
    have ha4 : upd N3 n ⟨.slice A7 (nd.l.length + 1) C7, nd.l.take i ++ ym :: nd.l.drop i, nd.kv, nd.ks⟩ q2 = some _ := (upd_ne _ _ hqn).trans ha3
    have hb4 : upd N3 n ⟨.slice A7 (nd.l.length + 1) C7, nd.l.take i ++ ym :: nd.l.drop i, nd.kv, nd.ks⟩ b = some _ := (upd_ne _ _ hbn).trans hb3
    have ho4 : ∀ q, q ≠ n → q ≠ q2 → q ≠ b → upd N3 n ⟨.slice A7 (nd.l.length + 1) C7, nd.l.take i ++ ym :: nd.l.drop i, nd.kv, nd.ks⟩ q = N q := fun q h1 h2 h3 => (upd_ne _ _ h1).trans (HN3.out q h1 h2 h3)
    obtain ⟨N4, hN4⟩ : ∃ N4, upd N3 n ⟨.slice A7 (nd.l.length + 1) C7, nd.l.take i ++ ym :: nd.l.drop i, nd.kv, nd.ks⟩ = N4 := ⟨_, rfl⟩
    obtain ⟨wc, hwc⟩ : ∃ wc, wb.setCell ⟨n, 0, none⟩ (.slice A7 (nd.l.length + 1) C7) = wc := ⟨_, rfl⟩
    rw [hwc] at m4 ⊢
    rw [hN4] at m4 hn4 ha4 hb4 ho4
    clear hN4 hwc HM3 HN3 kp6 hn3 ha3 hb3 o6 g6 at6 hd1 hd2 hcs HO3 HR3 hinsE hbx hal hba9 hHeld hbd fb0 hsz1 hz9 hsa hne9 hqd
    -- region 6
    have Bn4 := m4.mem.at_ n _ hn4
    have d1 := Bn4.box.cell 1
    have f1 := Bn4.box.frozen 1
    have ln4 := Bn4.box.lt
    obtain ⟨A8, C8, hkv8, hC8⟩ := OwnL.form Bn4.k
    have HK4 := Lib.hid Bn4.k
    have nk1 := Bn4.ne2
    have nk2 := (OwnL.lt Bn4.k)
    have hwc0 : base ≤ wc.heap.size := Nat.le_trans hbase m4.keep.size
    have HM4 := Lib.hid m4
    have HN4 := Lib.hid ho4
    clear m4 Bn4 ho4
    have hsv : Hid (BoxAt (wc.alloc (.cells #[.pointer (some ⟨b, 0, none⟩)] 177)) wc.heap.size #[.pointer (some ⟨b, 0, none⟩)]) := Lib.hid (BoxAt.new wc _ _)
    have hal4 : Below wc.heap.size wc (wc.alloc (.cells #[.pointer (some ⟨b, 0, none⟩)] 177)) := (Below.refl _ _).alloc (Nat.le_refl _) _
    obtain ⟨we, hwe⟩ : ∃ we, wc.alloc (.cells #[.pointer (some ⟨b, 0, none⟩)] 177) = we := ⟨_, rfl⟩
    obtain ⟨vc4, hvc4⟩ : ∃ vc4, wc.heap.size = vc4 := ⟨_, rfl⟩
    rw [hwe] at hal4 hsv
    have hIP := insP_own (n := nd.ks.length) (i := i + 1) (x := b) (Lib.hid (OwnL.keep PtrR.stable HK4.out hal4)) (Nat.le_trans hwc0 hal4.size) hsv.out (Lib.hid rfl) rfl (fun e => by have := (nk2 _ e).2; omega) (by omega) (by omega)
    have hw1 : IntKind.i64.wrap ((i : Int) + 1) = (i : Int) + 1 := by rw [IntKind.wrap_i64]; omega
    have d1e : we.cell? ⟨n, 1, none⟩ = some nd.kv := (hal4.cell (p := ⟨n, 1, none⟩) ln4).trans d1
    have f1e : we.frozen? ⟨n, 1, none⟩ = false := (hal4.frozen (p := ⟨n, 1, none⟩) ln4).trans f1
    rw [hvc4] at hIP
    rw [hkv, hkl] at hIP
    have nk1' := nk1
    have nk2' := nk2
    rw [hkv] at nk1'
    have HK9 := Lib.hid nk2
    go_wp2_with fail
    refine hIP.mono ?_
    rintro e wf ⟨v8, rfl, o8, g8, at8⟩
    obtain ⟨A9, C9, rfl, _⟩ := OwnL.form o8
    have d1f := g8.cell d1e (fun e => nk1' e.symm)
    have f1f : wf.frozen? ⟨n, 1, none⟩ = false := (World.frozen?_of_block (a := ⟨n, 1, none⟩) (g8.block n (Nat.lt_of_lt_of_le ln4 hal4.size) (fun e => nk1' e.symm))).trans f1e
    have kp8 : Keep (fun k => nd.kv.ownBlock = some k) wc wf := (Keep.of_below hal4).trans (Keep.of_grown g8) (fun k hk hl => by rw [hkv]; exact hk.symm)
    have hk8 : (nd.ks.take (i + 1) ++ b :: nd.ks.drop (i + 1)).length = nd.l.length + 1 + 1 := by simp only [List.length_append, List.length_cons, List.length_take, List.length_drop]; omega
    have hse := hal4.size
    have m5 := HM4.out.trans (Mod.setK HM4.out.mem hn4 kp8 (ks' := nd.ks.take (i + 1) ++ b :: nd.ks.drop (i + 1)) (v' := .slice A9 (nd.l.length + 1 + 1) C9) (by rw [hk8]; exact o8) (at8.imp (fun e => by rw [hkv]; exact e) (fun ⟨g, e1, e2⟩ g' e3 => by rw [e1] at e3; injection e3 with e3; omega)))
    have hn5 : upd N4 n ⟨.slice A7 (nd.l.length + 1) C7, nd.l.take i ++ ym :: nd.l.drop i, .slice A9 (nd.l.length + 1 + 1) C9, nd.ks.take (i + 1) ++ b :: nd.ks.drop (i + 1)⟩ n = some _ := upd_same _ _ _
    have ha5 : upd N4 n ⟨.slice A7 (nd.l.length + 1) C7, nd.l.take i ++ ym :: nd.l.drop i, .slice A9 (nd.l.length + 1 + 1) C9, nd.ks.take (i + 1) ++ b :: nd.ks.drop (i + 1)⟩ q2 = some _ := (upd_ne _ _ hqn).trans ha4
    have hb5 : upd N4 n ⟨.slice A7 (nd.l.length + 1) C7, nd.l.take i ++ ym :: nd.l.drop i, .slice A9 (nd.l.length + 1 + 1) C9, nd.ks.take (i + 1) ++ b :: nd.ks.drop (i + 1)⟩ b = some _ := (upd_ne _ _ hbn).trans hb4
    have ho5 : ∀ q, q ≠ n → q ≠ q2 → q ≠ b → upd N4 n ⟨.slice A7 (nd.l.length + 1) C7, nd.l.take i ++ ym :: nd.l.drop i, .slice A9 (nd.l.length + 1 + 1) C9, nd.ks.take (i + 1) ++ b :: nd.ks.drop (i + 1)⟩ q = N q := fun q h1 h2 h3 => (upd_ne _ _ h1).trans (HN4.out q h1 h2 h3)
    obtain ⟨N5, hN5⟩ : ∃ N5, upd N4 n ⟨.slice A7 (nd.l.length + 1) C7, nd.l.take i ++ ym :: nd.l.drop i, .slice A9 (nd.l.length + 1 + 1) C9, nd.ks.take (i + 1) ++ b :: nd.ks.drop (i + 1)⟩ = N5 := ⟨_, rfl⟩
    obtain ⟨wg, hwg⟩ : ∃ wg, wf.setCell ⟨n, 1, none⟩ (.slice A9 (nd.l.length + 1 + 1) C9) = wg := ⟨_, rfl⟩
    have m5' := m5
    rw [hwg, hN5] at m5
    rw [hN5] at hn5 ha5 hb5 ho5
    have Ba5 := m5.mem.at_ q2 _ ha5
    have c5 := Ba5.box.cell 0
    have f5 := Ba5.box.frozen 0
    have l5 := Ba5.box.lt
    obtain ⟨EA5, EC5, hlv5, hEC5, ER5, hEg5⟩ := Ba5.ents
    have e5 : EA5 = some ⟨ga, 0, none⟩ ∧ EC5 = EC3 := by
      have := hlv.symm.trans hlv5
      injection this with e1 e2 e3
      exact ⟨e1.symm, e3.symm⟩
    obtain ⟨rfl, rfl⟩ := e5
    have c5' : wg.cell? ⟨q2, 0, none⟩ = some (.slice (some ⟨ga, 0, none⟩) 5 EC5) := by simpa [hlv] using c5
    have ER6 : RdL (EntS S) 2 (fun _ => True) wg (some ⟨ga, 0, none⟩) 5 na.l := by
      have := ER5
      dsimp only at this
      rwa [h5] at this
    have R7 := Lib.hid (RdL.take ER6 (k := 2) (by omega))
    have hpre7 := fun w' => piece_pre sl_ent (A := some ⟨ga, 0, none⟩) (N := 5) (c := EC5) (k := 2) (by omega) w'
    have hc7 := cloneE_any EntS.stable EntS.one (c := EC5) R7 (by omega)
    have HM5 := Lib.hid m5
    have HN5 := Lib.hid ho5
    clear m5 m5' hN5 Ba5 c5 ER5 ho5 HM4 HN4 kp8 hn4 ha4 hb4 o8 g8 at8 hlv5 hEg5 hIP d1e f1e hal4 hwe hwc0 HK4 hsv hEC5
    go_wp2_with fail
    refine hc7.mono ?_
    rintro e wh ⟨v9, rfl, o9, b9⟩
    obtain ⟨A10, C10, rfl, _⟩ := OwnL.form o9
    have c9 := (b9.cell (p := ⟨q2, 0, none⟩) l5).trans c5'
    have f9 := (b9.frozen (p := ⟨q2, 0, none⟩) l5).trans f5
    have hlt2 : (na.l.take 2).length = 2 := by rw [List.length_take, h5]; rfl
    have m6 := HM5.out.trans (Mod.setL HM5.out.mem ha5 (Keep.of_below b9) (l' := na.l.take 2) (v' := .slice A10 2 C10) (by rw [hlt2]; exact OwnL.basem (OwnL.ofEntS o9) (Nat.le_trans hbase HM5.out.keep.size)) (.inr fun g e => (OwnL.lt o9 g e).1))
    have hfin : ∃ N' b' nda ndb ndn m, Mod base S w N (wh.setCell ⟨q2, 0, none⟩ (.slice A10 2 C10)) N' ∧ w.heap.size ≤ b' ∧ Halved N N' n q2 b' i nd na m nda ndb ndn :=
      ⟨_, b, _, _, _, ym, m6, by omega, ⟨(upd_ne _ _ hna).trans hn5, upd_same _ _ _, (upd_ne _ _ hba).trans hb5, fun q h1 h2 h3 => (upd_ne _ _ h2).trans (HN5.out q h1 h2 h3), by rw [hl5]; rfl, hlt2, hks, hksl, rfl, rfl⟩⟩
    have HF := Lib.hid hfin
    clear hfin m6 HM5 HN5 hn5 ha5 hb5 o9 b9 hwg hc7
    go_wp2_with fail
    refine bodyPost_end (results_none rfl _ _ _) rfl ?_
    exact ⟨rfl, HF.out⟩
  · have e0 : (na.ks.length == 0) = false := by simpa using (by omega : ¬ na.ks.length = 0)
    rw [e0] at hleaf
    clear hc1 o1 b1
    go_wp2_with fail
    refine hleaf.mono ?_
    rintro e w3 ⟨rfl, rfl⟩
    have Na := m1.mem.at_ q2 na ha2
    have Nb := m1.mem.at_ b _ hb2
    have ca1 := Na.box.cell 1
    obtain ⟨PA, PC, hpv, hPC, PR, hPg⟩ := Na.kids
    obtain ⟨gk, rfl⟩ := hPg (by omega)
    rw [hk6] at hpv hPC PR
    rw [hpv] at ca1
    have R4 := Lib.hid (RdL.drop PR (k := 3) (by omega))
    have hsuf4 := fun w' => slice_suf sl_ptr (g := gk) (o := 0) (N := 6) (c := PC) (k := 3) (by omega) (by omega) w'
    have hc4 := cloneP_any PtrR.stable PtrR.one (c := PC - 3) R4 (by omega)
    have cb1 := Nb.box.cell 1
    have fb1 := Nb.box.frozen 1
    have lb := Nb.box.lt
    have HM1 := Lib.hid m1
    clear M Na Nb PR m1 hleaf
    go_wp2_with fail
    refine hc4.mono ?_
    rintro e w4 ⟨v4, rfl, o4, b4⟩
    obtain ⟨A4, C4, rfl, _⟩ := OwnL.form o4
    have hkd : (na.ks.drop 3).length = 3 := by rw [List.length_drop, hk6]
    have m2 := HM1.out.trans (Mod.setK HM1.out.mem hb2 (Keep.of_below b4) (ks' := na.ks.drop 3) (v' := .slice A4 (6 - 3) C4) (by rw [hkd]; exact OwnL.ptrT (OwnL.basem o4 (Nat.le_trans hbase HM1.out.keep.size))) (.inr fun g e => (OwnL.lt o4 g e).1))
    have cb2 := (b4.cell (p := ⟨b, 1, none⟩) lb).trans cb1
    have fb2 := (b4.frozen (p := ⟨b, 1, none⟩) lb).trans fb1
    obtain ⟨w5, hw5⟩ : ∃ w5, w4.setCell ⟨b, 1, none⟩ (.slice A4 (6 - 3) C4) = w5 := ⟨_, rfl⟩
    rw [hw5] at m2
    obtain ⟨N2, hN2⟩ : ∃ N2, upd (upd N b ⟨.slice A1 (5 - 3) C1, na.l.drop 3, .slice none 0 0, []⟩) b ⟨.slice A1 (5 - 3) C1, na.l.drop 3, .slice A4 (6 - 3) C4, na.ks.drop 3⟩ = N2 := ⟨_, rfl⟩
    have hn3 : N2 n = some nd := by rw [← hN2]; exact (upd_ne _ _ hnb).trans hn2
    have ha3 : N2 q2 = some na := by rw [← hN2]; exact (upd_ne _ _ hab).trans ha2
    have hb3 : N2 b = some ⟨.slice A1 (5 - 3) C1, na.l.drop 3, .slice A4 (6 - 3) C4, na.ks.drop 3⟩ := by rw [← hN2]; exact upd_same _ _ _
    have hoth3 : ∀ q, q ≠ n → q ≠ q2 → q ≠ b → N2 q = N q := fun q h1 h2 h3 => by rw [← hN2]; exact (upd_ne _ _ h3).trans (hoth2 q h1 h2 h3)
    rw [hN2] at m2
    have Na := m2.mem.at_ q2 na ha3
    have ca2 := Na.box.cell 1
    have fa2 := Na.box.frozen 1
    have la := Na.box.lt
    obtain ⟨PA, PC2, hpv2, hPC2, PR, hPg2⟩ := Na.kids
    have e3 : PA = some ⟨gk, 0, none⟩ ∧ PC2 = PC := by
      have := hpv.symm.trans hpv2
      injection this with e1 e2 e3
      exact ⟨e1.symm, e3.symm⟩
    obtain ⟨rfl, rfl⟩ := e3
    rw [hk6] at hPC2
    rw [hpv] at ca2
    have R5 := Lib.hid (RdL.take PR (k := 3) (by omega))
    have hpre5 := fun w' => piece_pre sl_ptr (A := some ⟨gk, 0, none⟩) (N := 6) (c := PC2) (k := 3) (by omega) w'
    have hc5 := cloneP_any PtrR.stable PtrR.one (c := PC2) R5 (by omega)
    have HM2 := Lib.hid m2
    clear hN2 m2 HM1 Na PR hPg hPg2 hpv2 cb1 fb1 o4 b4 hn2 ha2 hb2 hoth2 hc4
    go_wp2_with fail
    refine hc5.mono ?_
    rintro e w6 ⟨v6, rfl, o6, b6⟩
    obtain ⟨A6, C6, rfl, _⟩ := OwnL.form o6
    have hkt : (na.ks.take 3).length = 3 := by rw [List.length_take, hk6]; rfl
    have m3 := HM2.out.trans (Mod.setK HM2.out.mem ha3 (Keep.of_below b6) (ks' := na.ks.take 3) (v' := .slice A6 3 C6) (by rw [hkt]; exact OwnL.ptrT (OwnL.basem o6 (Nat.le_trans hbase HM2.out.keep.size))) (.inr fun g e => (OwnL.lt o6 g e).1))
    have ca3 := (b6.cell (p := ⟨q2, 1, none⟩) la).trans ca2
    have fa3 := (b6.frozen (p := ⟨q2, 1, none⟩) la).trans fa2
    obtain ⟨wq, hwq⟩ : ∃ wq, w6.setCell ⟨q2, 1, none⟩ (.slice A6 3 C6) = wq := ⟨_, rfl⟩
    rw [hwq] at m3
    have key := Lib.hid (⟨_, _, _, _, _, m3, (upd_ne _ _ hna).trans hn3, upd_same _ _ _, (upd_ne _ _ hba).trans hb3, fun q h1 h2 h3 => (upd_ne _ _ h2).trans (hoth3 q h1 h2 h3), (List.take_append_drop 3 na.ks).symm, .inr hkt⟩ : ∃ N3 kva ksa kvb ksb, Mod base S w N wq N3 ∧ N3 n = some nd ∧ N3 q2 = some ⟨na.lv, na.l, kva, ksa⟩ ∧ N3 b = some ⟨.slice A1 (5 - 3) C1, na.l.drop 3, kvb, ksb⟩ ∧ (∀ q, q ≠ n → q ≠ q2 → q ≠ b → N3 q = N q) ∧ na.ks = ksa ++ ksb ∧ (na.ks.length = 0 ∨ ksa.length = 3))
    clear m3 HM2 hn3 ha3 hb3 hoth3 o6 b6 hc5 ca2 fa2
    go_wp2_with fail
    obtain ⟨N3, kva, ksa, kvb, ksb, m3, hn3, ha3, hb3, hother, hks, hksl⟩ := key.out
    clear key hwq hw5
    -- region 5
    have Mq := Lib.hid m3.mem
    have Bn := m3.mem.at_ n nd hn3
    have Ba := m3.mem.at_ q2 _ ha3
    obtain ⟨EA3, EC3, hlv3, hEC3, ER3, hEg3⟩ := Ba.ents
    have e3 : EA3 = some ⟨ga, 0, none⟩ ∧ EC3 = EC := by
      have := hlv.symm.trans hlv3
      injection this with e1 e2 e3
      exact ⟨e1.symm, e3.symm⟩
    obtain ⟨rfl, rfl⟩ := e3
    obtain ⟨y0, y1, ym, y3, y4, hl5⟩ := len5 h5
    obtain ⟨VA, vm, vc, hga, hER, cm0, cm1⟩ := entS_at ER3 (k := 2) (y := ym) (by rw [hl5]; rfl)
    have c1 := Bn.box.cell 0
    have c2 := Ba.box.cell 0
    have hsz3 := m3.keep.size
    have dis1 : ∀ k, Blk n nd k → k ≠ n → True := fun _ _ _ => trivial
    have nn := Bn.ne1
    have na_ : nd.lv.ownBlock ≠ some q2 := fun e => m3.mem.dis n q2 nd _ hn3 ha3 hna q2 (.inr (.inl e)) (.inl rfl)
    have ng_ : nd.lv.ownBlock ≠ some ga := fun e => m3.mem.dis n q2 nd _ hn3 ha3 hna ga (.inr (.inl e)) (.inr (.inl (by rw [hlv]; rfl)))
    have hnlt := Bn.box.lt
    have halt := Ba.box.lt
    have HO3 := Lib.hid Bn.l
    have HR3 := Lib.hid (EntR.stable _ (Go.Cib.Rest S nd.lv) _ wq _ _ hER fun b hb _ => ⟨⟨hb, fun e => m3.mem.sep n nd b hn3 (.inr (.inl e.symm)) hb⟩, rfl⟩)
    rw [hlv] at c2
    have hcs : wq.cell? ⟨n, 0, none⟩ = some nd.lv ∧ wq.cell? ⟨q2, 0, none⟩ = some (.slice (some ⟨ga, 0, none⟩) 5 EC3) ∧ wq.cell? ⟨ga, 4, none⟩ = some (.string ym.key) ∧ wq.cell? ⟨ga, 5, none⟩ = some (.slice VA vm vc) := ⟨c1, by simpa using c2, cm0, cm1⟩
    have fn0 := Bn.box.frozen 0
    have HM3 := Lib.hid m3
    have HN3 := Lib.hid hother
    clear m3 Mq Bn Ba hlv3 hEC3 ER3 hEg3 hER cm0 cm1 c1 c2 dis1 hother
    refine wp_region_L (S := fun w' => w'.cell? ⟨n, 0, none⟩ = some nd.lv ∧ w'.cell? ⟨q2, 0, none⟩ = some (.slice (some ⟨ga, 0, none⟩) 5 EC3) ∧ w'.cell? ⟨ga, 4, none⟩ = some (.string ym.key) ∧ w'.cell? ⟨ga, 5, none⟩ = some (.slice VA vm vc)) [14, 15, 16] (by kernel_rfl) (hcs) (fun hHeld => ?_)
    obtain ⟨wd, hwd⟩ : ∃ wd, wq.drew = wd := ⟨_, rfl⟩
    have hbd : Below wq.heap.size wq wd := hwd ▸ (Below.refl _ _).drew
    rw [hwd] at hHeld ⊢
    clear hwd
    refine wpAnyL_take (i := 0) (v := ?_) rfl (by kernel_rfl) (by kernel_rfl) (by kernel_rfl) (by kernel_rfl) (fun _ _ _ h => h) (Or.inl ⟨by first | kernel_rfl | rfl, ?_⟩) (by assumption) ?_
    rotate_left
    · (intro wq0 hSw; (try dsimp only at hSw); (try simp (maxSteps := 2000000) only [List.getElem_toArray, List.getElem_cons_succ, List.getElem_cons_zero]); go_simp); try with_reducible rfl
    try simp (maxSteps := 2000000) only [List.getElem_toArray, List.getElem_cons_succ, List.getElem_cons_zero, Act.put, List.setIfInBounds_toArray, List.set_cons_zero, List.set_cons_succ]
    refine wpAnyL_take (i := 1) (v := ?_) rfl (by kernel_rfl) (by kernel_rfl) (by kernel_rfl) (by kernel_rfl) (fun _ _ _ h => h) (Or.inl ⟨by first | kernel_rfl | rfl, ?_⟩) (by assumption) ?_
    rotate_left
    · (intro wq0 hSw; (try dsimp only at hSw); (try simp (maxSteps := 2000000) only [List.getElem_toArray, List.getElem_cons_succ, List.getElem_cons_zero]); go_simp); try with_reducible rfl
    try simp (maxSteps := 2000000) only [List.getElem_toArray, List.getElem_cons_succ, List.getElem_cons_zero, Act.put, List.setIfInBounds_toArray, List.set_cons_zero, List.set_cons_succ]
    refine wpAnyL_take (i := 2) (v := ?_) rfl (by kernel_rfl) (by kernel_rfl) (by kernel_rfl) (by kernel_rfl) (fun _ _ _ h => h) (Or.inl ⟨by first | kernel_rfl | rfl, ?_⟩) (by assumption) ?_
    rotate_left
    · (intro wq0 hSw; (try dsimp only at hSw); (try simp (maxSteps := 2000000) only [List.getElem_toArray, List.getElem_cons_succ, List.getElem_cons_zero]); go_simp); try with_reducible rfl
    try simp (maxSteps := 2000000) only [List.getElem_toArray, List.getElem_cons_succ, List.getElem_cons_zero, Act.put, List.setIfInBounds_toArray, List.set_cons_zero, List.set_cons_succ]
    refine wpAnyL_take (i := 3) (v := ?_) rfl (by kernel_rfl) (by kernel_rfl) (by kernel_rfl) (by kernel_rfl) (fun _ _ _ h => h) (Or.inl ⟨by first | kernel_rfl | rfl, ?_⟩) (by assumption) ?_
    rotate_left
    · (intro wq0 hSw; (try dsimp only at hSw); (try simp (maxSteps := 2000000) only [List.getElem_toArray, List.getElem_cons_succ, List.getElem_cons_zero]); go_simp); try with_reducible rfl
    try simp (maxSteps := 2000000) only [List.getElem_toArray, List.getElem_cons_succ, List.getElem_cons_zero, Act.put, List.setIfInBounds_toArray, List.set_cons_zero, List.set_cons_succ]
    refine wpAnyL_take (i := 4) (v := ?_) rfl (by kernel_rfl) (by kernel_rfl) (by kernel_rfl) (by kernel_rfl) (fun _ _ _ h => h) (Or.inl ⟨by first | kernel_rfl | rfl, ?_⟩) (by assumption) ?_
    rotate_left
    · (intro wq0 hSw; (try dsimp only at hSw); (try simp (maxSteps := 2000000) only [List.getElem_toArray, List.getElem_cons_succ, List.getElem_cons_zero]); go_simp); try with_reducible rfl
    try simp (maxSteps := 2000000) only [List.getElem_toArray, List.getElem_cons_succ, List.getElem_cons_zero, Act.put, List.setIfInBounds_toArray, List.set_cons_zero, List.set_cons_succ]
    refine wpAnyL_take (i := 5) (v := ?_) rfl (by kernel_rfl) (by kernel_rfl) (by kernel_rfl) (by kernel_rfl) (fun _ _ _ h => h) (Or.inl ⟨by first | kernel_rfl | rfl, ?_⟩) (by assumption) ?_
    rotate_left
    · (intro wq0 hSw; (try dsimp only at hSw); (try simp (maxSteps := 2000000) only [List.getElem_toArray, List.getElem_cons_succ, List.getElem_cons_zero]); go_simp); try with_reducible rfl
    try simp (maxSteps := 2000000) only [List.getElem_toArray, List.getElem_cons_succ, List.getElem_cons_zero, Act.put, List.setIfInBounds_toArray, List.set_cons_zero, List.set_cons_succ]
    refine wpAnyL_take (i := 6) (v := ?_) rfl (by kernel_rfl) (by kernel_rfl) (by kernel_rfl) (by kernel_rfl) (fun _ _ _ h => h) (Or.inl ⟨by first | kernel_rfl | rfl, ?_⟩) (by assumption) ?_
    rotate_left
    · (intro wq0 hSw; (try dsimp only at hSw); (try simp (maxSteps := 2000000) only [List.getElem_toArray, List.getElem_cons_succ, List.getElem_cons_zero]); go_simp); try with_reducible rfl
    try simp (maxSteps := 2000000) only [List.getElem_toArray, List.getElem_cons_succ, List.getElem_cons_zero, Act.put, List.setIfInBounds_toArray, List.set_cons_zero, List.set_cons_succ]
    refine wpAnyL_take (i := 7) (v := ?_) rfl (by kernel_rfl) (by kernel_rfl) (by kernel_rfl) (by kernel_rfl) (fun _ _ _ h => h) (Or.inl ⟨by first | kernel_rfl | rfl, ?_⟩) (by assumption) ?_
    rotate_left
    · (intro wq0 hSw; (try dsimp only at hSw); (try simp (maxSteps := 2000000) only [List.getElem_toArray, List.getElem_cons_succ, List.getElem_cons_zero]); go_simp); try with_reducible rfl
    try simp (maxSteps := 2000000) only [List.getElem_toArray, List.getElem_cons_succ, List.getElem_cons_zero, Act.put, List.setIfInBounds_toArray, List.set_cons_zero, List.set_cons_succ]
    refine wpAnyL_take (i := 8) (v := ?_) rfl (by kernel_rfl) (by kernel_rfl) (by kernel_rfl) (by kernel_rfl) (fun _ _ _ h => h) (Or.inl ⟨by first | kernel_rfl | rfl, ?_⟩) (by assumption) ?_
    rotate_left
    · (intro wq0 hSw; (try dsimp only at hSw); (try simp (maxSteps := 2000000) only [List.getElem_toArray, List.getElem_cons_succ, List.getElem_cons_zero]); go_simp); try with_reducible rfl
    try simp (maxSteps := 2000000) only [List.getElem_toArray, List.getElem_cons_succ, List.getElem_cons_zero, Act.put, List.setIfInBounds_toArray, List.set_cons_zero, List.set_cons_succ]
    refine wpAnyL_take (i := 9) (v := ?_) rfl (by kernel_rfl) (by kernel_rfl) (by kernel_rfl) (by kernel_rfl) (fun _ _ _ h => h) (Or.inl ⟨by first | kernel_rfl | rfl, ?_⟩) (by assumption) ?_
    rotate_left
    · (intro wq0 hSw; (try dsimp only at hSw); (try simp (maxSteps := 2000000) only [List.getElem_toArray, List.getElem_cons_succ, List.getElem_cons_zero]); go_simp); try with_reducible rfl
    try simp (maxSteps := 2000000) only [List.getElem_toArray, List.getElem_cons_succ, List.getElem_cons_zero, Act.put, List.setIfInBounds_toArray, List.set_cons_zero, List.set_cons_succ]
    refine wpAnyL_take (i := 10) (v := ?_) rfl (by kernel_rfl) (by kernel_rfl) (by kernel_rfl) (by kernel_rfl) (fun _ _ _ h => h) (Or.inl ⟨by first | kernel_rfl | rfl, ?_⟩) (by assumption) ?_
    rotate_left
    · (intro wq0 hSw; (try dsimp only at hSw); (try simp (maxSteps := 2000000) only [List.getElem_toArray, List.getElem_cons_succ, List.getElem_cons_zero]); go_simp); try with_reducible rfl
    try simp (maxSteps := 2000000) only [List.getElem_toArray, List.getElem_cons_succ, List.getElem_cons_zero, Act.put, List.setIfInBounds_toArray, List.set_cons_zero, List.set_cons_succ]
    refine wpAnyL_take (i := 11) (v := ?_) rfl (by kernel_rfl) (by kernel_rfl) (by kernel_rfl) (by kernel_rfl) (fun _ _ _ h => h) (Or.inl ⟨by first | kernel_rfl | rfl, ?_⟩) (by assumption) ?_
    rotate_left
    · (intro wq0 hSw; (try dsimp only at hSw); (try simp (maxSteps := 2000000) only [List.getElem_toArray, List.getElem_cons_succ, List.getElem_cons_zero]); go_simp); try with_reducible rfl
    try simp (maxSteps := 2000000) only [List.getElem_toArray, List.getElem_cons_succ, List.getElem_cons_zero, Act.put, List.setIfInBounds_toArray, List.set_cons_zero, List.set_cons_succ]
    refine wpAnyL_ready (rs := [12]) (by kernel_rfl) (by simp) ?_
    refine AllReadyL.cons rfl (fun K hK => ?_) AllReadyL.nil
    try simp (maxSteps := 2000000) only [List.getElem_toArray, List.getElem_cons_succ, List.getElem_cons_zero]
    go_simp
    have hal : Below wd.heap.size wd (wd.alloc (.cells #[.string ym.key, .slice VA vm vc] 189)) := (Below.refl _ _).alloc (Nat.le_refl _) _
    have hbx := BoxAt.new wd #[.string ym.key, .slice VA vm vc] 189
    obtain ⟨wa, hwa⟩ : ∃ wa, wd.alloc (.cells #[.string ym.key, .slice VA vm vc] 189) = wa := ⟨_, rfl⟩
    rw [hwa] at hal hbx
    have hba9 : Below wq.heap.size wq wa := hbd.trans (hal.mono hbd.size)
    have hsa := hba9.size
    obtain ⟨vb, hvb⟩ : ∃ vb, wd.heap.size = vb := ⟨_, rfl⟩
    have hqd := hbd.size
    rw [hvb] at hbx hqd hal
    have hd1 : wa.cell? ⟨n, 0, none⟩ = some nd.lv ∧ wa.cell? ⟨q2, 0, none⟩ = some (.slice (some ⟨ga, 0, none⟩) 5 EC3) ∧ wa.cell? ⟨ga, 4, none⟩ = some (.string ym.key) ∧ wa.cell? ⟨ga, 5, none⟩ = some (.slice VA vm vc) := ⟨(hba9.cell (p := ⟨n, 0, none⟩) hnlt).trans hcs.1, (hba9.cell (p := ⟨q2, 0, none⟩) halt).trans hcs.2.1, (hba9.cell (p := ⟨ga, 4, none⟩) hga).trans hcs.2.2.1, (hba9.cell (p := ⟨ga, 5, none⟩) hga).trans hcs.2.2.2⟩
    try rw [hwa]
    try rw [hvb]
    refine hK.out _ _ (by first | exact hd1 | (rw [hwa]; exact hd1)) (fun hHeld => ?_)
    clear hK K
    try simp (maxSteps := 2000000) only [List.getElem_toArray, List.getElem_cons_succ, List.getElem_cons_zero, Act.put, List.setIfInBounds_toArray, List.set_cons_zero, List.set_cons_succ]
    try rw [hwa]
    try rw [hvb]
    clear hwa
    refine wpAnyL_ready (rs := [13]) (by kernel_rfl) (by simp) ?_
    refine AllReadyL.cons rfl (fun K hK => ?_) AllReadyL.nil
    try simp (maxSteps := 2000000) only [List.getElem_toArray, List.getElem_cons_succ, List.getElem_cons_zero]
    go_simp
    have hne9 : nd.lv.ownBlock ≠ some vb := fun e => by have := (OwnL.lt HO3.out vb e).2; omega
    have hinsE := insE_own (i := i) (Lib.hid (OwnL.keep EntR.stable HO3.out hba9)) (Nat.le_trans hbase (Nat.le_trans hsz3 hsa)) hbx (Lib.hid (EntR.stable _ (Go.Cib.Rest S nd.lv) _ wa _ _ HR3.out fun b' hb' hl' => ⟨hb', hba9.block b' hl'⟩)) rfl hne9 hi (by omega)
    refine hinsE.mono ?_
    rintro e wb ⟨v6, rfl, o6, g6, at6⟩
    obtain ⟨A7, C7, rfl, _⟩ := OwnL.form o6
    try (go_wp2_with fail)
    have hd2 : wb.cell? ⟨n, 0, none⟩ = some nd.lv ∧ wb.cell? ⟨q2, 0, none⟩ = some (.slice (some ⟨ga, 0, none⟩) 5 EC3) ∧ wb.cell? ⟨ga, 4, none⟩ = some (.string ym.key) ∧ wb.cell? ⟨ga, 5, none⟩ = some (.slice VA vm vc) := ⟨g6.cell hd1.1 (fun e => nn e.symm), g6.cell hd1.2.1 (fun e => na_ e.symm), g6.cell hd1.2.2.1 (fun e => ng_ e.symm), g6.cell hd1.2.2.2 (fun e => ng_ e.symm)⟩
    refine hK.out _ _ hd2 (fun hHeld => ?_)
    clear hK K
    try simp (maxSteps := 2000000) only [List.getElem_toArray, List.getElem_cons_succ, List.getElem_cons_zero, Act.put, List.setIfInBounds_toArray, List.set_cons_zero, List.set_cons_succ]
    have fb0 : wb.frozen? ⟨n, 0, none⟩ = false := (World.frozen?_of_block (a := ⟨n, 0, none⟩) ((g6.block n (by omega) (fun e => nn e.symm)).trans (hba9.block n hnlt))).trans fn0
    refine wpAnyL_ready (rs := [14]) (by kernel_rfl) (by simp) ?_
    refine AllReadyL.last rfl (by decide) (fun K hK => ?_) AllReadyL.nil
    try simp (maxSteps := 2000000) only [List.getElem_toArray, List.getElem_cons_succ, List.getElem_cons_zero]
    go_simp
    refine hK.out _ _ ?_
    clear hK K
    try simp (maxSteps := 2000000) only [List.getElem_toArray, List.getElem_cons_succ, List.getElem_cons_zero, Act.put, List.setIfInBounds_toArray, List.set_cons_zero, List.set_cons_succ]
    refine wpAnyL_ready (rs := [15]) (by kernel_rfl) (by simp) ?_
    refine AllReadyL.last rfl (by decide) (fun K hK => ?_) AllReadyL.nil
    try simp (maxSteps := 2000000) only [List.getElem_toArray, List.getElem_cons_succ, List.getElem_cons_zero]
    go_simp
    refine hK.out _ _ ?_
    clear hK K
    try simp (maxSteps := 2000000) only [List.getElem_toArray, List.getElem_cons_succ, List.getElem_cons_zero, Act.put, List.setIfInBounds_toArray, List.set_cons_zero, List.set_cons_succ]
    refine wpAnyL_ready (rs := [16]) (by kernel_rfl) (by simp) ?_
    refine AllReadyL.last rfl (by decide) (fun K hK => ?_) AllReadyL.nil
    try simp (maxSteps := 2000000) only [List.getElem_toArray, List.getElem_cons_succ, List.getElem_cons_zero]
    go_simp
    refine hK.out _ _ ?_
    clear hK K
    try simp (maxSteps := 2000000) only [List.getElem_toArray, List.getElem_cons_succ, List.getElem_cons_zero, Act.put, List.setIfInBounds_toArray, List.set_cons_zero, List.set_cons_succ]
    refine wpAnyL_done (by kernel_rfl) ?_ _
    have hsz1 := g6.size
    have hz9 : wq.heap.size ≤ wa.heap.size := hsa
    have kp6 : Keep (fun k => nd.lv.ownBlock = some k) wq wb := (Keep.of_below hba9).trans (Keep.of_grown g6) (fun k hk hl => by exact hk.symm)
    have m4 := HM3.out.trans (Mod.setL HM3.out.mem hn3 kp6 (l' := nd.l.take i ++ ym :: nd.l.drop i) (v' := .slice A7 (nd.l.length + 1) C7) (by
      have e : (nd.l.take i ++ ym :: nd.l.drop i).length = nd.l.length + 1 := by simp only [List.length_append, List.length_cons, List.length_take, List.length_drop]; omega
      rw [e]; exact o6) (at6.imp id (fun ⟨g, e1, e2⟩ g' e3 => by rw [e1] at e3; injection e3 with e3; omega)))
    have hn4 : upd N3 n ⟨.slice A7 (nd.l.length + 1) C7, nd.l.take i ++ ym :: nd.l.drop i, nd.kv, nd.ks⟩ n = some _ := upd_same _ _ _
    have ha4 : upd N3 n ⟨.slice A7 (nd.l.length + 1) C7, nd.l.take i ++ ym :: nd.l.drop i, nd.kv, nd.ks⟩ q2 = some _ := (upd_ne _ _ hqn).trans ha3
    have hb4 : upd N3 n ⟨.slice A7 (nd.l.length + 1) C7, nd.l.take i ++ ym :: nd.l.drop i, nd.kv, nd.ks⟩ b = some _ := (upd_ne _ _ hbn).trans hb3
    have ho4 : ∀ q, q ≠ n → q ≠ q2 → q ≠ b → upd N3 n ⟨.slice A7 (nd.l.length + 1) C7, nd.l.take i ++ ym :: nd.l.drop i, nd.kv, nd.ks⟩ q = N q := fun q h1 h2 h3 => (upd_ne _ _ h1).trans (HN3.out q h1 h2 h3)
    obtain ⟨N4, hN4⟩ : ∃ N4, upd N3 n ⟨.slice A7 (nd.l.length + 1) C7, nd.l.take i ++ ym :: nd.l.drop i, nd.kv, nd.ks⟩ = N4 := ⟨_, rfl⟩
    obtain ⟨wc, hwc⟩ : ∃ wc, wb.setCell ⟨n, 0, none⟩ (.slice A7 (nd.l.length + 1) C7) = wc := ⟨_, rfl⟩
    rw [hwc] at m4 ⊢
    rw [hN4] at m4 hn4 ha4 hb4 ho4
    clear hN4 hwc HM3 HN3 kp6 hn3 ha3 hb3 o6 g6 at6 hd1 hd2 hcs HO3 HR3 hinsE hbx hal hba9 hHeld hbd fb0 hsz1 hz9 hsa hne9 hqd
    -- region 6
    have Bn4 := m4.mem.at_ n _ hn4
    have d1 := Bn4.box.cell 1
    have f1 := Bn4.box.frozen 1
    have ln4 := Bn4.box.lt
    obtain ⟨A8, C8, hkv8, hC8⟩ := OwnL.form Bn4.k
    have HK4 := Lib.hid Bn4.k
    have nk1 := Bn4.ne2
    have nk2 := (OwnL.lt Bn4.k)
    have hwc0 : base ≤ wc.heap.size := Nat.le_trans hbase m4.keep.size
    have HM4 := Lib.hid m4
    have HN4 := Lib.hid ho4
    clear m4 Bn4 ho4
    have hsv : Hid (BoxAt (wc.alloc (.cells #[.pointer (some ⟨b, 0, none⟩)] 177)) wc.heap.size #[.pointer (some ⟨b, 0, none⟩)]) := Lib.hid (BoxAt.new wc _ _)
    have hal4 : Below wc.heap.size wc (wc.alloc (.cells #[.pointer (some ⟨b, 0, none⟩)] 177)) := (Below.refl _ _).alloc (Nat.le_refl _) _
    obtain ⟨we, hwe⟩ : ∃ we, wc.alloc (.cells #[.pointer (some ⟨b, 0, none⟩)] 177) = we := ⟨_, rfl⟩
    obtain ⟨vc4, hvc4⟩ : ∃ vc4, wc.heap.size = vc4 := ⟨_, rfl⟩
    rw [hwe] at hal4 hsv
    have hIP := insP_own (n := nd.ks.length) (i := i + 1) (x := b) (Lib.hid (OwnL.keep PtrR.stable HK4.out hal4)) (Nat.le_trans hwc0 hal4.size) hsv.out (Lib.hid rfl) rfl (fun e => by have := (nk2 _ e).2; omega) (by omega) (by omega)
    have hw1 : IntKind.i64.wrap ((i : Int) + 1) = (i : Int) + 1 := by rw [IntKind.wrap_i64]; omega
    have d1e : we.cell? ⟨n, 1, none⟩ = some nd.kv := (hal4.cell (p := ⟨n, 1, none⟩) ln4).trans d1
    have f1e : we.frozen? ⟨n, 1, none⟩ = false := (hal4.frozen (p := ⟨n, 1, none⟩) ln4).trans f1
    rw [hvc4] at hIP
    rw [hkv, hkl] at hIP
    have nk1' := nk1
    have nk2' := nk2
    rw [hkv] at nk1'
    have HK9 := Lib.hid nk2
    go_wp2_with fail
    refine hIP.mono ?_
    rintro e wf ⟨v8, rfl, o8, g8, at8⟩
    obtain ⟨A9, C9, rfl, _⟩ := OwnL.form o8
    have d1f := g8.cell d1e (fun e => nk1' e.symm)
    have f1f : wf.frozen? ⟨n, 1, none⟩ = false := (World.frozen?_of_block (a := ⟨n, 1, none⟩) (g8.block n (Nat.lt_of_lt_of_le ln4 hal4.size) (fun e => nk1' e.symm))).trans f1e
    have kp8 : Keep (fun k => nd.kv.ownBlock = some k) wc wf := (Keep.of_below hal4).trans (Keep.of_grown g8) (fun k hk hl => by rw [hkv]; exact hk.symm)
    have hk8 : (nd.ks.take (i + 1) ++ b :: nd.ks.drop (i + 1)).length = nd.l.length + 1 + 1 := by simp only [List.length_append, List.length_cons, List.length_take, List.length_drop]; omega
    have hse := hal4.size
    have m5 := HM4.out.trans (Mod.setK HM4.out.mem hn4 kp8 (ks' := nd.ks.take (i + 1) ++ b :: nd.ks.drop (i + 1)) (v' := .slice A9 (nd.l.length + 1 + 1) C9) (by rw [hk8]; exact o8) (at8.imp (fun e => by rw [hkv]; exact e) (fun ⟨g, e1, e2⟩ g' e3 => by rw [e1] at e3; injection e3 with e3; omega)))
    have hn5 : upd N4 n ⟨.slice A7 (nd.l.length + 1) C7, nd.l.take i ++ ym :: nd.l.drop i, .slice A9 (nd.l.length + 1 + 1) C9, nd.ks.take (i + 1) ++ b :: nd.ks.drop (i + 1)⟩ n = some _ := upd_same _ _ _
    have ha5 : upd N4 n ⟨.slice A7 (nd.l.length + 1) C7, nd.l.take i ++ ym :: nd.l.drop i, .slice A9 (nd.l.length + 1 + 1) C9, nd.ks.take (i + 1) ++ b :: nd.ks.drop (i + 1)⟩ q2 = some _ := (upd_ne _ _ hqn).trans ha4
    have hb5 : upd N4 n ⟨.slice A7 (nd.l.length + 1) C7, nd.l.take i ++ ym :: nd.l.drop i, .slice A9 (nd.l.length + 1 + 1) C9, nd.ks.take (i + 1) ++ b :: nd.ks.drop (i + 1)⟩ b = some _ := (upd_ne _ _ hbn).trans hb4
    have ho5 : ∀ q, q ≠ n → q ≠ q2 → q ≠ b → upd N4 n ⟨.slice A7 (nd.l.length + 1) C7, nd.l.take i ++ ym :: nd.l.drop i, .slice A9 (nd.l.length + 1 + 1) C9, nd.ks.take (i + 1) ++ b :: nd.ks.drop (i + 1)⟩ q = N q := fun q h1 h2 h3 => (upd_ne _ _ h1).trans (HN4.out q h1 h2 h3)
    obtain ⟨N5, hN5⟩ : ∃ N5, upd N4 n ⟨.slice A7 (nd.l.length + 1) C7, nd.l.take i ++ ym :: nd.l.drop i, .slice A9 (nd.l.length + 1 + 1) C9, nd.ks.take (i + 1) ++ b :: nd.ks.drop (i + 1)⟩ = N5 := ⟨_, rfl⟩
    obtain ⟨wg, hwg⟩ : ∃ wg, wf.setCell ⟨n, 1, none⟩ (.slice A9 (nd.l.length + 1 + 1) C9) = wg := ⟨_, rfl⟩
    have m5' := m5
    rw [hwg, hN5] at m5
    rw [hN5] at hn5 ha5 hb5 ho5
    have Ba5 := m5.mem.at_ q2 _ ha5
    have c5 := Ba5.box.cell 0
    have f5 := Ba5.box.frozen 0
    have l5 := Ba5.box.lt
    obtain ⟨EA5, EC5, hlv5, hEC5, ER5, hEg5⟩ := Ba5.ents
    have e5 : EA5 = some ⟨ga, 0, none⟩ ∧ EC5 = EC3 := by
      have := hlv.symm.trans hlv5
      injection this with e1 e2 e3
      exact ⟨e1.symm, e3.symm⟩
    obtain ⟨rfl, rfl⟩ := e5
    have c5' : wg.cell? ⟨q2, 0, none⟩ = some (.slice (some ⟨ga, 0, none⟩) 5 EC5) := by simpa [hlv] using c5
    have ER6 : RdL (EntS S) 2 (fun _ => True) wg (some ⟨ga, 0, none⟩) 5 na.l := by
      have := ER5
      dsimp only at this
      rwa [h5] at this
    have R7 := Lib.hid (RdL.take ER6 (k := 2) (by omega))
    have hpre7 := fun w' => piece_pre sl_ent (A := some ⟨ga, 0, none⟩) (N := 5) (c := EC5) (k := 2) (by omega) w'
    have hc7 := cloneE_any EntS.stable EntS.one (c := EC5) R7 (by omega)
    have HM5 := Lib.hid m5
    have HN5 := Lib.hid ho5
    clear m5 m5' hN5 Ba5 c5 ER5 ho5 HM4 HN4 kp8 hn4 ha4 hb4 o8 g8 at8 hlv5 hEg5 hIP d1e f1e hal4 hwe hwc0 HK4 hsv hEC5
    go_wp2_with fail
    refine hc7.mono ?_
    rintro e wh ⟨v9, rfl, o9, b9⟩
    obtain ⟨A10, C10, rfl, _⟩ := OwnL.form o9
    have c9 := (b9.cell (p := ⟨q2, 0, none⟩) l5).trans c5'
    have f9 := (b9.frozen (p := ⟨q2, 0, none⟩) l5).trans f5
    have hlt2 : (na.l.take 2).length = 2 := by rw [List.length_take, h5]; rfl
    have m6 := HM5.out.trans (Mod.setL HM5.out.mem ha5 (Keep.of_below b9) (l' := na.l.take 2) (v' := .slice A10 2 C10) (by rw [hlt2]; exact OwnL.basem (OwnL.ofEntS o9) (Nat.le_trans hbase HM5.out.keep.size)) (.inr fun g e => (OwnL.lt o9 g e).1))
    have hfin : ∃ N' b' nda ndb ndn m, Mod base S w N (wh.setCell ⟨q2, 0, none⟩ (.slice A10 2 C10)) N' ∧ w.heap.size ≤ b' ∧ Halved N N' n q2 b' i nd na m nda ndb ndn :=
      ⟨_, b, _, _, _, ym, m6, by omega, ⟨(upd_ne _ _ hna).trans hn5, upd_same _ _ _, (upd_ne _ _ hba).trans hb5, fun q h1 h2 h3 => (upd_ne _ _ h2).trans (HN5.out q h1 h2 h3), by rw [hl5]; rfl, hlt2, hks, hksl, rfl, rfl⟩⟩
    have HF := Lib.hid hfin
    clear hfin m6 HM5 HN5 hn5 ha5 hb5 o9 b9 hwg hc7
    go_wp2_with fail
    refine bodyPost_end (results_none rfl _ _ _) rfl ?_
    exact ⟨rfl, HF.out⟩
end Go.Proofs.Ytpibaahiboajhaa
