/-
  A key that isn't there, put below a node that isn't full.
-/
import Derived.Test.YtpibaahiboajhaaTre6
import Derived.Test.YtpibaahiboajhaaTre8
import Derived.Deep.RegionHeld3
set_option linter.unusedSimpArgs false
set_option linter.unusedVariables false
namespace Go.Proofs.Ytpibaahiboajhaa
open Go.RowKit Go.Cib
attribute [local go_sem] cell_set Later.cell Later.frozen Grw.cell Grw.frozen

section
variable {N N' : NMap} {D root d p : Nat} {pre post fp f : List Ent} {ns0 nsp : List Nat} {nd : ND} {k : ByteArray}
/-- Where one stands, going down to a key that isn't there. -/
structure Way (N : NMap) (D root d p : Nat) (f : List Ent) (k : ByteArray) (pre post fp : List Ent) (ns0 nsp : List Nat) : Prop where
  hole : Hole N D root d p pre post ns0
  tree : TreeOf N d p fp nsp
  all : f = pre ++ fp ++ post
  pre_ : ∀ x ∈ pre, KLt x.key k
  post_ : ∀ x ∈ post, KLt k x.key
  nod : (ns0 ++ nsp).Nodup
theorem Way.rises (h : Way N D root d p f k pre post fp ns0 nsp) (hr : Rises f) : Rises fp := (h.all ▸ hr : Rises (pre ++ fp ++ post)).sub ((List.sublist_append_right pre fp).trans (List.sublist_append_left _ post))
theorem Way.mem (h : Way N D root d p f k pre post fp ns0 nsp) {x : Ent} (hx : x ∈ fp) : x ∈ f := by rw [h.all]; exact List.mem_append_left _ (List.mem_append_right _ hx)
theorem Way.some (h : Way N D root d p f k pre post fp ns0 nsp) : ∀ q ∈ ns0 ++ nsp, ∃ nd, N q = .some nd := by
  obtain ⟨NS, h1, h2⟩ := h.hole N _ _ (fun _ _ => rfl) h.tree
  exact fun q hq => h1.some q (h2.mem_iff.2 hq)
theorem Way.down (h : Way N D root (d + 1) p f k pre post fp ns0 nsp) (hr : Rises f) (hp : N p = .some nd) {i : Nat} (hi : i ≤ nd.l.length) (h1 : ∀ e ∈ nd.l.take i, KLt e.key k) (h2 : ∀ e ∈ nd.l.drop i, KLt k e.key) :
    ∃ q pre' post' fq ns0' nq, nd.ks[i]? = .some q ∧ Way N D root d q f k pre' post' fq ns0' nq := by
  have hrf := h.rises hr
  obtain ⟨q, fq, nq, ns0', a, b, hkq, hHq, hTq, hpq, hfq, A, B, hA, hB, ha, hb⟩ := h.hole.down h.tree hp hi h.nod
  have hra : Rises a := hrf.sub (by rw [hfq]; exact (List.sublist_append_left a fq).trans (List.sublist_append_left _ b))
  have hrb : Rises b := hrf.sub (by rw [hfq]; exact List.sublist_append_right _ b)
  have hla : ∀ x ∈ a, KLt x.key k := by rw [ha] at hra ⊢; exact wl_lt A _ hra h1
  have hlb : ∀ x ∈ b, KLt k x.key := by rw [hb] at hrb ⊢; exact wr_gt hrb h2
  exact ⟨q, pre ++ a, b ++ post, fq, ns0', nq, hkq, hHq, hTq, by rw [h.all, hfq]; simp, fun x hx => (List.mem_append.1 hx).elim (h.pre_ x) (hla x), fun x hx => (List.mem_append.1 hx).elim (hlb x) (h.post_ x), hpq.nodup_iff.2 h.nod⟩
/-- A kid becomes two. -/
theorem Way.split {na nda ndb ndn : ND} {i a b : Nat} {m : Ent} (h : Way N D root (d + 1) p f k pre post fp ns0 nsp) (hp : N p = .some nd) (hi : i ≤ nd.l.length) (h4 : nd.l.length ≤ 4) (hk : nd.ks[i]? = .some a) (ha : N a = .some na) (h5 : na.l.length = 5) (hb : ∀ q nd, N q = .some nd → q < b)
    (H : Halved N N' p a b i nd na m nda ndb ndn) : ∃ nsp', Way N' D root (d + 1) p f k pre post fp ns0 nsp' := by
  obtain ⟨hn1, hn2, hn3⟩ := List.nodup_append.1 h.nod
  have hbn : ∀ q ∈ ns0 ++ nsp, q ≠ b := fun q hq e => by obtain ⟨nd, h1⟩ := h.some q hq; have := hb q nd h1; omega
  have hpn := h.tree.root
  have hap : p ≠ a ∧ a ∈ nsp := by
    obtain ⟨A, B, q, k', k1, k2, _, hq, _, hks, hk1, _, _, _, hns, _⟩ := h.tree.at hp hi
    have e : k' = a := by
      rw [hks, List.getElem?_append_right (by omega), hk1, Nat.sub_self] at hk
      simpa using hk
    subst e
    have hqr := hq.root
    rw [hns] at hn2 ⊢
    refine ⟨fun e => (List.nodup_cons.1 hn2).1 (e ▸ List.mem_append_left _ (List.mem_append_right _ hqr)), List.mem_cons_of_mem _ (List.mem_append_left _ (List.mem_append_right _ hqr))⟩
  obtain ⟨ns', t1, t2⟩ := h.tree.split (N' := N') hp hi h4 hk ha h5 hn2 (fun hb' => hbn b (List.mem_append_right _ hb') rfl) H.l H.ll H.k H.kl H.at_n H.nl H.nk H.at_a H.at_b (fun q hq h1 h2 => H.other q h2 h1 (hbn q (List.mem_append_right _ hq)))
  refine ⟨ns', h.hole.congr (fun q hq => H.other q (fun e => hn3 q hq p hpn e) (fun e => hn3 q hq a hap.2 e) (hbn q (List.mem_append_left _ hq))), t1, h.all, h.pre_, h.post_, ?_⟩
  refine List.nodup_append.2 ⟨hn1, t2.nodup_iff.2 (List.nodup_cons.2 ⟨fun hb' => hbn b (List.mem_append_right _ hb') rfl, hn2⟩), fun x hx y hy e => ?_⟩
  subst e
  rcases List.mem_cons.1 (t2.mem_iff.1 hy) with rfl | hy
  · exact hbn x (List.mem_append_left _ hx) rfl
  · exact hn3 x hx x hy rfl
end
theorem not_own {w : World} {base : Nat} {S : Nat → Prop} {N : NMap} (M : TMem w base S N) {k : Nat} (hk : w.heap.size ≤ k) : ¬ OwnN N k := fun ⟨p, nd, h1, h2⟩ => by have := (M.lt h1 h2).2; omega

set_option maxRecDepth 100000 in
set_option maxHeartbeats 8000000 in
theorem insert_any {w : World} {base D root : Nat} {S : Nat → Prop} {N : NMap} {f : List Ent} {ns : List Nat} {nr : ND} {k : ByteArray} {v : List Ver} {VA : Option Addr} {vm vc : Nat} (M : Hid (TMem w base S N)) (hbase : base ≤ w.heap.size) (T : Hid (TreeOf N D root f ns)) (hnd : Hid ns.Nodup) (hr : Hid (Rises f))
    (hroot : N root = some nr) (hr4 : nr.l.length ≤ 4) (hno : Hid (∀ x ∈ f, x.key ≠ k)) (HE : Hid (EntR S w [.string k, .slice VA vm vc] ⟨k, v⟩)) :
    Calls Try.prog 115 #[.pointer (some ⟨root, 0, none⟩), .agg #[.string k, .slice VA vm vc]] w fun e w' => e = .returned (.tuple #[]) ∧ ∃ N' NS, Mod base S w N w' N' ∧ TreeOf N' D root (putE f k v) NS ∧ NS.Nodup := by
  have hal : Below w.heap.size w (w.alloc (.cells #[.string k, .slice VA vm vc] 189)) := (Below.refl _ _).alloc (Nat.le_refl _) _
  have X0 := BoxAt.new w #[.string k, .slice VA vm vc] 189
  have hm0 := (Mod.refl M.out).below hal
  have hno0 := not_own M.out (Nat.le_refl _)
  obtain ⟨eb, heb⟩ : ∃ eb, w.heap.size = eb := ⟨_, rfl⟩
  obtain ⟨w0, hw0⟩ : ∃ w0, w.alloc (.cells #[.string k, .slice VA vm vc] 189) = w0 := ⟨_, rfl⟩
  have hs0 := hal.size
  have HE0 := Lib.hid (EntR.stable _ S _ w0 _ _ HE.out (fun b hb hl => ⟨hb, (hw0 ▸ hal : Below w.heap.size w w0).block b hl⟩))
  rw [hw0] at X0 hm0 hs0
  rw [heb] at X0 hno0
  have HX0 := Lib.hid X0
  have HM0 := Lib.hid hm0
  have HNO := Lib.hid hno0
  clear X0 hm0 hno0 hal
  go_enter Try.func115, Try.ntmps115
  go_wp2_with fail
  go_loopg [0] (D + 1) (fun gk v0 wr => ∃ (d p : Nat) (pre post fp : List Ent) (ns0 nsp : List Nat) (Nr : NMap) (nd : ND), v0 = .pointer (some ⟨p, 0, none⟩) ∧ gk = d + 1 ∧ Hid (Mod base S w0 N wr Nr) ∧ Hid (Way Nr D root d p f k pre post fp ns0 nsp) ∧ Nr p = some nd ∧ nd.l.length ≤ 4)
  case atStart => exact ⟨D, root, [], [], f, [], ns, N, nr, rfl, rfl, Lib.hid (Mod.refl HM0.out.mem), Lib.hid ⟨Hole.refl, T.out, by simp, by simp, by simp, by simpa using hnd.out⟩, hroot, hr4⟩
  case round =>
    obtain ⟨d, p, pre, post, fp, ns0, nsp, Nr, nd, rfl, rfl, HMM, HW, hp, hl4⟩ := hrel
    have hm := HMM.out
    have hkp := hm.keep
    have HX := HX0.out.keeps hkp HNO.out
    have hN2 := hm.mem.at_ p nd hp
    have HN := Lib.hid hN2
    have hrl : Rises nd.l := HW.out.tree.rises hp (HW.out.rises hr.out)
    have hpl := posE_le nd.l k
    have hik : isE nd.l k = false := by
      cases h : isE nd.l k with
      | false => rfl
      | true =>
        obtain ⟨y, hy, hyk, hlt⟩ := isE_some h
        obtain ⟨a, b, hf, _⟩ := HW.out.tree.set hp hy ((List.nodup_append.1 HW.out.nod).2.1) (HW.out.rises hr.out)
        exact absurd hyk (hno.out y (HW.out.mem (by rw [hf]; exact List.mem_append_right _ (List.mem_cons_self ..))))
    have hfind := find_any HN k (by omega)
    rw [hik] at hfind
    have e0 := HX.cell 0
    have hws := hkp.size
    have hsr : w.heap.size ≤ wr.heap.size := Nat.le_trans hs0 hm.keep.size
    have hebw0 := HX0.out.lt
    have hbr : base ≤ wr.heap.size := Nat.le_trans hbase hsr
    have xb0 := fun w' (hb : Below wr.heap.size wr w') => (hb.cell (p := ⟨eb, 0, none⟩) HX.lt).trans (HX.cell 0)
    have xb1 := fun w' (hb : Below wr.heap.size wr w') => (hb.cell (p := ⟨eb, 1, none⟩) HX.lt).trans (HX.cell 1)
    have HER := Lib.hid (EntR.stable _ S _ wr _ _ HE0.out (fun b hb hl => ⟨hb, hkp.block b hl (fun ⟨p, nd, h1, h2⟩ => M.out.sep p nd b h1 h2 hb)⟩))
    have HNEB := Lib.hid (fun h => (hm.own eb h).elim HNO.out (fun h => by omega) : ¬ OwnN Nr eb)
    by_cases hk0 : nd.ks.length = 0
    · -- a leaf
      have hleaf := fun w' (hb : Below wr.heap.size wr w') => leaf_any ((hm.mem.below hb).at_ p nd hp)
      have hk0' : (nd.ks.length == 0) = true := by simpa using hk0
      rw [hk0'] at hleaf
      obtain ⟨rfl, _, _⟩ := HW.out.tree.leaf hp hk0
      have HM := Lib.hid hm
      obtain ⟨I, hI⟩ : ∃ I, posE nd.l k = I := ⟨_, rfl⟩
      rw [hI] at hfind hpl
      clear hm hN2 HN HX hk0' hkp
      go_wp2_with fail
      refine hfind.mono ?_
      rintro e w1 ⟨rfl, hb1⟩
      have hleaf1 := hleaf w1 hb1
      go_wp2_with fail
      refine hleaf1.mono ?_
      rintro e wq ⟨rfl, rfl⟩
      go_wp2_with fail
      have hm1 := HM.out.below hb1
      have hpn : p ∉ ns0 := fun h => (List.nodup_append.1 HW.out.nod).2.2 p h p HW.out.tree.root rfl
      have hN1 := hm1.mem.at_ p nd hp
      have nn := hN1.ne1
      have hnlt := hN1.box.lt
      have hlt1 := hb1.size
      have hebw : eb < wq.heap.size := by omega
      have ne_ : nd.lv.ownBlock ≠ some eb := fun e => HNEB.out ⟨p, nd, hp, .inr (.inl e)⟩
      have HO3 := Lib.hid hN1.l
      have HR3 := Lib.hid (EntR.stable _ (Go.Cib.Rest S nd.lv) _ wq _ _ HER.out fun b hb hl => ⟨⟨hb, fun e => hm1.mem.sep p nd b hp (.inr (.inl e.symm)) hb⟩, hb1.block b hl⟩)
      have hcs : wq.cell? ⟨p, 0, none⟩ = some nd.lv ∧ wq.cell? ⟨eb, 0, none⟩ = some (.string k) ∧ wq.cell? ⟨eb, 1, none⟩ = some (.slice VA vm vc) := ⟨hN1.box.cell 0, xb0 wq hb1, xb1 wq hb1⟩
      have fn0 := hN1.box.frozen 0
      have HM1 := Lib.hid hm1
      have hbq := Nat.le_trans hbr hlt1
      clear hm1 hN1 HM hleaf hleaf1 hfind
      refine wp_region_L (S := fun w' => w'.cell? ⟨p, 0, none⟩ = some nd.lv ∧ w'.cell? ⟨eb, 0, none⟩ = some (.string k) ∧ w'.cell? ⟨eb, 1, none⟩ = some (.slice VA vm vc)) [9, 10, 11] (by kernel_rfl) (hcs) (fun hHeld => ?_)
      obtain ⟨wd, hwd⟩ : ∃ wd, wq.drew = wd := ⟨_, rfl⟩
      have hbd : Below wq.heap.size wq wd := hwd ▸ (Below.refl _ _).drew
      rw [hwd] at hHeld ⊢
      clear hwd
      refine wpAnyL_take (i := 0) (v := ?_) rfl (by kernel_rfl) (by kernel_rfl) (by kernel_rfl) (by kernel_rfl) (fun _ _ _ h => h) (Or.inl ⟨by first | kernel_rfl | rfl, ?_⟩) (by assumption) ?_
      rotate_left
      · (intro wq0 hSw; (try dsimp only at hSw); (try simp (maxSteps := 2000000) only [List.getElem_toArray, List.getElem_cons_succ, List.getElem_cons_zero]); go_simp); try with_reducible rfl
      try simp (maxSteps := 2000000) only [List.getElem_toArray, List.getElem_cons_succ, List.getElem_cons_zero, Act.put, List.setIfInBounds_toArray, List.set_cons_zero, List.set_cons_succ]
      refine wpAnyL_take (i := 1) (v := ?_) rfl (by kernel_rfl) (by kernel_rfl) (by kernel_rfl) (by kernel_rfl) (fun _ _ _ h => h) (Or.inl ⟨by first | kernel_rfl | rfl, ?_⟩) (by assumption) ?_
      rotate_left
      · (intro wq0 hSw; (try dsimp only at hSw); (try simp (maxSteps := 2000000) only [List.getElem_toArray, List.getElem_cons_succ, List.getElem_cons_zero]); go_simp); try with_reducible rfl
      try simp (maxSteps := 2000000) only [List.getElem_toArray, List.getElem_cons_succ, List.getElem_cons_zero, Act.put, List.setIfInBounds_toArray, List.set_cons_zero, List.set_cons_succ]
      refine wpAnyL_take (i := 2) (v := ?_) rfl (by kernel_rfl) (by kernel_rfl) (by kernel_rfl) (by kernel_rfl) (fun _ _ _ h => h) (Or.inl ⟨by first | kernel_rfl | rfl, ?_⟩) (by assumption) ?_
      rotate_left
      · (intro wq0 hSw; (try dsimp only at hSw); (try simp (maxSteps := 2000000) only [List.getElem_toArray, List.getElem_cons_succ, List.getElem_cons_zero]); go_simp); try with_reducible rfl
      try simp (maxSteps := 2000000) only [List.getElem_toArray, List.getElem_cons_succ, List.getElem_cons_zero, Act.put, List.setIfInBounds_toArray, List.set_cons_zero, List.set_cons_succ]
      refine wpAnyL_take (i := 3) (v := ?_) rfl (by kernel_rfl) (by kernel_rfl) (by kernel_rfl) (by kernel_rfl) (fun _ _ _ h => h) (Or.inl ⟨by first | kernel_rfl | rfl, ?_⟩) (by assumption) ?_
      rotate_left
      · (intro wq0 hSw; (try dsimp only at hSw); (try simp (maxSteps := 2000000) only [List.getElem_toArray, List.getElem_cons_succ, List.getElem_cons_zero]); go_simp); try with_reducible rfl
      try simp (maxSteps := 2000000) only [List.getElem_toArray, List.getElem_cons_succ, List.getElem_cons_zero, Act.put, List.setIfInBounds_toArray, List.set_cons_zero, List.set_cons_succ]
      refine wpAnyL_take (i := 4) (v := ?_) rfl (by kernel_rfl) (by kernel_rfl) (by kernel_rfl) (by kernel_rfl) (fun _ _ _ h => h) (Or.inl ⟨by first | kernel_rfl | rfl, ?_⟩) (by assumption) ?_
      rotate_left
      · (intro wq0 hSw; (try dsimp only at hSw); (try simp (maxSteps := 2000000) only [List.getElem_toArray, List.getElem_cons_succ, List.getElem_cons_zero]); go_simp); try with_reducible rfl
      try simp (maxSteps := 2000000) only [List.getElem_toArray, List.getElem_cons_succ, List.getElem_cons_zero, Act.put, List.setIfInBounds_toArray, List.set_cons_zero, List.set_cons_succ]
      refine wpAnyL_take (i := 5) (v := ?_) rfl (by kernel_rfl) (by kernel_rfl) (by kernel_rfl) (by kernel_rfl) (fun _ _ _ h => h) (Or.inl ⟨by first | kernel_rfl | rfl, ?_⟩) (by assumption) ?_
      rotate_left
      · (intro wq0 hSw; (try dsimp only at hSw); (try simp (maxSteps := 2000000) only [List.getElem_toArray, List.getElem_cons_succ, List.getElem_cons_zero]); go_simp); try with_reducible rfl
      try simp (maxSteps := 2000000) only [List.getElem_toArray, List.getElem_cons_succ, List.getElem_cons_zero, Act.put, List.setIfInBounds_toArray, List.set_cons_zero, List.set_cons_succ]
      refine wpAnyL_take (i := 6) (v := ?_) rfl (by kernel_rfl) (by kernel_rfl) (by kernel_rfl) (by kernel_rfl) (fun _ _ _ h => h) (Or.inl ⟨by first | kernel_rfl | rfl, ?_⟩) (by assumption) ?_
      rotate_left
      · (intro wq0 hSw; (try dsimp only at hSw); (try simp (maxSteps := 2000000) only [List.getElem_toArray, List.getElem_cons_succ, List.getElem_cons_zero]); go_simp); try with_reducible rfl
      try simp (maxSteps := 2000000) only [List.getElem_toArray, List.getElem_cons_succ, List.getElem_cons_zero, Act.put, List.setIfInBounds_toArray, List.set_cons_zero, List.set_cons_succ]
      refine wpAnyL_ready (rs := [7]) (by kernel_rfl) (by simp) ?_
      refine AllReadyL.cons rfl (fun K hK => ?_) AllReadyL.nil
      try simp (maxSteps := 2000000) only [List.getElem_toArray, List.getElem_cons_succ, List.getElem_cons_zero]
      go_simp
      have hal : Below wd.heap.size wd (wd.alloc (.cells #[.string k, .slice VA vm vc] 189)) := (Below.refl _ _).alloc (Nat.le_refl _) _
      have hbx := BoxAt.new wd #[.string k, .slice VA vm vc] 189
      obtain ⟨wa, hwa⟩ : ∃ wa, wd.alloc (.cells #[.string k, .slice VA vm vc] 189) = wa := ⟨_, rfl⟩
      rw [hwa] at hal hbx
      have hba9 : Below wq.heap.size wq wa := hbd.trans (hal.mono hbd.size)
      have hsa := hba9.size
      obtain ⟨vb, hvb⟩ : ∃ vb, wd.heap.size = vb := ⟨_, rfl⟩
      have hqd := hbd.size
      rw [hvb] at hbx hqd hal
      have hd1 : wa.cell? ⟨p, 0, none⟩ = some nd.lv ∧ wa.cell? ⟨eb, 0, none⟩ = some (.string k) ∧ wa.cell? ⟨eb, 1, none⟩ = some (.slice VA vm vc) := ⟨(hba9.cell (p := ⟨p, 0, none⟩) hnlt).trans hcs.1, (hba9.cell (p := ⟨eb, 0, none⟩) hebw).trans hcs.2.1, (hba9.cell (p := ⟨eb, 1, none⟩) hebw).trans hcs.2.2⟩
      try rw [hwa]
      try rw [hvb]
      refine hK.out _ _ (by first | exact hd1 | (rw [hwa]; exact hd1)) (fun hHeld => ?_)
      clear hK K
      try simp (maxSteps := 2000000) only [List.getElem_toArray, List.getElem_cons_succ, List.getElem_cons_zero, Act.put, List.setIfInBounds_toArray, List.set_cons_zero, List.set_cons_succ]
      try rw [hwa]
      try rw [hvb]
      clear hwa
      refine wpAnyL_ready (rs := [8]) (by kernel_rfl) (by simp) ?_
      refine AllReadyL.cons rfl (fun K hK => ?_) AllReadyL.nil
      try simp (maxSteps := 2000000) only [List.getElem_toArray, List.getElem_cons_succ, List.getElem_cons_zero]
      go_simp
      have hne9 : nd.lv.ownBlock ≠ some vb := fun e => by have := (OwnL.lt HO3.out vb e).2; omega
      have hinsE := insE_own (i := I) (Lib.hid (OwnL.keep EntR.stable HO3.out hba9)) (Nat.le_trans hbq hsa) hbx (Lib.hid (EntR.stable _ (Go.Cib.Rest S nd.lv) _ wa _ _ HR3.out fun b' hb' hl' => ⟨hb', hba9.block b' hl'⟩)) rfl hne9 hpl (by omega)
      refine hinsE.mono ?_
      rintro e wb ⟨v6, rfl, o6, g6, at6⟩
      obtain ⟨A7, C7, rfl, _⟩ := OwnL.form o6
      try (go_wp2_with fail)
      have hd2 : wb.cell? ⟨p, 0, none⟩ = some nd.lv ∧ wb.cell? ⟨eb, 0, none⟩ = some (.string k) ∧ wb.cell? ⟨eb, 1, none⟩ = some (.slice VA vm vc) := ⟨g6.cell hd1.1 (fun e => nn e.symm), g6.cell hd1.2.1 (fun e => ne_ e.symm), g6.cell hd1.2.2 (fun e => ne_ e.symm)⟩
      refine hK.out _ _ hd2 (fun hHeld => ?_)
      clear hK K
      try simp (maxSteps := 2000000) only [List.getElem_toArray, List.getElem_cons_succ, List.getElem_cons_zero, Act.put, List.setIfInBounds_toArray, List.set_cons_zero, List.set_cons_succ]
      have fb0 : wb.frozen? ⟨p, 0, none⟩ = false := (World.frozen?_of_block (a := ⟨p, 0, none⟩) ((g6.block p (by omega) (fun e => nn e.symm)).trans (hba9.block p hnlt))).trans fn0
      refine wpAnyL_ready (rs := [9]) (by kernel_rfl) (by simp) ?_
      refine AllReadyL.last rfl (by decide) (fun K hK => ?_) AllReadyL.nil
      try simp (maxSteps := 2000000) only [List.getElem_toArray, List.getElem_cons_succ, List.getElem_cons_zero]
      go_simp
      refine hK.out _ _ ?_
      clear hK K
      try simp (maxSteps := 2000000) only [List.getElem_toArray, List.getElem_cons_succ, List.getElem_cons_zero, Act.put, List.setIfInBounds_toArray, List.set_cons_zero, List.set_cons_succ]
      refine wpAnyL_ready (rs := [10]) (by kernel_rfl) (by simp) ?_
      refine AllReadyL.last rfl (by decide) (fun K hK => ?_) AllReadyL.nil
      try simp (maxSteps := 2000000) only [List.getElem_toArray, List.getElem_cons_succ, List.getElem_cons_zero]
      go_simp
      refine hK.out _ _ ?_
      clear hK K
      try simp (maxSteps := 2000000) only [List.getElem_toArray, List.getElem_cons_succ, List.getElem_cons_zero, Act.put, List.setIfInBounds_toArray, List.set_cons_zero, List.set_cons_succ]
      refine wpAnyL_ready (rs := [11]) (by kernel_rfl) (by simp) ?_
      refine AllReadyL.last rfl (by decide) (fun K hK => ?_) AllReadyL.nil
      try simp (maxSteps := 2000000) only [List.getElem_toArray, List.getElem_cons_succ, List.getElem_cons_zero]
      go_simp
      refine hK.out _ _ ?_
      clear hK K
      try simp (maxSteps := 2000000) only [List.getElem_toArray, List.getElem_cons_succ, List.getElem_cons_zero, Act.put, List.setIfInBounds_toArray, List.set_cons_zero, List.set_cons_succ]
      refine wpAnyL_done (by kernel_rfl) ?_ _
      have hsz1 := g6.size
      have kp6 : Keep (fun k => nd.lv.ownBlock = some k) wq wb := (Keep.of_below hba9).trans (Keep.of_grown g6) (fun k hk hl => by exact hk.symm)
      have hll : (nd.l.take I ++ ⟨k, v⟩ :: nd.l.drop I).length = nd.l.length + 1 := by simp only [List.length_append, List.length_cons, List.length_take, List.length_drop]; omega
      have m4 := (HM0.out.trans HM1.out).trans (Mod.setL HM1.out.mem hp kp6 (l' := nd.l.take I ++ ⟨k, v⟩ :: nd.l.drop I) (v' := .slice A7 (nd.l.length + 1) C7) (by rw [hll]; exact o6) (at6.imp id (fun ⟨g, e1, e2⟩ g' e3 => by rw [e1] at e3; injection e3 with e3; omega)))
      have hfin : ∃ N' NS, Mod base S w N (wb.setCell ⟨p, 0, none⟩ (.slice A7 (nd.l.length + 1) C7)) N' ∧ TreeOf N' D root (putE f k v) NS ∧ NS.Nodup := by
        subst hI
        obtain ⟨NS, t1, t2⟩ := HW.out.hole.leaf (v := v) HW.out.tree hp HW.out.pre_ HW.out.post_ hrl hik hl4 (upd_same Nr p ⟨.slice A7 (nd.l.length + 1) C7, nd.l.take (posE nd.l k) ++ ⟨k, v⟩ :: nd.l.drop (posE nd.l k), nd.kv, nd.ks⟩) rfl rfl (fun q hq => upd_ne _ _ (fun e => hpn (e ▸ hq)))
        rw [← HW.out.all] at t1
        exact ⟨_, NS, m4, t1, t2.nodup_iff.2 HW.out.nod⟩
      have HF := Lib.hid hfin
      clear hfin m4 kp6 hll o6 g6 at6 HM1
      go_wp2_with fail
      refine bodyPost_ret (results_none rfl _ _ _) rfl ?_
      exact ⟨rfl, HF.out⟩
    · obtain ⟨d', rfl⟩ := HW.out.tree.inner hp hk0
      have hleaf := fun w' (hb : Below wr.heap.size wr w') => leaf_any ((hm.mem.below hb).at_ p nd hp)
      have hk0' : (nd.ks.length == 0) = false := by simpa using hk0
      rw [hk0'] at hleaf
      obtain ⟨I, hI⟩ : ∃ I, posE nd.l k = I := ⟨_, rfl⟩
      have htk := posE_take nd.l k
      have hdk := posE_drop hrl hik
      rw [hI] at hfind hpl htk hdk
      obtain ⟨q, pre', post', fq, ns0', nq, hkq, hWq⟩ := HW.out.down hr.out hp hpl htk hdk
      obtain ⟨nq', hq, hq5, hq6⟩ := hWq.tree.node
      have hfull := fun w' (hb : Below wr.heap.size wr w') => full_any ((hm.mem.below hb).at_ q nq' hq)
      obtain ⟨KA, KC, hkv, hKC, KR, hKg⟩ := hN2.kids
      obtain ⟨gk', hgk⟩ := hKg (by omega)
      subst hgk
      have hiK : I < nd.ks.length := (List.getElem?_eq_some_iff.1 hkq).1
      obtain ⟨gb, go, q2, hgo, hq2, hgb, _, hcell⟩ := ptr_at KR hiK
      injection hgo with hgo
      injection hgo with hgo1 hgo2
      subst hgo1; subst hgo2
      have e2 : q2 = q := by rw [hq2] at hkq; exact Option.some.inj hkq
      subst e2
      have pn1 := fun w' (hb : Below wr.heap.size wr w') => (hb.cell (p := ⟨p, 1, none⟩) hN2.box.lt).trans (hN2.box.cell 1)
      have pn0 := fun w' (hb : Below wr.heap.size wr w') => (hb.cell (p := ⟨p, 0, none⟩) hN2.box.lt).trans (hN2.box.cell 0)
      rw [hkv] at pn1
      have pc := fun w' (hb : Below wr.heap.size wr w') => (hb.cell (p := ⟨gk', 0 + I, none⟩) hgb).trans hcell
      rw [Nat.zero_add] at pc
      have q0 : (0 : Int) ≤ (I : Int) := Int.natCast_nonneg _
      have q1 : (I : Int) < (nd.ks.length : Int) := by omega
      by_cases hf5 : nq'.l.length = 5
      · -- the kid is full
        have e5 : (nq'.l.length == 5) = true := by simpa using hf5
        rw [e5] at hfull
        have HM := Lib.hid hm
        have HWq := Lib.hid hWq
        clear hm hN2 HN HX hk0' hkp hWq
        go_wp2_with fail
        refine hfind.mono ?_
        rintro e w1 ⟨rfl, hb1⟩
        have hleaf1 := hleaf w1 hb1
        have pn11 := pn1 w1 hb1
        have pc1 := pc w1 hb1
        have hfull1 := hfull w1 hb1
        go_wp2_with fail
        refine hleaf1.mono ?_
        rintro e w2 ⟨rfl, rfl⟩
        go_wp2_with fail
        refine hfull1.mono ?_
        rintro e w3 ⟨rfl, rfl⟩
        go_wp2_with fail
        have hm1 := HM.out.below hb1
        have HKQ := Lib.hid hkq
        have hks : nq'.ks.length = 0 ∨ nq'.ks.length = 6 := by
          by_cases h : nq'.ks.length = 0
          · exact .inl h
          · obtain ⟨d2, rfl⟩ := HWq.out.tree.inner hq h
            obtain ⟨_, _, _, _, _, _, _, _, _, _⟩ := HWq.out.tree.at hq (Nat.le_refl _)
            obtain ⟨nd3, ps, h1, h2, h3, _⟩ := HWq.out.tree
            rw [hq] at h1; cases h1
            exact .inr (by omega)
        have hpq : p ≠ q2 := by
          obtain ⟨A, B, q, k', k1, k2, _, hqT, _, hks2, hk1, _, _, _, hns, _⟩ := HW.out.tree.at hp hpl
          have e : k' = q2 := by
            rw [hks2, List.getElem?_append_right (by omega), hk1, Nat.sub_self] at hkq
            simpa using hkq
          subst e
          have hn2 := (List.nodup_append.1 HW.out.nod).2.1
          rw [hns] at hn2
          exact fun e => (List.nodup_cons.1 hn2).1 (e ▸ List.mem_append_left _ (List.mem_append_right _ hqT.root))
        have hkl : nd.ks.length = nd.l.length + 1 := by
          obtain ⟨nd3, ps, h1, h2, h3, _⟩ := HW.out.tree
          rw [hp] at h1; cases h1
          exact h3
        have hsp := split_any (i := I) (Lib.hid hm1.mem) (Nat.le_trans hbr hb1.size) hp hq hpq hpl hl4 hkl hkq hf5 hks
        refine hsp.mono ?_
        rintro e w4 ⟨rfl, N2, b, nda, ndb, ndn, m, m2, hbb, H⟩
        have hm2 := HM.out.trans ((Mod.refl HM.out.mem).below hb1 |>.trans m2)
        obtain ⟨nsp2, hW2⟩ := HW.out.split hp hpl hl4 hkq hq hf5 (fun q nd h => Nat.lt_of_lt_of_le (hm1.mem.lt h (.inl rfl)).2 hbb) H
        have hlI : (nd.l.take I).length = I := by rw [List.length_take]; omega
        have hnlen : ndn.l.length = nd.l.length + 1 := by rw [H.nl, List.length_append, List.length_cons, hlI, List.length_drop]; omega
        have hmI : ndn.l[I]? = some m := by rw [H.nl, List.getElem?_append_right (by omega), hlI, Nat.sub_self]; rfl
        have hmk : m.key ≠ k := by
          obtain ⟨a, b, hf, _⟩ := hW2.tree.set H.at_n hmI ((List.nodup_append.1 hW2.nod).2.1) (hW2.rises hr.out)
          exact hno.out m (hW2.mem (by rw [hf]; exact List.mem_append_right _ (List.mem_cons_self ..)))
        have hNn := hm2.mem.at_ p ndn H.at_n
        have HX4 := HX0.out.keeps hm2.keep HNO.out
        obtain ⟨EA, EC, hlv, hEC, ER, hEg⟩ := hNn.ents
        obtain ⟨gl, rfl⟩ := hEg (by omega)
        obtain ⟨_, _, _, hgl, _, cm0, _⟩ := entS_at ER hmI
        obtain ⟨KA4, KC4, hkv4, hKC4, KR4, hKg4⟩ := hNn.kids
        have hknl : ndn.ks.length = nd.l.length + 2 := by
          obtain ⟨nd3, ps, h1, h2, h3, _⟩ := hW2.tree
          rw [H.at_n] at h1; cases h1
          omega
        obtain ⟨gk4, rfl⟩ := hKg4 (by omega)
        have hkI : (nd.ks.take (I + 1)).length = I + 1 := by rw [List.length_take]; omega
        have key : ∀ J q', ndn.ks[J]? = some q' → w4.cell? ⟨gk4, J, none⟩ = some (.pointer (some ⟨q', 0, none⟩)) ∧ gk4 < w4.heap.size := fun J q' h => by
          have hJ : J < ndn.ks.length := (List.getElem?_eq_some_iff.1 h).1
          obtain ⟨gb, go, q3, hgo, hq3, hgb, _, hc⟩ := ptr_at KR4 hJ
          cases hgo
          rw [hq3] at h
          cases h
          exact ⟨by simpa using hc, hgb⟩
        have f0 : ∀ w', Below w4.heap.size w4 w' → w'.cell? ⟨p, 0, none⟩ = some (.slice (some ⟨gl, 0, none⟩) ndn.l.length EC) := fun w' h => (h.cell (p := ⟨p, 0, none⟩) hNn.box.lt).trans (by simpa [hlv] using hNn.box.cell 0)
        have f1 : ∀ w', Below w4.heap.size w4 w' → w'.cell? ⟨gl, I * 2, none⟩ = some (.string m.key) := fun w' h => (h.cell (p := ⟨gl, I * 2, none⟩) hgl).trans cm0
        have f2 : ∀ w', Below w4.heap.size w4 w' → w'.cell? ⟨eb, 0, none⟩ = some (.string k) := fun w' h => (h.cell (p := ⟨eb, 0, none⟩) HX4.lt).trans (by simpa using HX4.cell 0)
        have f3 : ∀ w', Below w4.heap.size w4 w' → w'.cell? ⟨p, 1, none⟩ = some (.slice (some ⟨gk4, 0, none⟩) ndn.ks.length KC4) := fun w' h => (h.cell (p := ⟨p, 1, none⟩) hNn.box.lt).trans (by simpa [hkv4] using hNn.box.cell 1)
        have r1 : (I : Int) < (nd.l.length : Int) + 1 := by omega
        have hnd4 : ndn.l.length = nd.l.length + 1 := hnlen
        have HM2 := Lib.hid hm2
        have HW2 := Lib.hid hW2
        have HKEY := Lib.hid key
        have HH := Lib.hid H
        have HNL := Lib.hid hmI
        have halo : nda.l.length = 2 := H.ll
        have hbl2 : ndb.l.length = 2 := by have := congrArg List.length H.l; rw [List.length_append, List.length_cons, hf5, H.ll] at this; omega
        clear hm2 hW2 key H m2 hmI hNn HX4 ER KR4 cm0 hlv hkv4 hEg hKg4 hsp hm1 HM hfull hfull1 hleaf hleaf1 hfind hcell pc pc1 pn0 pn1 pn11 hq2 hkq KR hkv hKg xb0 xb1
        cases hmlt : Op.bytesLess m.key.toList k.toList with
        | true =>
          have h1 : ∀ e ∈ ndn.l.take (I + 1), KLt e.key k := fun e he => by
            rw [HH.out.nl, List.take_append, hlI, List.take_of_length_le (by omega), show I + 1 - I = 1 by omega] at he
            rcases List.mem_append.1 he with he | he
            · exact htk e he
            · simp at he; subst he; exact hmlt
          have h2 : ∀ e ∈ ndn.l.drop (I + 1), KLt k e.key := fun e he => by
            rw [HH.out.nl, List.drop_append, hlI, List.drop_of_length_le (by omega), show I + 1 - I = 1 by omega] at he
            exact hdk e (by simpa using he)
          obtain ⟨q', pre2, post2, fq2, ns2, nq2, hkq', hW'⟩ := HW2.out.down hr.out HH.out.at_n (by omega) h1 h2
          have hqb : q' = b := by
            rw [HH.out.nk, List.getElem?_append_right (by omega), hkI, Nat.sub_self] at hkq'
            simpa using hkq'.symm
          have hcK := (HKEY.out _ _ hkq')
          have f4 : ∀ w', Below w4.heap.size w4 w' → w'.cell? ⟨gk4, I + 1, none⟩ = some (.pointer (some ⟨q', 0, none⟩)) := fun w' h => (h.cell (p := ⟨gk4, I + 1, none⟩) hcK.2).trans hcK.1
          have hw1 : IntKind.i64.wrap ((I : Int) + 1) = (I : Int) + 1 := by rw [IntKind.wrap_i64]; omega
          have r0 : (0 : Int) ≤ (I : Int) + 1 := by omega
          have r2 : (I : Int) + 1 < (nd.l.length : Int) + 2 := by omega
          have hnext := Lib.hid (⟨hW', hqb ▸ HH.out.at_b⟩ : Way N2 D root d' q' f k pre2 post2 fq2 ns2 nq2 ∧ N2 q' = some ndb)
          clear hW' hkq' HKEY HW2 h1 h2 hqb hcK
          go_wp2_with fail
          refine wp_region_held_drew (S := fun w' => Below w4.heap.size w4 w') (by kernel_rfl) (by first | assumption | exact Below.refl _ _ | exact (Below.refl _ _).drew) (fun hHeld => ?_)
          refine wpAnyH_take (i := 0) (v := ?_) rfl (by kernel_rfl) (by kernel_rfl) (by kernel_rfl) (fun _ _ _ h => h) (Or.inl ⟨by first | kernel_rfl | rfl, ?_⟩) (by assumption) ?_
          rotate_left
          · (intro wq hSw; (try dsimp only at hSw); (try simp (maxSteps := 2000000) only [List.getElem_toArray, List.getElem_cons_succ, List.getElem_cons_zero]); go_simp); try with_reducible rfl
          try simp (maxSteps := 2000000) only [List.getElem_toArray, List.getElem_cons_succ, List.getElem_cons_zero, Act.put, List.setIfInBounds_toArray, List.set_cons_zero, List.set_cons_succ]
          refine wpAnyH_take (i := 1) (v := ?_) rfl (by kernel_rfl) (by kernel_rfl) (by kernel_rfl) (fun _ _ _ h => h) (Or.inl ⟨by first | kernel_rfl | rfl, ?_⟩) (by assumption) ?_
          rotate_left
          · (intro wq hSw; (try dsimp only at hSw); (try simp (maxSteps := 2000000) only [List.getElem_toArray, List.getElem_cons_succ, List.getElem_cons_zero]); go_simp); try with_reducible rfl
          try simp (maxSteps := 2000000) only [List.getElem_toArray, List.getElem_cons_succ, List.getElem_cons_zero, Act.put, List.setIfInBounds_toArray, List.set_cons_zero, List.set_cons_succ]
          refine wpAnyH_take (i := 2) (v := ?_) rfl (by kernel_rfl) (by kernel_rfl) (by kernel_rfl) (fun _ _ _ h => h) (Or.inl ⟨by first | kernel_rfl | rfl, ?_⟩) (by assumption) ?_
          rotate_left
          · (intro wq hSw; (try dsimp only at hSw); (try simp (maxSteps := 2000000) only [List.getElem_toArray, List.getElem_cons_succ, List.getElem_cons_zero]); go_simp); try with_reducible rfl
          try simp (maxSteps := 2000000) only [List.getElem_toArray, List.getElem_cons_succ, List.getElem_cons_zero, Act.put, List.setIfInBounds_toArray, List.set_cons_zero, List.set_cons_succ]
          refine wpAnyH_take (i := 3) (v := ?_) rfl (by kernel_rfl) (by kernel_rfl) (by kernel_rfl) (fun _ _ _ h => h) (Or.inl ⟨by first | kernel_rfl | rfl, ?_⟩) (by assumption) ?_
          rotate_left
          · (intro wq hSw; (try dsimp only at hSw); (try simp (maxSteps := 2000000) only [List.getElem_toArray, List.getElem_cons_succ, List.getElem_cons_zero]); go_simp); try with_reducible rfl
          try simp (maxSteps := 2000000) only [List.getElem_toArray, List.getElem_cons_succ, List.getElem_cons_zero, Act.put, List.setIfInBounds_toArray, List.set_cons_zero, List.set_cons_succ]
          refine wpAnyH_take (i := 4) (v := ?_) rfl (by kernel_rfl) (by kernel_rfl) (by kernel_rfl) (fun _ _ _ h => h) (Or.inl ⟨by first | kernel_rfl | rfl, ?_⟩) (by assumption) ?_
          rotate_left
          · (intro wq hSw; (try dsimp only at hSw); (try simp (maxSteps := 2000000) only [List.getElem_toArray, List.getElem_cons_succ, List.getElem_cons_zero]); go_simp); try with_reducible rfl
          try simp (maxSteps := 2000000) only [List.getElem_toArray, List.getElem_cons_succ, List.getElem_cons_zero, Act.put, List.setIfInBounds_toArray, List.set_cons_zero, List.set_cons_succ]
          refine wpAnyH_take (i := 5) (v := ?_) rfl (by kernel_rfl) (by kernel_rfl) (by kernel_rfl) (fun _ _ _ h => h) (Or.inl ⟨by first | kernel_rfl | rfl, ?_⟩) (by assumption) ?_
          rotate_left
          · (intro wq hSw; (try dsimp only at hSw); (try simp (maxSteps := 2000000) only [List.getElem_toArray, List.getElem_cons_succ, List.getElem_cons_zero]); go_simp); try with_reducible rfl
          try simp (maxSteps := 2000000) only [List.getElem_toArray, List.getElem_cons_succ, List.getElem_cons_zero, Act.put, List.setIfInBounds_toArray, List.set_cons_zero, List.set_cons_succ]
          refine wpAnyH_take (i := 6) (v := ?_) rfl (by kernel_rfl) (by kernel_rfl) (by kernel_rfl) (fun _ _ _ h => h) (Or.inl ⟨by first | kernel_rfl | rfl, ?_⟩) (by assumption) ?_
          rotate_left
          · (intro wq hSw; (try dsimp only at hSw); (try simp (maxSteps := 2000000) only [List.getElem_toArray, List.getElem_cons_succ, List.getElem_cons_zero]); go_simp); try with_reducible rfl
          try simp (maxSteps := 2000000) only [List.getElem_toArray, List.getElem_cons_succ, List.getElem_cons_zero, Act.put, List.setIfInBounds_toArray, List.set_cons_zero, List.set_cons_succ]
          refine wpAnyH_take (i := 7) (v := ?_) rfl (by kernel_rfl) (by kernel_rfl) (by kernel_rfl) (fun _ _ _ h => h) (Or.inl ⟨by first | kernel_rfl | rfl, ?_⟩) (by assumption) ?_
          rotate_left
          · (intro wq hSw; (try dsimp only at hSw); (try simp (maxSteps := 2000000) only [List.getElem_toArray, List.getElem_cons_succ, List.getElem_cons_zero]); go_simp); try with_reducible rfl
          try simp (maxSteps := 2000000) only [List.getElem_toArray, List.getElem_cons_succ, List.getElem_cons_zero, Act.put, List.setIfInBounds_toArray, List.set_cons_zero, List.set_cons_succ]
          refine wpAnyH_take (i := 8) (v := ?_) rfl (by kernel_rfl) (by kernel_rfl) (by kernel_rfl) (fun _ _ _ h => h) (Or.inl ⟨by first | kernel_rfl | rfl, ?_⟩) (by assumption) ?_
          rotate_left
          · (intro wq hSw; (try dsimp only at hSw); (try simp (maxSteps := 2000000) only [List.getElem_toArray, List.getElem_cons_succ, List.getElem_cons_zero]); go_simp); try with_reducible rfl
          try simp (maxSteps := 2000000) only [List.getElem_toArray, List.getElem_cons_succ, List.getElem_cons_zero, Act.put, List.setIfInBounds_toArray, List.set_cons_zero, List.set_cons_succ]
          refine wpAnyH_take (i := 9) (v := ?_) rfl (by kernel_rfl) (by kernel_rfl) (by kernel_rfl) (fun _ _ _ h => h) (Or.inl ⟨by first | kernel_rfl | rfl, ?_⟩) (by assumption) ?_
          rotate_left
          · (intro wq hSw; (try dsimp only at hSw); (try simp (maxSteps := 2000000) only [List.getElem_toArray, List.getElem_cons_succ, List.getElem_cons_zero]); go_simp); try with_reducible rfl
          try simp (maxSteps := 2000000) only [List.getElem_toArray, List.getElem_cons_succ, List.getElem_cons_zero, Act.put, List.setIfInBounds_toArray, List.set_cons_zero, List.set_cons_succ]
          refine wpAnyH_take (i := 10) (v := ?_) rfl (by kernel_rfl) (by kernel_rfl) (by kernel_rfl) (fun _ _ _ h => h) (Or.inl ⟨by first | kernel_rfl | rfl, ?_⟩) (by assumption) ?_
          rotate_left
          · (intro wq hSw; (try dsimp only at hSw); (try simp (maxSteps := 2000000) only [List.getElem_toArray, List.getElem_cons_succ, List.getElem_cons_zero]); go_simp); try with_reducible rfl
          try simp (maxSteps := 2000000) only [List.getElem_toArray, List.getElem_cons_succ, List.getElem_cons_zero, Act.put, List.setIfInBounds_toArray, List.set_cons_zero, List.set_cons_succ]
          refine wpAnyH_done (by kernel_rfl) ?_ _
          obtain ⟨w5, hw5⟩ : ∃ w5, w4.drew = w5 := ⟨_, rfl⟩
          have hb5 : Below w4.heap.size w4 w5 := hw5 ▸ (Below.refl _ _).drew
          rw [hw5]
          have f35 := f3 w5 hb5
          have f45 := f4 w5 hb5
          clear hw5 f0 f1 f2 f3 f4
          go_wp2_with fail
          go_roundg (d' + 1)
          case measure => omega
          case rel => exact ⟨d', q', pre2, post2, fq2, ns2, nq2, N2, ndb, rfl, rfl, Lib.hid (HM2.out.below hb5), Lib.hid hnext.out.1, hnext.out.2, by omega⟩
        | false =>
          have hkm : KLt k m.key := by
            cases h4 : Op.bytesLess k.toList m.key.toList with
            | true => exact h4
            | false => exact absurd (bl_tri hmlt h4) hmk
          have h1 : ∀ e ∈ ndn.l.take I, KLt e.key k := fun e he => by
            rw [HH.out.nl, List.take_append, hlI, List.take_of_length_le (by omega), Nat.sub_self] at he
            exact htk e (by simpa using he)
          have h2 : ∀ e ∈ ndn.l.drop I, KLt k e.key := fun e he => by
            rw [HH.out.nl, List.drop_append, hlI, List.drop_of_length_le (by omega), Nat.sub_self] at he
            rcases List.mem_cons.1 (by simpa using he : e ∈ m :: nd.l.drop I) with rfl | he
            · exact hkm
            · exact hdk e he
          obtain ⟨q', pre2, post2, fq2, ns2, nq2, hkq', hW'⟩ := HW2.out.down hr.out HH.out.at_n (by omega) h1 h2
          have hqa : q' = q2 := by
            have hkq9 := hkq'
            rw [HH.out.nk, List.getElem?_append_left (by omega), List.getElem?_take, if_pos (by omega)] at hkq9
            rw [HKQ.out] at hkq9
            exact (Option.some.inj hkq9).symm
          have hcK := (HKEY.out _ _ hkq')
          have f4 : ∀ w', Below w4.heap.size w4 w' → w'.cell? ⟨gk4, I, none⟩ = some (.pointer (some ⟨q', 0, none⟩)) := fun w' h => (h.cell (p := ⟨gk4, I, none⟩) hcK.2).trans hcK.1
          have r2 : (I : Int) < (nd.l.length : Int) + 2 := by omega
          have hnext := Lib.hid (⟨hW', hqa ▸ HH.out.at_a⟩ : Way N2 D root d' q' f k pre2 post2 fq2 ns2 nq2 ∧ N2 q' = some nda)
          clear hW' hkq' HKEY HW2 h1 h2 hqa hcK
          go_wp2_with fail
          refine wp_region_held_drew (S := fun w' => Below w4.heap.size w4 w') (by kernel_rfl) (by first | assumption | exact Below.refl _ _ | exact (Below.refl _ _).drew) (fun hHeld => ?_)
          refine wpAnyH_take (i := 0) (v := ?_) rfl (by kernel_rfl) (by kernel_rfl) (by kernel_rfl) (fun _ _ _ h => h) (Or.inl ⟨by first | kernel_rfl | rfl, ?_⟩) (by assumption) ?_
          rotate_left
          · (intro wq hSw; (try dsimp only at hSw); (try simp (maxSteps := 2000000) only [List.getElem_toArray, List.getElem_cons_succ, List.getElem_cons_zero]); go_simp); try with_reducible rfl
          try simp (maxSteps := 2000000) only [List.getElem_toArray, List.getElem_cons_succ, List.getElem_cons_zero, Act.put, List.setIfInBounds_toArray, List.set_cons_zero, List.set_cons_succ]
          refine wpAnyH_take (i := 1) (v := ?_) rfl (by kernel_rfl) (by kernel_rfl) (by kernel_rfl) (fun _ _ _ h => h) (Or.inl ⟨by first | kernel_rfl | rfl, ?_⟩) (by assumption) ?_
          rotate_left
          · (intro wq hSw; (try dsimp only at hSw); (try simp (maxSteps := 2000000) only [List.getElem_toArray, List.getElem_cons_succ, List.getElem_cons_zero]); go_simp); try with_reducible rfl
          try simp (maxSteps := 2000000) only [List.getElem_toArray, List.getElem_cons_succ, List.getElem_cons_zero, Act.put, List.setIfInBounds_toArray, List.set_cons_zero, List.set_cons_succ]
          refine wpAnyH_take (i := 2) (v := ?_) rfl (by kernel_rfl) (by kernel_rfl) (by kernel_rfl) (fun _ _ _ h => h) (Or.inl ⟨by first | kernel_rfl | rfl, ?_⟩) (by assumption) ?_
          rotate_left
          · (intro wq hSw; (try dsimp only at hSw); (try simp (maxSteps := 2000000) only [List.getElem_toArray, List.getElem_cons_succ, List.getElem_cons_zero]); go_simp); try with_reducible rfl
          try simp (maxSteps := 2000000) only [List.getElem_toArray, List.getElem_cons_succ, List.getElem_cons_zero, Act.put, List.setIfInBounds_toArray, List.set_cons_zero, List.set_cons_succ]
          refine wpAnyH_take (i := 3) (v := ?_) rfl (by kernel_rfl) (by kernel_rfl) (by kernel_rfl) (fun _ _ _ h => h) (Or.inl ⟨by first | kernel_rfl | rfl, ?_⟩) (by assumption) ?_
          rotate_left
          · (intro wq hSw; (try dsimp only at hSw); (try simp (maxSteps := 2000000) only [List.getElem_toArray, List.getElem_cons_succ, List.getElem_cons_zero]); go_simp); try with_reducible rfl
          try simp (maxSteps := 2000000) only [List.getElem_toArray, List.getElem_cons_succ, List.getElem_cons_zero, Act.put, List.setIfInBounds_toArray, List.set_cons_zero, List.set_cons_succ]
          refine wpAnyH_take (i := 4) (v := ?_) rfl (by kernel_rfl) (by kernel_rfl) (by kernel_rfl) (fun _ _ _ h => h) (Or.inl ⟨by first | kernel_rfl | rfl, ?_⟩) (by assumption) ?_
          rotate_left
          · (intro wq hSw; (try dsimp only at hSw); (try simp (maxSteps := 2000000) only [List.getElem_toArray, List.getElem_cons_succ, List.getElem_cons_zero]); go_simp); try with_reducible rfl
          try simp (maxSteps := 2000000) only [List.getElem_toArray, List.getElem_cons_succ, List.getElem_cons_zero, Act.put, List.setIfInBounds_toArray, List.set_cons_zero, List.set_cons_succ]
          refine wpAnyH_take (i := 5) (v := ?_) rfl (by kernel_rfl) (by kernel_rfl) (by kernel_rfl) (fun _ _ _ h => h) (Or.inl ⟨by first | kernel_rfl | rfl, ?_⟩) (by assumption) ?_
          rotate_left
          · (intro wq hSw; (try dsimp only at hSw); (try simp (maxSteps := 2000000) only [List.getElem_toArray, List.getElem_cons_succ, List.getElem_cons_zero]); go_simp); try with_reducible rfl
          try simp (maxSteps := 2000000) only [List.getElem_toArray, List.getElem_cons_succ, List.getElem_cons_zero, Act.put, List.setIfInBounds_toArray, List.set_cons_zero, List.set_cons_succ]
          refine wpAnyH_take (i := 6) (v := ?_) rfl (by kernel_rfl) (by kernel_rfl) (by kernel_rfl) (fun _ _ _ h => h) (Or.inl ⟨by first | kernel_rfl | rfl, ?_⟩) (by assumption) ?_
          rotate_left
          · (intro wq hSw; (try dsimp only at hSw); (try simp (maxSteps := 2000000) only [List.getElem_toArray, List.getElem_cons_succ, List.getElem_cons_zero]); go_simp); try with_reducible rfl
          try simp (maxSteps := 2000000) only [List.getElem_toArray, List.getElem_cons_succ, List.getElem_cons_zero, Act.put, List.setIfInBounds_toArray, List.set_cons_zero, List.set_cons_succ]
          refine wpAnyH_take (i := 7) (v := ?_) rfl (by kernel_rfl) (by kernel_rfl) (by kernel_rfl) (fun _ _ _ h => h) (Or.inl ⟨by first | kernel_rfl | rfl, ?_⟩) (by assumption) ?_
          rotate_left
          · (intro wq hSw; (try dsimp only at hSw); (try simp (maxSteps := 2000000) only [List.getElem_toArray, List.getElem_cons_succ, List.getElem_cons_zero]); go_simp); try with_reducible rfl
          try simp (maxSteps := 2000000) only [List.getElem_toArray, List.getElem_cons_succ, List.getElem_cons_zero, Act.put, List.setIfInBounds_toArray, List.set_cons_zero, List.set_cons_succ]
          refine wpAnyH_take (i := 8) (v := ?_) rfl (by kernel_rfl) (by kernel_rfl) (by kernel_rfl) (fun _ _ _ h => h) (Or.inl ⟨by first | kernel_rfl | rfl, ?_⟩) (by assumption) ?_
          rotate_left
          · (intro wq hSw; (try dsimp only at hSw); (try simp (maxSteps := 2000000) only [List.getElem_toArray, List.getElem_cons_succ, List.getElem_cons_zero]); go_simp); try with_reducible rfl
          try simp (maxSteps := 2000000) only [List.getElem_toArray, List.getElem_cons_succ, List.getElem_cons_zero, Act.put, List.setIfInBounds_toArray, List.set_cons_zero, List.set_cons_succ]
          refine wpAnyH_take (i := 9) (v := ?_) rfl (by kernel_rfl) (by kernel_rfl) (by kernel_rfl) (fun _ _ _ h => h) (Or.inl ⟨by first | kernel_rfl | rfl, ?_⟩) (by assumption) ?_
          rotate_left
          · (intro wq hSw; (try dsimp only at hSw); (try simp (maxSteps := 2000000) only [List.getElem_toArray, List.getElem_cons_succ, List.getElem_cons_zero]); go_simp); try with_reducible rfl
          try simp (maxSteps := 2000000) only [List.getElem_toArray, List.getElem_cons_succ, List.getElem_cons_zero, Act.put, List.setIfInBounds_toArray, List.set_cons_zero, List.set_cons_succ]
          refine wpAnyH_take (i := 10) (v := ?_) rfl (by kernel_rfl) (by kernel_rfl) (by kernel_rfl) (fun _ _ _ h => h) (Or.inl ⟨by first | kernel_rfl | rfl, ?_⟩) (by assumption) ?_
          rotate_left
          · (intro wq hSw; (try dsimp only at hSw); (try simp (maxSteps := 2000000) only [List.getElem_toArray, List.getElem_cons_succ, List.getElem_cons_zero]); go_simp); try with_reducible rfl
          try simp (maxSteps := 2000000) only [List.getElem_toArray, List.getElem_cons_succ, List.getElem_cons_zero, Act.put, List.setIfInBounds_toArray, List.set_cons_zero, List.set_cons_succ]
          refine wpAnyH_done (by kernel_rfl) ?_ _
          obtain ⟨w5, hw5⟩ : ∃ w5, w4.drew = w5 := ⟨_, rfl⟩
          have hb5 : Below w4.heap.size w4 w5 := hw5 ▸ (Below.refl _ _).drew
          rw [hw5]
          have f35 := f3 w5 hb5
          have f45 := f4 w5 hb5
          clear hw5 f0 f1 f2 f3 f4
          go_wp2_with fail
          go_roundg (d' + 1)
          case measure => omega
          case rel => exact ⟨d', q', pre2, post2, fq2, ns2, nq2, N2, nda, rfl, rfl, Lib.hid (HM2.out.below hb5), Lib.hid hnext.out.1, hnext.out.2, by omega⟩
      · have e5 : (nq'.l.length == 5) = false := by simpa using hf5
        rw [e5] at hfull
        have HM := Lib.hid hm
        have HKP := Lib.hid hkp
        have HWq := Lib.hid hWq
        clear hm hN2 HN HX hk0' hkp hWq
        go_wp2_with fail
        refine hfind.mono ?_
        rintro e w1 ⟨rfl, hb1⟩
        have hleaf1 := hleaf w1 hb1
        have pn11 := pn1 w1 hb1
        have pc1 := pc w1 hb1
        have hfull1 := hfull w1 hb1
        have hnext := Lib.hid (HM.out.below hb1 : Mod base S w0 N w1 Nr)
        clear HM HKP
        go_wp2_with fail
        refine hleaf1.mono ?_
        rintro e w2 ⟨rfl, rfl⟩
        go_wp2_with fail
        refine hfull1.mono ?_
        rintro e w3 ⟨rfl, rfl⟩
        go_wp2_with fail
        go_roundg (d' + 1)
        case measure => omega
        case rel => exact ⟨d', q2, pre', post', fq, ns0', nq, Nr, nq', rfl, rfl, hnext, HWq, hq, by omega⟩
end Go.Proofs.Ytpibaahiboajhaa
