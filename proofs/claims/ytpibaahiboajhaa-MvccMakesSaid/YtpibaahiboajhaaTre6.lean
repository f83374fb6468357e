/-
  Down a tree to a key.
-/
import Derived.Test.YtpibaahiboajhaaTre4
import Derived.Deep.LoopGhost
set_option linter.unusedSimpArgs false
set_option linter.unusedVariables false
namespace Go.Proofs.Ytpibaahiboajhaa
open Go.RowKit Go.Cib
attribute [local go_sem] cell_set Later.cell Later.frozen Grw.cell Grw.frozen

/-- Where a key stands in a tree. -/
structure SeekAt (N : NMap) (D root : Nat) (f : List Ent) (ns : List Nat) (k : ByteArray) (g i : Nat) (e : Ent) : Prop where
  ex : ∃ d p nd pre post fp ns0 nsp, N p = some nd ∧ nd.l[i]? = some e ∧ e.key = k ∧ nd.lv.ownBlock = some g ∧ Hole N D root d p pre post ns0 ∧ TreeOf N d p fp nsp ∧ f = pre ++ fp ++ post ∧ (∀ x ∈ pre, KLt x.key k) ∧ (ns0 ++ nsp).Perm ns
def SeekP (N : NMap) (D root : Nat) (f : List Ent) (ns : List Nat) (k : ByteArray) (e : Ending) : Prop :=
  (e = .returned (.pointer none) ∧ ∀ x ∈ f, x.key ≠ k) ∨ ∃ g i y, e = .returned (.pointer (some ⟨g, i * 2, none⟩)) ∧ SeekAt N D root f ns k g i y
theorem NodeAt.row {w : World} {base : Nat} {S : Nat → Prop} {p : Nat} {nd : ND} (h : NodeAt w base S p nd) (hl : 0 < nd.l.length) : ∃ g c, nd.lv = .slice (some ⟨g, 0, none⟩) nd.l.length c ∧ nd.l.length ≤ c := by
  obtain ⟨css, h1, h2, h3, h4, h5⟩ := h.l
  rcases h1.2 with ⟨_, e⟩ | ⟨g, cap, cur, e, _, _, hnc, _⟩
  · omega
  · exact ⟨g, cap, e, hnc⟩

set_option maxRecDepth 100000 in
set_option maxHeartbeats 4000000 in
theorem seek_any {w : World} {base D root t : Nat} {S : Nat → Prop} {N : NMap} {f : List Ent} {ns : List Nat} {nv : Value} (k : ByteArray) (X : BoxAt w t #[.pointer (some ⟨root, 0, none⟩), nv]) (M : Hid (TMem w base S N)) (T : Hid (TreeOf N D root f ns)) (hnd : Hid ns.Nodup) (hr : Hid (Rises f)) :
    Calls Try.prog 112 #[.pointer (some ⟨t, 0, none⟩), .string k] w fun e w' => SeekP N D root f ns k e ∧ Below w.heap.size w w' := by
  have p00 := X.cell 0
  go_enter Try.func112, Try.ntmps112
  go_wp2_with fail
  go_loopg [5] (D + 1) (fun gk v5 wr => ∃ (d p : Nat) (pre post fp : List Ent) (ns0 nsp : List Nat), v5 = .pointer (some ⟨p, 0, none⟩) ∧ gk = d + 1 ∧ Hid (Below w.heap.size w wr) ∧ Hid (Hole N D root d p pre post ns0 ∧ TreeOf N d p fp nsp ∧ f = pre ++ fp ++ post ∧ (∀ x ∈ pre, KLt x.key k) ∧ (∀ x ∈ post, KLt k x.key) ∧ (ns0 ++ nsp).Perm ns))
  case atStart => exact ⟨D, root, [], [], f, [], ns, rfl, rfl, Lib.hid (Below.refl _ _), Lib.hid ⟨Hole.refl, T.out, by simp, by simp, by simp, by simp⟩⟩
  case round =>
    obtain ⟨d, p, pre, post, fp, ns0, nsp, rfl, rfl, HB, HH⟩ := hrel
    obtain ⟨hHo, hTp, hf, hpre, hpost, hpm⟩ := HH.out
    obtain ⟨nd, hp, hl5, hk6⟩ := hTp.node
    have M2 := M.out.below HB.out
    have hN2 := M2.at_ p nd hp
    have HN := Lib.hid hN2
    have hrl : Rises nd.l := hTp.rises hp ((hf ▸ hr.out : Rises (pre ++ fp ++ post)).sub ((List.sublist_append_right pre fp).trans (List.sublist_append_left _ post)))
    have hpl := posE_le nd.l k
    cases hik : isE nd.l k with
    | true =>
      obtain ⟨y, hy, hyk, hlt⟩ := isE_some hik
      obtain ⟨g, c, hlv, hc⟩ := hN2.row (by omega)
      have hpost2 := Lib.hid (⟨⟨d, p, nd, pre, post, fp, ns0, nsp, hp, hy, hyk, by rw [hlv]; rfl, hHo, hTp, hf, hpre, hpm⟩⟩ : SeekAt N D root f ns k g (posE nd.l k) y)
      have hfind := find_any HN k (by omega)
      have p0 := fun w' (hb : Below wr.heap.size wr w') => (hb.cell (p := ⟨p, 0, none⟩) hN2.box.lt).trans (hN2.box.cell 0)
      rw [hlv] at p0
      rw [hik] at hfind
      obtain ⟨I, hI⟩ : ∃ I, posE nd.l k = I := ⟨_, rfl⟩
      obtain ⟨L, hL⟩ : ∃ L, nd.l.length = L := ⟨_, rfl⟩
      rw [hI] at hfind hpost2 hlt
      rw [hL] at p0 hlt
      have q0 : (0 : Int) ≤ (I : Int) := Int.natCast_nonneg _
      have q1 : (I : Int) < (L : Int) := by omega
      clear hHo hTp hf hpre hpost hpm HH M2 hN2 HN hrl hpl hlv hy hI hL hik hp hl5
      go_wp2_with (go_at_call 133; refine hfind.mono ?_; rintro e w1 ⟨rfl, hb1⟩; have p1 := p0 w1 hb1)
      refine bodyPost_ret (v := .pointer (some ⟨g, I * 2, none⟩)) (by simp [results, Try.results112, go_sem, *]) rfl ?_
      exact ⟨.inr ⟨g, I, y, rfl, hpost2.out⟩, HB.out.trans (hb1.mono HB.out.size)⟩
    | false =>
      have hno : ∀ e ∈ nd.l, e.key ≠ k := fun e he => by
        rw [← List.take_append_drop (posE nd.l k) nd.l] at he
        rcases List.mem_append.1 he with he | he
        · exact bl_ne (posE_take nd.l k e he)
        · exact (bl_ne (posE_drop hrl hik e he)).symm
      have hfind := find_any HN k (by omega)
      rw [hik] at hfind
      by_cases hk0 : nd.ks.length = 0
      · have hleaf := fun w' (hb : Below wr.heap.size wr w') => leaf_any (M2.below hb |>.at_ p nd hp)
        have hk0' : (nd.ks.length == 0) = true := by simpa using hk0
        rw [hk0'] at hleaf
        obtain ⟨rfl, rfl, rfl⟩ := hTp.leaf hp hk0
        have hall := Lib.hid (fun x (hx : x ∈ f) => (by
          rw [hf] at hx
          rcases List.mem_append.1 hx with hx | hx
          · rcases List.mem_append.1 hx with hx | hx
            · exact bl_ne (hpre x hx)
            · exact hno x hx
          · exact (bl_ne (hpost x hx)).symm : x.key ≠ k))
        obtain ⟨I, hI⟩ : ∃ I, posE nd.l k = I := ⟨_, rfl⟩
        rw [hI] at hfind
        clear hHo hTp hf hpre hpost hpm HH M2 hN2 HN hrl hpl hI hik hp hl5 hno hk0'
        go_wp2_with (first
          | (go_at_call 133; refine hfind.mono ?_; rintro e w1 ⟨rfl, hb1⟩; have hleaf1 := hleaf w1 hb1)
          | (go_at_call 134; refine hleaf1.mono ?_; rintro e w2 ⟨rfl, rfl⟩))
        refine bodyPost_ret (v := .pointer none) (by simp [results, Try.results112, go_sem, *]) rfl ?_
        exact ⟨.inl ⟨rfl, hall.out⟩, HB.out.trans (hb1.mono HB.out.size)⟩
      · obtain ⟨d', rfl⟩ := hTp.inner hp hk0
        have hndp : (ns0 ++ nsp).Nodup := hpm.nodup_iff.2 hnd.out
        obtain ⟨q, fq, nq, ns0', a, b, hkq, hHq, hTq, hpq, hfq, A, B, hA, hB, ha, hb⟩ := hHo.down hTp hp hpl hndp
        have hrf : Rises fp := (hf ▸ hr.out : Rises (pre ++ fp ++ post)).sub ((List.sublist_append_right pre fp).trans (List.sublist_append_left _ post))
        have hra : Rises a := hrf.sub (by rw [hfq]; exact (List.sublist_append_left a fq).trans (List.sublist_append_left _ b))
        have hrb : Rises b := hrf.sub (by rw [hfq]; exact List.sublist_append_right _ b)
        have hla : ∀ x ∈ a, KLt x.key k := by rw [ha] at hra ⊢; exact wl_lt A _ hra (posE_take nd.l k)
        have hlb : ∀ x ∈ b, KLt k x.key := by rw [hb] at hrb ⊢; exact wr_gt hrb (posE_drop hrl hik)
        have hnext := Lib.hid (⟨hHq, hTq, by rw [hf, hfq]; simp, fun x hx => (List.mem_append.1 hx).elim (hpre x) (hla x), fun x hx => (List.mem_append.1 hx).elim (hlb x) (hpost x), hpq.trans hpm⟩ :
          Hole N D root d' q (pre ++ a) (b ++ post) ns0' ∧ TreeOf N d' q fq nq ∧ f = pre ++ a ++ fq ++ (b ++ post) ∧ (∀ x ∈ pre ++ a, KLt x.key k) ∧ (∀ x ∈ b ++ post, KLt k x.key) ∧ (ns0' ++ nq).Perm ns)
        have hleaf := fun w' (hb : Below wr.heap.size wr w') => leaf_any (M2.below hb |>.at_ p nd hp)
        have hk0' : (nd.ks.length == 0) = false := by simpa using hk0
        rw [hk0'] at hleaf
        have hkn := hTp.at hp hpl
        obtain ⟨_, _, _, _, _, _, _, _, _, hks, hk1, _, hBl, _⟩ := hkn
        have hiK : posE nd.l k < nd.ks.length := (List.getElem?_eq_some_iff.1 hkq).1
        have p1 := fun w' (hb : Below wr.heap.size wr w') => (hb.cell (p := ⟨p, 1, none⟩) hN2.box.lt).trans (hN2.box.cell 1)
        obtain ⟨KA, KC, hkv, hKC, KR⟩ := hN2.rdk
        obtain ⟨gb, go, q2, rfl, hq2, hgb, _, hcell⟩ := ptr_at KR hiK
        have e2 : q2 = q := by rw [hq2] at hkq; exact Option.some.inj hkq
        subst e2
        rw [hkv] at p1
        have pc := fun w' (hb : Below wr.heap.size wr w') => (hb.cell (p := ⟨gb, go + posE nd.l k, none⟩) hgb).trans hcell
        obtain ⟨I, hI⟩ : ∃ I, posE nd.l k = I := ⟨_, rfl⟩
        obtain ⟨L, hL⟩ : ∃ L, nd.ks.length = L := ⟨_, rfl⟩
        rw [hI] at hfind hiK pc
        rw [hL] at p1 hiK
        have q0 : (0 : Int) ≤ (I : Int) := Int.natCast_nonneg _
        have q1 : (I : Int) < (L : Int) := by omega
        clear hHo hTp hf hpre hpost hpm HH M2 hN2 HN hrl hpl hI hik hp hl5 hno hk0' hHq hTq hpq hfq ha hb hla hlb hra hrb hrf hndp hks hk1 hBl KR hkq hq2 hL hcell hkv hKC hk0
        go_wp2_with (first
          | (go_at_call 133; refine hfind.mono ?_; rintro e w1 ⟨rfl, hb1⟩; have hleaf1 := hleaf w1 hb1; have p11 := p1 w1 hb1; have pc1 := pc w1 hb1)
          | (go_at_call 134; refine hleaf1.mono ?_; rintro e w2 ⟨rfl, rfl⟩))
        go_roundg (d' + 1)
        case measure => omega
        case rel => exact ⟨d', q2, pre ++ a, b ++ post, fq, ns0', nq, rfl, rfl, Lib.hid (HB.out.trans (hb1.mono HB.out.size)), hnext⟩
end Go.Proofs.Ytpibaahiboajhaa
