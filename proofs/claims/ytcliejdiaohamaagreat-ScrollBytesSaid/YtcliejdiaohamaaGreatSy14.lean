/-
  A long text is put, or why not: scroll.Put.
  A long text isn't put: no room, too long, nothing to put it into.
  A long text's Get, without drives or a coder.
  A long text's stripes are read one by one.
  Values that were put, and what they were: two slices that grow side by side, while drives and a pool go on.
  A long text is got: scroll.Get.
  The document's count of a long text's stripes; lists of ints that are the same.
  Law 16's page's example.
  Numbers read out of bytes, whatever is asked; by the reference, too.
  Numbers as bytes, by the reference: joined, Put, Get.
  Numbers read out of bytes, by the reference.
-/
import Derived.Test.YtcliejdiaohamaaGreatSy13
import Derived.WalkMore
import Derived.Test.YtcliejdiaohamaaGreatSy8
import Derived.Test.YtcliejdiaohamaaGreatSy4
import Derived.Test.YtcliejdiaohamaaGreatSy7
import Derived.Test.YtcliejdiaohamaaGreatSy12
set_option linter.unusedSimpArgs false
set_option linter.unusedVariables false
namespace Go.Proofs.YtcliejdiaohamaaGreat
open Go.RowKit Go.Cib
attribute [local go_sem] cell_set Later.cell Later.frozen Grw.cell Grw.frozen
section
variable {P X S : Nat → Prop} {w0 w w' : World} {a p o l go gl ct fs np n cb bf k m t : Nat} {sts : List DSt}
def SputP (P X : Nat → Prop) (w0 w : World) (a cb bf k m n p o l go gl ct fs np t M size : Nat) (xs : List Nat) (sts : List DSt) (e : Ending) (w' : World) : Prop :=
  ∃ A c S', e = .returned (.tuple #[.agg (scC ((fs + t : Nat) : Int) (ct : Int) (M : Int) (size : Int)), .slice A M c, .int .i64 0]) ∧ M ≤ c ∧ RdL IntR 1 S' w' A M (plL (fs + t) M) ∧ (∀ j, S' j → w.heap.size ≤ j ∧ j < w'.heap.size) ∧
    PoolT w' p o l go gl (ct + M) fs np (t + M) ∧ MidP P (fun j => X j ∨ S' j) w0 w' a cb bf k m n (putC n k (k + m) (scRf (fs + t) ct) (scTx k (fs + t) ct M xs) sts M) ∧ KpX X w w'
set_option maxRecDepth 100000 in
set_option maxHeartbeats 16000000 in
theorem scp_any (h : MidP P X w0 w a cb bf k m n sts) (hP : PoolT w p o l go gl ct fs np t) (hPB : ∀ j, PoolB p o l go gl j → P j) {A : Option Addr} {size cx : Nat} {xs : List Nat} (R : RdL ByR 1 S w A size xs) (hSX : ∀ j, S j → X j) (hcx : size ≤ cx) (hs : size ≤ 2000) (hct : ct + scN k size ≤ 1048576) (ht : t + scN k size ≤ np) (hnp : fs + np ≤ n) (hcl : ∀ st ∈ sts, st.cache.length < 800000) (h4 : scN k size ≤ 400) :
    Calls Tryz.prog 44 #[.pointer (some ⟨a, 0, none⟩), .pointer (some ⟨cb, 0, none⟩), .pointer (some ⟨p, 0, none⟩), .slice A size cx] w fun e w' => SputP P X w0 w a cb bf k m n p o l go gl ct fs np t (scN k size) size xs sts e w' := by
  have hpos := h.pos
  have hb0 : Below w.heap.size w (w.alloc (.cells #[.int .i64 0, .int .u64 0, .int .i64 0, .int .i64 0] 24)) := (Below.refl _ _).alloc (Nat.le_refl _) _
  have bB := BoxAt.new w #[.int .i64 0, .int .u64 0, .int .i64 0, .int .i64 0] 24
  have hM1 := h.below hb0
  have hP1 := hP.below hb0
  obtain ⟨w1, hw1⟩ : ∃ w1, w.alloc (.cells #[.int .i64 0, .int .u64 0, .int .i64 0, .int .i64 0] 24) = w1 := ⟨_, rfl⟩
  obtain ⟨q, hq⟩ : ∃ q, w.heap.size = q := ⟨_, rfl⟩
  have hs1 : w1.heap.size = q + 1 := by rw [← hw1, ← hq, World.size_alloc]
  rw [hw1] at hb0 bB hM1 hP1
  rw [hq] at bB
  have han := an_p hM1
  have hcn := fun (w2 : World) (hb : Below w1.heap.size w1 w2) => cn_any (hM1.cod.below hb)
  have hpc := fun (w2 : World) (hb : Below w1.heap.size w1 w2) => (show Calls Tryz.prog 108 #[.pointer (some ⟨p, 0, none⟩)] w2 fun e w' => ∃ z, e = .returned (.pointer (some ⟨z, 0, none⟩)) ∧ Below w2.heap.size w2 w' by
    obtain ⟨wo, wl, h1, _⟩ := hP1
    exact pcopy_any (h1.below hb))
  have hsi := scI_nat k size
  have hct1 := fun (w2 : World) (hb : Below w1.heap.size w1 w2) => scnt_any (hM1.cod.below hb) (size := (size : Int)) (Lib.hid (by omega))
  have hwr := fun (w2 : World) (hb : Below w1.heap.size w1 w2) => scw_any ((hM1.below' hb).sub (Y := fun j => X j ∨ j = q) (fun j hj => by
    rcases hj with hj | hj
    · exact .inl hj
    · exact .inr (by omega))) (hP1.below hb) hPB (R.below ByR.stable (hb0.trans (hb.mono hb0.size))) (fun j hj => .inl (hSX j hj)) hcx hs hct ht hnp hcl
  have hM1p := scN_pos k size
  obtain ⟨M, hM⟩ : ∃ M, scN k size = M := ⟨_, rfl⟩
  obtain ⟨N, hN⟩ : ∃ N, k + m = N := ⟨_, rfl⟩
  rw [hN] at han hcn
  rw [hM] at hwr hsi h4 hM1p ⊢
  rw [hsi] at hct1
  have e0 : ((N : Int) == 0) = false := by simp; omega
  have q4 : ¬ (M : Int) > 400 := by omega
  have HCN := Lib.hid hcn
  have HPC := Lib.hid hpc
  have HCT := Lib.hid hct1
  have HWR := Lib.hid hwr
  have HB0 := Lib.hid hb0
  have BB := Lib.hid bB
  have HH := Lib.hid h
  have HPB := Lib.hid hPB
  have HQ := Lib.hid (show w.heap.size = q ∧ w1.heap.size = q + 1 from ⟨hq, hs1⟩)
  clear h hP hPB R hSX hM1 hP1 hcn hpc hct1 hwr hb0 bB hcl hct ht hM hN hsi hs1
  go_enter Tryz.func44, Tryz.ntmps44
  go_wp2_with fail
  refine han.mono ?_
  clear han hw1
  rintro e w2 ⟨rfl, hb2⟩
  have hcn2 := HCN.out w2 hb2
  have HB2 := Lib.hid hb2
  clear hb2
  go_wp2_with fail
  refine hcn2.mono ?_
  clear hcn2
  rintro e w3 ⟨rfl, hb3⟩
  have HB3 := Lib.hid (HB2.out.trans (hb3.mono HB2.out.size))
  have hpc3 := HPC.out w3 HB3.out
  clear hb3 HB2
  go_wp2_with fail
  refine hpc3.mono ?_
  clear hpc3
  rintro e w4 ⟨zc, rfl, hb4⟩
  have HB4 := Lib.hid (HB3.out.trans (hb4.mono HB3.out.size))
  have hct4 := HCT.out w4 HB4.out
  clear hb4 HB3
  go_wp2_with fail
  refine hct4.mono ?_
  clear hct4
  rintro e w5 ⟨rfl, hb5⟩
  have HB5 := Lib.hid (HB4.out.trans (hb5.mono HB4.out.size))
  have hwr5 := HWR.out w5 HB5.out
  clear hb5 HB4
  go_wp2_with fail
  refine hwr5.mono ?_
  clear hwr5
  rintro e w6 ⟨A6, c6, rfl, hc6, S6, hr6, hS6, hP6, hM6, hK6⟩
  have hqn := HQ.out
  have bB6 := hK6.box (BB.out.below HB5.out) (.inr rfl)
  obtain ⟨ba, oa, rfl, _, hba⟩ := hr6.addr (k := 0) (by omega)
  obtain ⟨x, hx, v1⟩ := int_at1 hr6 (k := 0) (by omega)
  obtain rfl : x = ((fs + t : Nat) : Int) := by
    have h : (plL (fs + t) M)[0]? = some ((fs + t : Nat) : Int) := by unfold plL; rw [List.getElem?_map, List.getElem?_range (by omega)]; rfl
    rw [h] at hx; exact (Option.some.inj hx).symm
  rw [Nat.add_zero] at v1
  obtain ⟨y, hy⟩ : ∃ y, fs + t = y := ⟨_, rfl⟩
  rw [hy] at v1
  have k0 := bB6.cell 0
  have k1 := bB6.cell 1
  have k2 := bB6.cell 2
  have k3 := bB6.cell 3
  have z0 := bB6.frozen 0
  have z1 := bB6.frozen 1
  have z2 := bB6.frozen 2
  have z3 := bB6.frozen 3
  have hl0 : (0 : Int) < (M : Int) := by omega
  have hKq : ∀ (x y z u : Value), Keep (fun j => j = q) w6 ((((w6.setCell ⟨q, 0, none⟩ x).setCell ⟨q, 1, none⟩ y).setCell ⟨q, 2, none⟩ z).setCell ⟨q, 3, none⟩ u) := fun x y z u =>
    ((((Keep.refl (fun j => j = q) w6).setCell (p := ⟨q, 0, none⟩) (fun _ => rfl) x).setCell (p := ⟨q, 1, none⟩) (fun _ => rfl) y).setCell (p := ⟨q, 2, none⟩) (fun _ => rfl) z).setCell (p := ⟨q, 3, none⟩) (fun _ => rfl) u
  have hs15 := HB5.out.size
  have hs56 := hK6.2
  have hSq : ∀ j, S6 j → j ≠ q := fun j hj e => by have := (hS6 j hj).1; omega
  have HFIN : Hid (∀ x y' z u, RdL IntR 1 S6 ((((w6.setCell ⟨q, 0, none⟩ x).setCell ⟨q, 1, none⟩ y').setCell ⟨q, 2, none⟩ z).setCell ⟨q, 3, none⟩ u) (some ⟨ba, oa, none⟩) M (plL (fs + t) M) ∧ (∀ j, S6 j → w.heap.size ≤ j ∧ j < ((((w6.setCell ⟨q, 0, none⟩ x).setCell ⟨q, 1, none⟩ y').setCell ⟨q, 2, none⟩ z).setCell ⟨q, 3, none⟩ u).heap.size) ∧
    PoolT ((((w6.setCell ⟨q, 0, none⟩ x).setCell ⟨q, 1, none⟩ y').setCell ⟨q, 2, none⟩ z).setCell ⟨q, 3, none⟩ u) p o l go gl (ct + M) fs np (t + M) ∧ MidP P (fun j => X j ∨ S6 j) w0 ((((w6.setCell ⟨q, 0, none⟩ x).setCell ⟨q, 1, none⟩ y').setCell ⟨q, 2, none⟩ z).setCell ⟨q, 3, none⟩ u) a cb bf k m n (putC n k (k + m) (scRf (fs + t) ct) (scTx k (fs + t) ct M xs) sts M) ∧ KpX X w ((((w6.setCell ⟨q, 0, none⟩ x).setCell ⟨q, 1, none⟩ y').setCell ⟨q, 2, none⟩ z).setCell ⟨q, 3, none⟩ u)) := Lib.hid fun x y' z u => by
    have hw0 := HH.out.bel.size
    have hz := (hKq x y' z u).size
    refine ⟨hr6.keep IntR.stable (hKq x y' z u) (fun j hj e => hSq j hj e), fun j hj => by have := hS6 j hj; omega, hP6.keep (hKq x y' z u) (fun j hj e => by have h1 := HH.out.ltP (HPB.out j hj); omega), (hM6.own (hKq x y' z u) (fun j hj => by subst hj; exact ⟨.inl (.inr rfl), by omega⟩)).sub (fun j hj => hj.elim (fun h => .inl (.inl h)) .inr), ?_⟩
    exact ((KpX.of_below (HB0.out.trans (HB5.out.mono HB0.out.size)) fun j hj => HH.out.lt hj).trans (hK6.mono fun j hj => .inl hj)).trans ⟨fun j hj => (hKq x y' z u).block j (by have := HH.out.lt hj; omega) (by have := HH.out.lt hj; omega), (hKq x y' z u).size⟩
  have HY := Lib.hid hy
  clear hr6 hS6 hP6 hM6 hK6 hKq bB6 hSq hx
  go_wp2_with fail
  refine bodyPost_ret (v := .tuple #[.agg #[.int .i64 (y : Int), .int .u64 (ct : Int), .int .i64 (M : Int), .int .i64 (size : Int)], .slice (some ⟨ba, oa, none⟩) M c6, .int .i64 0]) (by simp [results, Tryz.results44, go_sem, *]) rfl ?_
  refine ⟨_, c6, S6, ?_, hc6, HFIN.out _ _ _ _⟩
  rw [HY.out]; rfl
end
end Go.Proofs.YtcliejdiaohamaaGreat

set_option linter.unusedSimpArgs false
set_option linter.unusedVariables false
namespace Go.Proofs.YtcliejdiaohamaaGreat
open Go.RowKit Go.Cib
attribute [local go_sem] cell_set Later.cell Later.frozen Grw.cell Grw.frozen
section
variable {w : World}
end
section
variable {P X S : Nat → Prop} {w0 w w' : World} {a p o l go gl ct fs np n cb bf k m t : Nat} {sts : List DSt}
end
end Go.Proofs.YtcliejdiaohamaaGreat

set_option linter.unusedSimpArgs false
set_option linter.unusedVariables false
namespace Go.Proofs.YtcliejdiaohamaaGreat
open Go.RowKit Go.Cib
attribute [local go_sem] cell_set Later.cell Later.frozen Grw.cell Grw.frozen
section
variable {P X S : Nat → Prop} {w0 w w' : World} {a p o l go gl ct fs np n cb bf k m t : Nat} {sts : List DSt}
end
end Go.Proofs.YtcliejdiaohamaaGreat

set_option linter.unusedSimpArgs false
set_option linter.unusedVariables false
namespace Go.Proofs.YtcliejdiaohamaaGreat
open Go.RowKit Go.Cib
attribute [local go_sem] cell_set Later.cell Later.frozen Grw.cell Grw.frozen
section
variable {P X S : Nat → Prop} {w0 w w' : World} {a cb bf k m n : Nat} {sts : List DSt} {r : Ref} {g : Nat → Bool} {xs : List Nat}
set_option maxRecDepth 100000 in
set_option maxHeartbeats 8000000 in
theorem scread_any (h : SMid w0 w a cb bf k m n sts) (hr : r.ok n) (hg : Hid (r.gen < 2 ^ 64)) (hx : Byt xs) (hl : xs.length ≤ k * 44) (hv : Hds g k (k + m) r xs sts) (first : Bool) :
    Calls Tryz.prog 118 #[.pointer (some ⟨a, 0, none⟩), .pointer (some ⟨cb, 0, none⟩), .agg (refC r), .bool first] w fun e w' => GotE w k (cntP g (k + m)) xs.length xs e w' := by
  have hb0 : Below w.heap.size w (w.alloc (.cells (refC r) 41)) := (Below.refl _ _).alloc (Nat.le_refl _) _
  have bB := BoxAt.new w (refC r) 41
  have hM1 := h.below hb0
  obtain ⟨w1, hw1⟩ : ∃ w1, w.alloc (.cells (refC r) 41) = w1 := ⟨_, rfl⟩
  obtain ⟨q, hq⟩ : ∃ q, w.heap.size = q := ⟨_, rfl⟩
  rw [hw1] at hb0 bB hM1
  rw [hq] at bB
  have hgt := get_view hM1 hr hg hx hl hv
  have HB0 := Lib.hid hb0
  have HGT := Lib.hid hgt
  unfold refC at hw1 bB HGT ⊢
  have c0 : w1.cell? ⟨q, 0, none⟩ = some (.int .u8 (r.kind : Int)) ∧ w1.cell? ⟨q, 1, none⟩ = some (.int .i64 (r.place : Int)) ∧ w1.cell? ⟨q, 2, none⟩ = some (.int .u64 (r.gen : Int)) := ⟨bB.cell 0, bB.cell 1, bB.cell 2⟩
  clear h hM1 hgt hb0 bB hv hr hg hl
  go_enter Tryz.func118, Tryz.ntmps118
  go_wp2_with fail
  refine HGT.out.mono ?_
  clear HGT hw1 c0 hq
  rintro e w2 ⟨hb2, ⟨hlt, rfl⟩ | ⟨hle, A2, c2, rfl, hc2, hr2⟩⟩
  · have HB2 := Lib.hid (HB0.out.trans (hb2.mono HB0.out.size))
    clear hb2
    go_wp2_with fail
    go_ret2
    exact ⟨HB2.out, .inl ⟨hlt, rfl⟩⟩
  · have HB2 := Lib.hid (HB0.out.trans (hb2.mono HB0.out.size))
    have HR2 := Lib.hid (hr2.weaken ByR.stable (fun j hj => Nat.le_trans HB0.out.size hj))
    clear hb2 hr2
    go_wp2_with fail
    go_ret2
    exact ⟨HB2.out, .inr ⟨hle, A2, c2, rfl, hc2, HR2.out⟩⟩
set_option maxRecDepth 100000 in
set_option maxHeartbeats 8000000 in
theorem scnext_any {A : Option Addr} {l c : Nat} (R : RdL ByR 1 S w A l xs) (hl : 10 ≤ l) (hl2 : l ≤ 1000) (hc : l ≤ c) :
    Calls Tryz.prog 120 #[.slice A l c] w fun e w' => e = .returned (.agg #[.int .u8 4, .int .i64 (IntKind.i64.wrap (unN ((xs.drop 0).take 2) : Int)), .int .u64 (unN ((xs.drop 2).take 8) : Int)]) ∧ Below w.heap.size w w' := by
  have hb0 : Below w.heap.size w (w.alloc (.cells #[.int .u8 0, .int .i64 0, .int .u64 0] 41)) := (Below.refl _ _).alloc (Nat.le_refl _) _
  have bB := BoxAt.new w #[.int .u8 0, .int .i64 0, .int .u64 0] 41
  obtain ⟨w1, hw1⟩ : ∃ w1, w.alloc (.cells #[.int .u8 0, .int .i64 0, .int .u64 0] 41) = w1 := ⟨_, rfl⟩
  obtain ⟨q, hq⟩ : ∃ q, w.heap.size = q := ⟨_, rfl⟩
  have hq0 : w.heap.size ≤ q := by omega
  rw [hw1] at hb0 bB
  rw [hq] at bB
  have HB0 := Lib.hid hb0
  have HQ := Lib.hid hq0
  have h1 := nget_any (k := 2) (a := 0) (R.below ByR.stable hb0) hc (Nat.le_trans hl2 (by decide)) (by omega) (by omega) (by omega)
  have h2 := nget_any (k := 8) (a := 2) (R.below ByR.stable hb0) hc (Nat.le_trans hl2 (by decide)) (by omega) (by omega) (by omega)
  rw [show ((0 : Nat) : Int) = 0 from rfl, show ((2 : Nat) : Int) = 2 from rfl] at h1
  rw [show ((2 : Nat) : Int) = 2 from rfl, show ((8 : Nat) : Int) = 8 from rfl] at h2
  obtain ⟨x, hx⟩ : ∃ x, unN ((xs.drop 0).take 2) = x := ⟨_, rfl⟩
  obtain ⟨y, hy⟩ : ∃ y, unN ((xs.drop 2).take 8) = y := ⟨_, rfl⟩
  rw [hx] at h1 ⊢
  rw [hy] at h2 ⊢
  obtain ⟨z, hz⟩ : ∃ z, IntKind.i64.wrap (x : Int) = z := ⟨_, rfl⟩
  rw [hz]
  have k0 := bB.cell 0
  have k1 := bB.cell 1
  have k2 := bB.cell 2
  have z0 := bB.frozen 0
  have z1 := bB.frozen 1
  have z2 := bB.frozen 2
  clear hb0 hq0 bB R hx hy
  go_enter Tryz.func120, Tryz.ntmps120
  go_wp2_with fail
  refine h1.mono ?_
  rintro e w2 ⟨rfl, hw2⟩
  rw [hw2]
  clear hw2 h1
  go_wp2_with fail
  refine h2.mono ?_
  rintro e w2 ⟨rfl, hw2⟩
  rw [hw2]
  clear hw2 h2
  go_wp2_with fail
  refine bodyPost_ret (v := .agg #[.int .u8 4, .int .i64 z, .int .u64 (y : Int)]) (by simp [results, Tryz.results120, go_sem, *]) rfl ?_
  exact ⟨rfl, ((HB0.out.setCell (p := ⟨q, 0, none⟩) HQ.out _).setCell (p := ⟨q, 1, none⟩) HQ.out _).setCell (p := ⟨q, 2, none⟩) HQ.out _⟩
set_option maxRecDepth 100000 in
set_option maxHeartbeats 8000000 in
/-- A name that may be one. -/
theorem scright_ok (h : CodAt w cb bf k m) {x1 : Int} {x2 : Int} {ct size : Nat} (hct : ct = scN k size) (h4 : ct ≤ 400) (hs : size ≤ 100000) :
    Calls Tryz.prog 117 #[.pointer (some ⟨cb, 0, none⟩), .agg (scC x1 x2 (ct : Int) (size : Int))] w fun e w' => e = .returned (.bool true) ∧ Below w.heap.size w w' := by
  have hb0 : Below w.heap.size w (w.alloc (.cells (scC x1 x2 (ct : Int) (size : Int)) 24)) := (Below.refl _ _).alloc (Nat.le_refl _) _
  have bB := BoxAt.new w (scC x1 x2 (ct : Int) (size : Int)) 24
  obtain ⟨w1, hw1⟩ : ∃ w1, w.alloc (.cells (scC x1 x2 (ct : Int) (size : Int)) 24) = w1 := ⟨_, rfl⟩
  obtain ⟨q, hq⟩ : ∃ q, w.heap.size = q := ⟨_, rfl⟩
  rw [hw1] at hb0 bB
  rw [hq] at bB
  have hcn := scnt_any ((h.below hb0).below ((Below.refl w1.heap.size w1).drew)) (size := (size : Int)) (Lib.hid (by omega))
  rw [scI_nat, ← hct] at hcn
  have p0 : (0 : Int) ≤ (size : Int) := Int.natCast_nonneg _
  have p1 : (ct : Int) ≤ 400 := by omega
  have HB0 := Lib.hid hb0
  have BB := Lib.hid bB
  clear hb0 bB h hct
  unfold scC at hw1 ⊢
  go_enter Tryz.func117, Tryz.ntmps117
  go_wp2_with fail
  have hd : Below w1.heap.size w1 w1.drew := (Below.refl _ _).drew
  have HSF : Hid (∀ w', Below w1.heap.size w1 w' → w'.cell? ⟨q, 2, none⟩ = some (.int .i64 (ct : Int)) ∧ w'.cell? ⟨q, 3, none⟩ = some (.int .i64 (size : Int))) := Lib.hid fun w' hb => ⟨(BB.out.below hb).cell 2, (BB.out.below hb).cell 3⟩
  clear hw1 hq
  refine wp_region_held_drew (S := fun w' => w'.cell? ⟨q, 2, none⟩ = some (.int .i64 (ct : Int)) ∧ w'.cell? ⟨q, 3, none⟩ = some (.int .i64 (size : Int))) (by kernel_rfl) (by first | exact HSF.out _ hd | exact HSF.out _ hb2) (fun hHeld => ?_)
  refine wpAnyH_take (i := 0) (v := ?_) rfl (by kernel_rfl) (by kernel_rfl) (by kernel_rfl) (fun _ _ _ h => h) (Or.inl ⟨by first | kernel_rfl | rfl, ?_⟩) (by assumption) ?_
  rotate_left
  · (intro wq hSw; (try dsimp only at hSw); (try simp (maxSteps := 2000000) only [zz1, zz2, zz3]); go_simp); try with_reducible rfl
  try simp (maxSteps := 2000000) only [zz1, zz2, zz3, Act.put, zz4, zz5, zz6]
  refine wpAnyH_take (i := 1) (v := ?_) rfl (by kernel_rfl) (by kernel_rfl) (by kernel_rfl) (fun _ _ _ h => h) (Or.inl ⟨by first | kernel_rfl | rfl, ?_⟩) (by assumption) ?_
  rotate_left
  · (intro wq hSw; (try dsimp only at hSw); (try simp (maxSteps := 2000000) only [zz1, zz2, zz3]); go_simp); try with_reducible rfl
  try simp (maxSteps := 2000000) only [zz1, zz2, zz3, Act.put, zz4, zz5, zz6]
  refine wpAnyH_take (i := 2) (v := ?_) rfl (by kernel_rfl) (by kernel_rfl) (by kernel_rfl) (fun _ _ _ h => h) (Or.inl ⟨by first | kernel_rfl | rfl, ?_⟩) (by assumption) ?_
  rotate_left
  · (intro wq hSw; (try dsimp only at hSw); (try simp (maxSteps := 2000000) only [zz1, zz2, zz3]); go_simp); try with_reducible rfl
  try simp (maxSteps := 2000000) only [zz1, zz2, zz3, Act.put, zz4, zz5, zz6]
  refine wpAnyH_take (i := 3) (v := ?_) rfl (by kernel_rfl) (by kernel_rfl) (by kernel_rfl) (fun _ _ _ h => h) (Or.inl ⟨by first | kernel_rfl | rfl, ?_⟩) (by assumption) ?_
  rotate_left
  · (intro wq hSw; (try dsimp only at hSw); (try simp (maxSteps := 2000000) only [zz1, zz2, zz3]); go_simp); try with_reducible rfl
  try simp (maxSteps := 2000000) only [zz1, zz2, zz3, Act.put, zz4, zz5, zz6]
  refine wpAnyH_take (i := 4) (v := ?_) rfl (by kernel_rfl) (by kernel_rfl) (by kernel_rfl) (fun _ _ _ h => h) (Or.inl ⟨by first | kernel_rfl | rfl, ?_⟩) (by assumption) ?_
  rotate_left
  · (intro wq hSw; (try dsimp only at hSw); (try simp (maxSteps := 2000000) only [zz1, zz2, zz3]); go_simp); try with_reducible rfl
  try simp (maxSteps := 2000000) only [zz1, zz2, zz3, Act.put, zz4, zz5, zz6]
  refine wpAnyH_take (i := 5) (v := ?_) rfl (by kernel_rfl) (by kernel_rfl) (by kernel_rfl) (fun _ _ _ h => h) (Or.inl ⟨by first | kernel_rfl | rfl, ?_⟩) (by assumption) ?_
  rotate_left
  · (intro wq hSw; (try dsimp only at hSw); (try simp (maxSteps := 2000000) only [zz1, zz2, zz3]); go_simp); try with_reducible rfl
  try simp (maxSteps := 2000000) only [zz1, zz2, zz3, Act.put, zz4, zz5, zz6]
  refine wpAnyH_take (i := 6) (v := ?_) rfl (by kernel_rfl) (by kernel_rfl) (by kernel_rfl) (fun _ _ _ h => h) (Or.inl ⟨by first | kernel_rfl | rfl, ?_⟩) (by assumption) ?_
  rotate_left
  · (intro wq hSw; (try dsimp only at hSw); (try simp (maxSteps := 2000000) only [zz1, zz2, zz3]); go_simp); try with_reducible rfl
  try simp (maxSteps := 2000000) only [zz1, zz2, zz3, Act.put, zz4, zz5, zz6]
  refine wpAnyH_take (i := 7) (v := ?_) rfl (by kernel_rfl) (by kernel_rfl) (by kernel_rfl) (fun _ _ _ h => h) (Or.inl ⟨by first | kernel_rfl | rfl, ?_⟩) (by assumption) ?_
  rotate_left
  · (intro wq hSw; (try dsimp only at hSw); (try simp (maxSteps := 2000000) only [zz1, zz2, zz3]); go_simp); try with_reducible rfl
  try simp (maxSteps := 2000000) only [zz1, zz2, zz3, Act.put, zz4, zz5, zz6]
  refine wpAnyH_take (i := 8) (v := ?_) rfl (by kernel_rfl) (by kernel_rfl) (by kernel_rfl) (fun _ _ _ h => h) (Or.inl ⟨by first | kernel_rfl | rfl, ?_⟩) (by assumption) ?_
  rotate_left
  · (intro wq hSw; (try dsimp only at hSw); (try simp (maxSteps := 2000000) only [zz1, zz2, zz3]); go_simp); try with_reducible rfl
  try simp (maxSteps := 2000000) only [zz1, zz2, zz3, Act.put, zz4, zz5, zz6]
  refine wpAnyH_take (i := 9) (v := ?_) rfl (by kernel_rfl) (by kernel_rfl) (by kernel_rfl) (fun _ _ _ h => h) (Or.inl ⟨by first | kernel_rfl | rfl, ?_⟩) (by assumption) ?_
  rotate_left
  · (intro wq hSw; (try dsimp only at hSw); (try simp (maxSteps := 2000000) only [zz1, zz2, zz3]); go_simp); try with_reducible rfl
  try simp (maxSteps := 2000000) only [zz1, zz2, zz3, Act.put, zz4, zz5, zz6]
  refine wpAnyH_take (i := 10) (v := ?_) rfl (by kernel_rfl) (by kernel_rfl) (by kernel_rfl) (fun _ _ _ h => h) (Or.inl ⟨by first | kernel_rfl | rfl, ?_⟩) (by assumption) ?_
  rotate_left
  · (intro wq hSw; (try dsimp only at hSw); (try simp (maxSteps := 2000000) only [zz1, zz2, zz3]); go_simp); try with_reducible rfl
  try simp (maxSteps := 2000000) only [zz1, zz2, zz3, Act.put, zz4, zz5, zz6]
  refine wpAnyH_take (i := 11) (v := ?_) rfl (by kernel_rfl) (by kernel_rfl) (by kernel_rfl) (fun _ _ _ h => h) (Or.inl ⟨by first | kernel_rfl | rfl, ?_⟩) (by assumption) ?_
  rotate_left
  · (intro wq hSw; (try dsimp only at hSw); (try simp (maxSteps := 2000000) only [zz1, zz2, zz3]); go_simp); try with_reducible rfl
  try simp (maxSteps := 2000000) only [zz1, zz2, zz3, Act.put, zz4, zz5, zz6]
  refine wpAnyH_take (i := 12) (v := ?_) rfl (by kernel_rfl) (by kernel_rfl) (by kernel_rfl) (fun _ _ _ h => h) (Or.inl ⟨by first | kernel_rfl | rfl, ?_⟩) (by assumption) ?_
  rotate_left
  · (intro wq hSw; (try dsimp only at hSw); (try simp (maxSteps := 2000000) only [zz1, zz2, zz3]); go_simp); try with_reducible rfl
  try simp (maxSteps := 2000000) only [zz1, zz2, zz3, Act.put, zz4, zz5, zz6]
  refine wpAnyH_take (i := 13) (v := ?_) rfl (by kernel_rfl) (by kernel_rfl) (by kernel_rfl) (fun _ _ _ h => h) (Or.inl ⟨by first | kernel_rfl | rfl, ?_⟩) (by assumption) ?_
  rotate_left
  · (intro wq hSw; (try dsimp only at hSw); (try simp (maxSteps := 2000000) only [zz1, zz2, zz3]); go_simp); try with_reducible rfl
  try simp (maxSteps := 2000000) only [zz1, zz2, zz3, Act.put, zz4, zz5, zz6]
  refine wpAnyH_ready (rs := [14]) (by kernel_rfl) (by simp) ?_
  refine AllReadyH.cons rfl (fun K hK => ?_) AllReadyH.nil
  try simp (maxSteps := 2000000) only [zz1, zz2, zz3]
  go_simp
  go_at_call 46
  refine hcn.mono ?_
  clear hcn
  rintro e w2 ⟨rfl, hb⟩
  have hb2 : Below w1.heap.size w1 w2 := hd.trans (hb.mono hd.size)
  clear hb
  try (go_wp2_with fail)
  refine hK.out _ _ (by first | exact HSF.out _ hd | exact HSF.out _ hb2) (fun hHeld => ?_)
  clear hK K
  try simp (maxSteps := 2000000) only [zz1, zz2, zz3, Act.put, zz4, zz5, zz6]
  refine wpAnyH_take (i := 15) (v := ?_) rfl (by kernel_rfl) (by kernel_rfl) (by kernel_rfl) (fun _ _ _ h => h) (Or.inl ⟨by first | kernel_rfl | rfl, ?_⟩) (by assumption) ?_
  rotate_left
  · (intro wq hSw; (try dsimp only at hSw); (try simp (maxSteps := 2000000) only [zz1, zz2, zz3]); go_simp); try with_reducible rfl
  try simp (maxSteps := 2000000) only [zz1, zz2, zz3, Act.put, zz4, zz5, zz6]
  refine wpAnyH_take (i := 16) (v := ?_) rfl (by kernel_rfl) (by kernel_rfl) (by kernel_rfl) (fun _ _ _ h => h) (Or.inl ⟨by first | kernel_rfl | rfl, ?_⟩) (by assumption) ?_
  rotate_left
  · (intro wq hSw; (try dsimp only at hSw); (try simp (maxSteps := 2000000) only [zz1, zz2, zz3]); go_simp); try with_reducible rfl
  try simp (maxSteps := 2000000) only [zz1, zz2, zz3, Act.put, zz4, zz5, zz6]
  refine wpAnyH_take (i := 17) (v := ?_) rfl (by kernel_rfl) (by kernel_rfl) (by kernel_rfl) (fun _ _ _ h => h) (Or.inl ⟨by first | kernel_rfl | rfl, ?_⟩) (by assumption) ?_
  rotate_left
  · (intro wq hSw; (try dsimp only at hSw); (try simp (maxSteps := 2000000) only [zz1, zz2, zz3]); go_simp); try with_reducible rfl
  try simp (maxSteps := 2000000) only [zz1, zz2, zz3, Act.put, zz4, zz5, zz6]
  refine wpAnyH_done (by kernel_rfl) ?_ _
  clear hHeld
  have HB2 := Lib.hid (HB0.out.trans (hb2.mono HB0.out.size))
  go_wp2_with fail
  go_ret
  exact ⟨rfl, HB2.out⟩
end
end Go.Proofs.YtcliejdiaohamaaGreat

set_option linter.unusedSimpArgs false
set_option linter.unusedVariables false
namespace Go.Proofs.YtcliejdiaohamaaGreat
open Go.RowKit Go.Cib
attribute [local go_sem] cell_set Later.cell Later.frozen Grw.cell Grw.frozen
section
variable {P X Y : Nat → Prop} {w0 w w' : World} {a cb bf k m n : Nat} {sts : List DSt}
theorem _root_.Go.Cib.OwnL.kp {T : Type} {R : (Nat → Prop) → World → List Value → T → Prop} {E : TypeId} {s base n : Nat} {S S' : Nat → Prop} {v : Value} {xs : List T} (hR : Stable R) (h : OwnL R E s base S w v n xs) (hk : KpX X w w')
    (hv : ∀ g, v.ownBlock = some g → X g) (hS : ∀ b, S b → b < w.heap.size → X b ∧ S' b) : OwnL R E s base S' w' v n xs := by
  obtain ⟨css, h1, h2, h3, h4, h5⟩ := h
  refine ⟨css, ⟨h1.1, ?_⟩, h2, h3, h4, fun i cs x hc hx => ?_⟩
  · rcases h1.2 with h | ⟨g, cap, cur, rfl, g1, g2, g3⟩
    · exact .inl h
    · exact .inr ⟨g, cap, cur, rfl, g1, (hk.1 g (hv g rfl)).trans g2, g3⟩
  · exact hR _ _ _ _ _ _ (h5 i cs x hc hx) fun b hb hl => ⟨⟨(hS b hb.1 hl).2, hb.2⟩, hk.1 b (hS b hb.1 hl).1⟩
end
/-- A value that was put: the first of its places (from the pool's first), and its bytes. -/
def KbR (k f : Nat) (S : Nat → Prop) (w : World) (cs : List Value) (x : Nat × List Nat) : Prop := ∃ A c, cs = [.slice A (cntN k x.2.length) c, .int .u64 (x.1 : Int), .int .i64 (x.2.length : Int)] ∧ cntN k x.2.length ≤ c ∧ RdL IntR 1 S w A (cntN k x.2.length) (plL (f + x.1) (cntN k x.2.length))
theorem KbR.stable {k f : Nat} : Stable (KbR k f) := fun _ _ _ _ _ _ ⟨A, c, h1, h2, h3⟩ hk => ⟨A, c, h1, h2, h3.stable IntR.stable hk⟩
theorem KbR.one {k f : Nat} : ∀ S w cs x, KbR k f S w cs x → ∀ u ∈ cs, u.oneCell' = true := by
  rintro S w cs x ⟨A, c, rfl, _, _⟩ u hu
  simp at hu
  rcases hu with rfl | rfl | rfl <;> rfl
structure Bks (k f B b : Nat) (X : Nat → Prop) (w : World) (va vh : Value) (na nh : Nat) (ka : List (Nat × List Nat)) (kh : List (List Nat)) : Prop where
  oa : OwnL (KbR k f) 61 3 b (fun j => X j ∧ some j ≠ vh.ownBlock) w va na ka
  oh : OwnL RowR 80 1 b (fun j => j < B) w vh nh kh
  ne : va.ownBlock = none ∨ va.ownBlock ≠ vh.ownBlock
  xa : ∀ g, va.ownBlock = some g → X g
  xh : ∀ g, vh.ownBlock = some g → X g
  xb : ∀ j, j < B → X j
  bb : B ≤ b
section
variable {k f B b na nh : Nat} {X Y : Nat → Prop} {w w' : World} {va vh : Value} {ka : List (Nat × List Nat)} {kh : List (List Nat)}
theorem Bks.nil (hB : B ≤ b) : Bks k f B b (fun j => j < B) w (.slice none 0 0) (.slice none 0 0) 0 0 [] [] where
  oa := OwnL.nil_
  oh := OwnL.nil_
  ne := .inl rfl
  xa g hg := by cases hg
  xh g hg := by cases hg
  xb j hj := hj
  bb := hB
theorem Bks.kp (h : Bks k f B b X w va vh na nh ka kh) (hK : KpX X w w') (hY : ∀ j, X j → Y j) : Bks k f B b Y w' va vh na nh ka kh where
  oa := h.oa.kp KbR.stable hK h.xa fun j hj _ => ⟨hj.1, hY j hj.1, hj.2⟩
  oh := h.oh.kp RowR.stable hK h.xh fun j hj _ => ⟨h.xb j hj, hj⟩
  ne := h.ne
  xa g hg := hY g (h.xa g hg)
  xh g hg := hY g (h.xh g hg)
  xb j hj := hY j (h.xb j hj)
  bb := h.bb
end
end Go.Proofs.YtcliejdiaohamaaGreat

set_option linter.unusedSimpArgs false
set_option linter.unusedVariables false
namespace Go.Proofs.YtcliejdiaohamaaGreat
open Go.RowKit Go.Cib
attribute [local go_sem] cell_set Later.cell Later.frozen Grw.cell Grw.frozen
attribute [local go_sem ↓] run_min_b
/-- Two slices that grow, of bytes and of ints, and a box. -/
structure Trio (b : Nat) (w : World) (vo vl : Value) (no nl : Nat) (ob : List Nat) (ll : List Int) (qr : Nat) (cs : Array Value) : Prop where
  oo : OwnL ByR 5 1 b (fun _ => True) w vo no ob
  ol : OwnL IntR 3 1 b (fun _ => True) w vl nl ll
  ne : ∀ g, vo.ownBlock = some g → vl.ownBlock ≠ some g
  n1 : vo.ownBlock ≠ some qr
  n2 : vl.ownBlock ≠ some qr
  bx : BoxAt w qr cs
section
variable {b no nl qr : Nat} {w w' : World} {vo vl vo' vl' : Value} {ob : List Nat} {ll : List Int} {cs : Array Value}
theorem Trio.below (h : Trio b w vo vl no nl ob ll qr cs) (hb : Below w.heap.size w w') : Trio b w' vo vl no nl ob ll qr cs :=
  ⟨h.oo.keep ByR.stable hb, h.ol.keep IntR.stable hb, h.ne, h.n1, h.n2, h.bx.below hb⟩
theorem Trio.pushL {nl' : Nat} {ll' : List Int} (h : Trio b w vo vl no nl ob ll qr cs) (u : Grw vl.ownBlock w) (h1 : OwnL IntR 3 1 b (fun _ => True) u.to vl' nl' ll') (hat : vl'.ownBlock = vl.ownBlock ∨ vl'.ownBlock = some (w.heap.size + 1)) : Trio b u.to vo vl' no nl' ob ll' qr cs := by
  have hlo := h.oo.lt
  have hlq := h.bx.lt
  have hK : KpX (fun j => j < w.heap.size ∧ some j ≠ vl.ownBlock) w u.to := ⟨fun j hj => u.ok.block j hj.1 hj.2, u.ok.size⟩
  refine ⟨?_, h1, fun g hg => ?_, h.n1, ?_, h.bx.keep (u.ok.block qr hlq (fun e => h.n2 e.symm))⟩
  · obtain ⟨css, k1, k2, k3, k4, k5⟩ := h.oo
    refine ⟨css, ⟨k1.1, ?_⟩, k2, k3, k4, fun i c x hc hx => k5 i c x hc hx⟩
    rcases k1.2 with h2 | ⟨g, cap, cur, rfl, g1, g2, g3⟩
    · exact .inl h2
    · exact .inr ⟨g, cap, cur, rfl, g1, (u.ok.block g (hlo g rfl).2 (fun e => h.ne g rfl e.symm)).trans g2, g3⟩
  · rcases hat with e | e
    · rw [e]; exact h.ne g hg
    · rw [e]; intro e2
      have := (hlo g hg).2
      have := Option.some.inj e2
      omega
  · rcases hat with e | e
    · rw [e]; exact h.n2
    · rw [e]; intro e2
      have := Option.some.inj e2
      omega
theorem Trio.pushO {no' : Nat} {ob' : List Nat} (h : Trio b w vo vl no nl ob ll qr cs) (hg : w.grownBy w' vo.ownBlock) (h1 : OwnL ByR 5 1 b (fun _ => True) w' vo' no' ob') (hat : vo'.ownBlock = vo.ownBlock ∨ vo'.ownBlock = some w.heap.size) : Trio b w' vo' vl no' nl ob' ll qr cs := by
  have hll := h.ol.lt
  have hlq := h.bx.lt
  refine ⟨h1, ?_, fun g hg2 => ?_, ?_, h.n2, h.bx.keep (hg.block qr hlq (fun e => h.n1 e.symm))⟩
  · obtain ⟨css, k1, k2, k3, k4, k5⟩ := h.ol
    refine ⟨css, ⟨k1.1, ?_⟩, k2, k3, k4, fun i c x hc hx => k5 i c x hc hx⟩
    rcases k1.2 with h2 | ⟨g, cap, cur, rfl, g1, g2, g3⟩
    · exact .inl h2
    · exact .inr ⟨g, cap, cur, rfl, g1, (hg.block g (hll g rfl).2 (fun e => h.ne g e.symm rfl)).trans g2, g3⟩
  · intro e2
    rcases hat with e | e
    · rw [e] at hg2; exact h.ne g hg2 e2
    · rw [e] at hg2
      have := (hll g e2).2
      have := Option.some.inj hg2
      omega
  · rcases hat with e | e
    · rw [e]; exact h.n1
    · rw [e]; intro e2
      have := Option.some.inj e2
      omega
theorem Trio.setR {x y z : Value} {p g : Int} (h : Trio b w vo vl no nl ob ll qr #[.int .u8 4, .int .i64 p, .int .u64 g]) : Trio b (((w.setCell ⟨qr, 0, none⟩ x).setCell ⟨qr, 1, none⟩ y).setCell ⟨qr, 2, none⟩ z) vo vl no nl ob ll qr #[x, y, z] := by
  have hK : Keep (fun j => j = qr) w (((w.setCell ⟨qr, 0, none⟩ x).setCell ⟨qr, 1, none⟩ y).setCell ⟨qr, 2, none⟩ z) := (((Keep.refl (fun j => j = qr) w).setCell (p := ⟨qr, 0, none⟩) (fun _ => rfl) x).setCell (p := ⟨qr, 1, none⟩) (fun _ => rfl) y).setCell (p := ⟨qr, 2, none⟩) (fun _ => rfl) z
  have hK2 : KpX (fun j => j < w.heap.size ∧ j ≠ qr) w _ := ⟨fun j hj => hK.block j hj.1 hj.2, hK.size⟩
  refine ⟨?_, ?_, h.ne, h.n1, h.n2, ((h.bx.set 0 x).set 1 y).set 2 z⟩
  · obtain ⟨css, k1, k2, k3, k4, k5⟩ := h.oo
    refine ⟨css, ⟨k1.1, ?_⟩, k2, k3, k4, fun i c x hc hx => k5 i c x hc hx⟩
    have hlo := h.oo.lt
    have hn := h.n1
    rcases k1.2 with h2 | ⟨g, cap, cur, rfl, g1, g2, g3⟩
    · exact .inl h2
    · exact .inr ⟨g, cap, cur, rfl, g1, (hK.block g (hlo g rfl).2 (fun e => hn (by rw [e]; rfl))).trans g2, g3⟩
  · obtain ⟨css, k1, k2, k3, k4, k5⟩ := h.ol
    refine ⟨css, ⟨k1.1, ?_⟩, k2, k3, k4, fun i c x hc hx => k5 i c x hc hx⟩
    have hlo := h.ol.lt
    have hn := h.n2
    rcases k1.2 with h2 | ⟨g, cap, cur, rfl, g1, g2, g3⟩
    · exact .inl h2
    · exact .inr ⟨g, cap, cur, rfl, g1, (hK.block g (hlo g rfl).2 (fun e => hn (by rw [e]; rfl))).trans g2, g3⟩
end
theorem plL_succ (a i : Nat) : plL a (i + 1) = plL a i ++ [((a + i : Nat) : Int)] := by
  unfold plL
  rw [List.range_succ, List.map_append]; rfl
theorem sl_intA : SlTy Tryz.prog 46 3 (.int .i64 0) 1 8 := ⟨by kernel_rfl, by kernel_rfl, rfl, by decide⟩
def scCs (aa G M i : Nat) : Array Value := #[.int .u8 4, .int .i64 ((if i < M then aa + i else 0 : Nat) : Int), .int .u64 ((if i < M then G + i else 0 : Nat) : Int)]
def ScGE (w : World) (M size k N aa : Nat) (gs : Nat → Nat → Bool) (xs : List Nat) (e : Ending) (w' : World) : Prop := Below w.heap.size w w' ∧
  (((∃ i, i < M ∧ cntP (gs i) N < k) ∧ e = .returned (.tuple #[.slice none 0 0, .slice none 0 0, .int .i64 130])) ∨
   ((∀ i, i < M → k ≤ cntP (gs i) N) ∧ ∃ A c A2 c2, e = .returned (.tuple #[.slice A size c, .slice A2 M c2, .int .i64 0]) ∧ size ≤ c ∧ RdL ByR 1 (fun j => w.heap.size ≤ j) w' A size xs ∧ M ≤ c2 ∧ RdL IntR 1 (fun j => w.heap.size ≤ j) w' A2 M (plL aa M)))
section
variable {w0 w w' : World} {a cb bf k m n aa G size : Nat} {sts : List DSt} {gs : Nat → Nat → Bool} {xs : List Nat}
/-- An exit at the end, and what is so there. -/
def NormP (R : Act → World → Prop) : Exit → Act → World → Prop
  | .normal, a, w => R a w
  | _, _, _ => False
theorem NormP.le {R : Act → World → Prop} {Q : Exit → Act → World → Prop} (h : ∀ a w, R a w → Q .normal a w) : ∀ e a w, NormP R e a w → Q e a w
  | .normal, a, w, hr => h a w hr
  | .panic _, _, _, hr => hr.elim
  | .ret, _, _, hr => hr.elim
  | .outgrown, _, _, hr => hr.elim
  | .exit _, _, _, hr => hr.elim
  | .goto _, _, _, hr => hr.elim
theorem NormP.normal {R : Act → World → Prop} {a : Act} {w : World} (h : R a w) : NormP R .normal a w := h
/-- Behind a region that ends in one act, by two numbers. -/
theorem wp_two {P : Program} {c : Code} {Q : Exit → Act → World → Prop} {a : Act} {w : World} {f : Nat → Nat → Act} {F : World → Nat → Nat → Prop} (h : c.wp P (NormP (fun a' w' => ∃ x y, F w' x y ∧ a' = f x y)) a w) (hk : ∀ x y w', F w' x y → Q .normal (f x y) w') : c.wp P Q a w :=
  Code.wp_mono (NormP.le fun a' w' ⟨x, y, h1, h2⟩ => by rw [h2]; exact hk x y w' h1) h
def ScF (w1 w' : World) (size M qo ql : Nat) : Prop := Below w1.heap.size w1 w' ∧ OwnL ByR 5 1 w1.heap.size (fun _ => True) w' (.slice (some ⟨qo, 0, none⟩) 0 size) 0 [] ∧ OwnL IntR 3 1 w1.heap.size (fun _ => True) w' (.slice (some ⟨ql, 0, none⟩) 0 M) 0 [] ∧ qo ≠ ql
set_option maxRecDepth 100000 in
set_option maxHeartbeats 32000000 in
theorem scg_any (h : SMid w0 w a cb bf k m n sts) (hk20 : k ≤ 20) (hs : size ≤ 2000) (h4 : scN k size ≤ 400) (hp : aa + scN k size ≤ n) (hG : Hid (G + scN k size < 2 ^ 63)) (hx : Byt xs) (hl : xs.length = size) (hv : ∀ i, i < scN k size → Hds (gs i) k (k + m) (scRf aa G i) (scTx k aa G (scN k size) xs i) sts) :
    Calls Tryz.prog 45 #[.pointer (some ⟨a, 0, none⟩), .pointer (some ⟨cb, 0, none⟩), .agg (scC (aa : Int) (G : Int) (scN k size : Int) (size : Int))] w fun e w' => ScGE w (scN k size) size k (k + m) aa gs xs e w' := by
  have hk1 := h.k1
  have hkm := h.km
  have hn2 := h.n2
  have hb0 : Below w.heap.size w (w.alloc (.cells (scC (aa : Int) (G : Int) (scN k size : Int) (size : Int)) 24)) := (Below.refl _ _).alloc (Nat.le_refl _) _
  have bB := BoxAt.new w (scC (aa : Int) (G : Int) (scN k size : Int) (size : Int)) 24
  have hM1 := h.below hb0
  obtain ⟨w1, hw1⟩ : ∃ w1, w.alloc (.cells (scC (aa : Int) (G : Int) (scN k size : Int) (size : Int)) 24) = w1 := ⟨_, rfl⟩
  obtain ⟨q, hq⟩ : ∃ q, w.heap.size = q := ⟨_, rfl⟩
  rw [hw1] at hb0 bB hM1
  rw [hq] at bB
  have han := an_s hM1
  have hcn := fun (w2 : World) (hb : Below w1.heap.size w1 w2) => cn_any (hM1.cod.below hb)
  have hri := fun (w2 : World) (hb : Below w1.heap.size w1 w2) => scright_ok (hM1.cod.below hb) (x1 := (aa : Int)) (x2 := (G : Int)) (ct := scN k size) rfl h4 (size := size) (by omega)
  have HMU := Lib.hid (fun i (hi : i < scN k size) => scN_mul hk1 hi)
  have HALL := Lib.hid (scN_all (size := size) hk1)
  have hMp := scN_pos k size
  have HLE := Lib.hid (scN_le k size)
  obtain ⟨M, hM⟩ : ∃ M, scN k size = M := ⟨_, rfl⟩
  obtain ⟨N, hN⟩ : ∃ N, k + m = N := ⟨_, rfl⟩
  rw [hN] at han hcn
  rw [hM] at hri hw1 bB hG hp h4 hv HMU HALL HLE hMp ⊢
  have e0 : ((N : Int) == 0) = false := by simp; omega
  unfold scC at hri
  have HCN := Lib.hid hcn
  have HRI := Lib.hid hri
  have HB0 := Lib.hid hb0
  have BB := Lib.hid bB
  have HM1 := Lib.hid hM1
  have HV := Lib.hid hv
  have HN := Lib.hid hN
  have c0 : w1.cell? ⟨q, 0, none⟩ = some (.int .i64 (aa : Int)) ∧ w1.cell? ⟨q, 1, none⟩ = some (.int .u64 (G : Int)) ∧ w1.cell? ⟨q, 2, none⟩ = some (.int .i64 (M : Int)) ∧ w1.cell? ⟨q, 3, none⟩ = some (.int .i64 (size : Int)) := ⟨bB.cell 0, bB.cell 1, bB.cell 2, bB.cell 3⟩
  have HQS := Lib.hid (show w.heap.size = q ∧ q < w1.heap.size from ⟨hq, bB.lt⟩)
  clear h hM1 hb0 bB hcn hri hv hM hN
  unfold scC at hw1 ⊢
  go_enter Tryz.func45, Tryz.ntmps45
  go_wp2_with fail
  go_step3
  go_wp2_with fail
  refine han.mono ?_
  clear han hw1 c0 hq
  rintro e w2 ⟨rfl, hb2⟩
  have hcn2 := HCN.out w2 hb2
  have HB2 := Lib.hid hb2
  clear hb2
  go_wp2_with fail
  refine hcn2.mono ?_
  clear hcn2
  rintro e w3 ⟨rfl, hb3⟩
  have HB3 := Lib.hid (HB2.out.trans (hb3.mono HB2.out.size))
  have hri3 := HRI.out w3 HB3.out
  have bB3 := BB.out.below HB3.out
  have c3 : w3.cell? ⟨q, 0, none⟩ = some (.int .i64 (aa : Int)) ∧ w3.cell? ⟨q, 1, none⟩ = some (.int .u64 (G : Int)) ∧ w3.cell? ⟨q, 2, none⟩ = some (.int .i64 (M : Int)) ∧ w3.cell? ⟨q, 3, none⟩ = some (.int .i64 (size : Int)) := ⟨bB3.cell 0, bB3.cell 1, bB3.cell 2, bB3.cell 3⟩
  clear hb3 HB2 bB3
  go_wp2_with fail
  refine hri3.mono ?_
  clear hri3 c3
  rintro e w4 ⟨rfl, hb4⟩
  have HB4 := Lib.hid (HB3.out.trans (hb4.mono HB3.out.size))
  have bB4 := BB.out.below HB4.out
  have HQ4 := Lib.hid bB4.lt
  have BB4 := Lib.hid bB4
  have hd : Below w4.heap.size w4 w4.drew := (Below.refl _ _).drew
  have HSF : Hid (∀ w', Below w4.heap.size w4 w' → w'.cell? ⟨q, 2, none⟩ = some (.int .i64 (M : Int)) ∧ w'.cell? ⟨q, 3, none⟩ = some (.int .i64 (size : Int))) := Lib.hid fun w' hb => ⟨(BB4.out.below hb).cell 2, (BB4.out.below hb).cell 3⟩
  have hmk1 := fun w => make0 size (by omega) w
  have hmk2 := fun w => makeInts0 M (by omega) w
  have hx1 : Below w4.heap.size w4 (w4.drew.alloc (.cells (Array.replicate size (.int .u8 0)) 5)) := hd.alloc (Nat.le_refl _) _
  have hx2 : Below w4.heap.size w4 ((w4.drew.alloc (.cells (Array.replicate size (.int .u8 0)) 5)).alloc (.cells (Array.replicate M (.int .i64 0)) 3)) := hx1.alloc (by simp only [World.size_alloc]; exact Nat.le_succ _) _
  have hy1 : Below w4.heap.size w4 (w4.drew.alloc (.cells (Array.replicate M (.int .i64 0)) 3)) := hd.alloc (Nat.le_refl _) _
  have hy2 : Below w4.heap.size w4 ((w4.drew.alloc (.cells (Array.replicate M (.int .i64 0)) 3)).alloc (.cells (Array.replicate size (.int .u8 0)) 5)) := hy1.alloc (by simp only [World.size_alloc]; exact Nat.le_succ _) _
  clear hb4 HB3 bB4
  go_wp2_with fail
  have HS4 := Lib.hid HB4.out.size
  apply wp_two (F := fun w' qo ql => ScF w1 w' size M qo ql)
  · skip
    refine wp_region_held_drew (S := fun w' => w'.cell? ⟨q, 2, none⟩ = some (.int .i64 (M : Int)) ∧ w'.cell? ⟨q, 3, none⟩ = some (.int .i64 (size : Int))) (by kernel_rfl) (by first | exact HSF.out _ hd | exact HSF.out _ hx1 | exact HSF.out _ hx2 | exact HSF.out _ hy1 | exact HSF.out _ hy2) (fun hHeld => ?_)
    refine wpAnyH_take (i := 0) (v := ?_) rfl (by kernel_rfl) (by kernel_rfl) (by kernel_rfl) (fun _ _ _ h => h) (Or.inl ⟨by first | kernel_rfl | rfl, ?_⟩) (by assumption) ?_
    rotate_left
    · (intro wq hSw; (try dsimp only at hSw); (try simp (maxSteps := 2000000) only [zz1, zz2, zz3]); go_simp); try with_reducible rfl
    try simp (maxSteps := 2000000) only [zz1, zz2, zz3, Act.put, zz4, zz5, zz6]
    refine wpAnyH_take (i := 1) (v := ?_) rfl (by kernel_rfl) (by kernel_rfl) (by kernel_rfl) (fun _ _ _ h => h) (Or.inl ⟨by first | kernel_rfl | rfl, ?_⟩) (by assumption) ?_
    rotate_left
    · (intro wq hSw; (try dsimp only at hSw); (try simp (maxSteps := 2000000) only [zz1, zz2, zz3]); go_simp); try with_reducible rfl
    try simp (maxSteps := 2000000) only [zz1, zz2, zz3, Act.put, zz4, zz5, zz6]
    refine wpAnyH_take (i := 3) (v := ?_) rfl (by kernel_rfl) (by kernel_rfl) (by kernel_rfl) (fun _ _ _ h => h) (Or.inl ⟨by first | kernel_rfl | rfl, ?_⟩) (by assumption) ?_
    rotate_left
    · (intro wq hSw; (try dsimp only at hSw); (try simp (maxSteps := 2000000) only [zz1, zz2, zz3]); go_simp); try with_reducible rfl
    try simp (maxSteps := 2000000) only [zz1, zz2, zz3, Act.put, zz4, zz5, zz6]
    refine wpAnyH_take (i := 4) (v := ?_) rfl (by kernel_rfl) (by kernel_rfl) (by kernel_rfl) (fun _ _ _ h => h) (Or.inl ⟨by first | kernel_rfl | rfl, ?_⟩) (by assumption) ?_
    rotate_left
    · (intro wq hSw; (try dsimp only at hSw); (try simp (maxSteps := 2000000) only [zz1, zz2, zz3]); go_simp); try with_reducible rfl
    try simp (maxSteps := 2000000) only [zz1, zz2, zz3, Act.put, zz4, zz5, zz6]
    refine wpAnyH_ready (rs := [2, 5]) (by kernel_rfl) (by simp) ?_
    refine AllReadyH.cons rfl (fun K hK => ?_) (AllReadyH.cons rfl (fun K hK => ?_) AllReadyH.nil)
    · try simp (maxSteps := 2000000) only [zz1, zz2, zz3]
      go_simp
      refine hK.out _ _ (by first | exact HSF.out _ hd | exact HSF.out _ hx1 | exact HSF.out _ hx2 | exact HSF.out _ hy1 | exact HSF.out _ hy2) (fun hHeld => ?_)
      clear hK K
      try simp (maxSteps := 2000000) only [zz1, zz2, zz3, Act.put, zz4, zz5, zz6]
      refine wpAnyH_take (i := 6) (v := ?_) rfl (by kernel_rfl) (by kernel_rfl) (by kernel_rfl) (fun _ _ _ h => h) (Or.inl ⟨by first | kernel_rfl | rfl, ?_⟩) (by assumption) ?_
      rotate_left
      · (intro wq hSw; (try dsimp only at hSw); (try simp (maxSteps := 2000000) only [zz1, zz2, zz3]); go_simp); try with_reducible rfl
      try simp (maxSteps := 2000000) only [zz1, zz2, zz3, Act.put, zz4, zz5, zz6]
      refine wpAnyH_ready (rs := [5]) (by kernel_rfl) (by simp) ?_
      refine AllReadyH.cons rfl (fun K hK => ?_) AllReadyH.nil
      try simp (maxSteps := 2000000) only [zz1, zz2, zz3]
      go_simp
      refine hK.out _ _ (by first | exact HSF.out _ hd | exact HSF.out _ hx1 | exact HSF.out _ hx2 | exact HSF.out _ hy1 | exact HSF.out _ hy2) (fun hHeld => ?_)
      clear hK K
      try simp (maxSteps := 2000000) only [zz1, zz2, zz3, Act.put, zz4, zz5, zz6]
      refine wpAnyH_take (i := 7) (v := ?_) rfl (by kernel_rfl) (by kernel_rfl) (by kernel_rfl) (fun _ _ _ h => h) (Or.inl ⟨by first | kernel_rfl | rfl, ?_⟩) (by assumption) ?_
      rotate_left
      · (intro wq hSw; (try dsimp only at hSw); (try simp (maxSteps := 2000000) only [zz1, zz2, zz3]); go_simp); try with_reducible rfl
      try simp (maxSteps := 2000000) only [zz1, zz2, zz3, Act.put, zz4, zz5, zz6]
      refine wpAnyH_done (by kernel_rfl) ?_ _
      clear hHeld
      refine NormP.normal ?_
      obtain ⟨qo, hqo⟩ : ∃ qo, w4.heap.size = qo := ⟨_, rfl⟩
      obtain ⟨ql, hql⟩ : ∃ ql, qo + 1 = ql := ⟨_, rfl⟩
      rw [hqo, hql]
      have h1 := ((OwnL.made (R := ByR) (E := 5) (s := 1) (base := w1.heap.size) (S := fun _ => True) (Array.replicate size (.int .u8 0)) size HS4.out (by unfold maxLen; omega) (by simp)).alloc ByR.stable (.cells (Array.replicate M (.int .i64 0)) 3)).keep ByR.stable (Below.refl _ _).drew
      have h2 := (OwnL.made (w := w4.alloc (.cells (Array.replicate size (.int .u8 0)) 5)) (R := IntR) (E := 3) (s := 1) (base := w1.heap.size) (S := fun _ => True) (Array.replicate M (.int .i64 0)) M (by rw [World.size_alloc]; exact Nat.le_succ_of_le HS4.out) (by unfold maxLen; omega) (by simp)).keep IntR.stable (Below.refl _ _).drew
      simp only [World.size_alloc, hqo, hql] at h1 h2
      exact ⟨qo, ql, ⟨((HB4.out.alloc HS4.out (.cells (Array.replicate size (.int .u8 0)) 5)).alloc (by rw [World.size_alloc]; exact Nat.le_succ_of_le HS4.out) (.cells (Array.replicate M (.int .i64 0)) 3)).drew, h1, h2, by omega⟩, rfl⟩
    · try simp (maxSteps := 2000000) only [zz1, zz2, zz3]
      go_simp
      refine hK.out _ _ (by first | exact HSF.out _ hd | exact HSF.out _ hx1 | exact HSF.out _ hx2 | exact HSF.out _ hy1 | exact HSF.out _ hy2) (fun hHeld => ?_)
      clear hK K
      try simp (maxSteps := 2000000) only [zz1, zz2, zz3, Act.put, zz4, zz5, zz6]
      refine wpAnyH_ready (rs := [2]) (by kernel_rfl) (by simp) ?_
      refine AllReadyH.cons rfl (fun K hK => ?_) AllReadyH.nil
      try simp (maxSteps := 2000000) only [zz1, zz2, zz3]
      go_simp
      refine hK.out _ _ (by first | exact HSF.out _ hd | exact HSF.out _ hx1 | exact HSF.out _ hx2 | exact HSF.out _ hy1 | exact HSF.out _ hy2) (fun hHeld => ?_)
      clear hK K
      try simp (maxSteps := 2000000) only [zz1, zz2, zz3, Act.put, zz4, zz5, zz6]
      refine wpAnyH_take (i := 6) (v := ?_) rfl (by kernel_rfl) (by kernel_rfl) (by kernel_rfl) (fun _ _ _ h => h) (Or.inl ⟨by first | kernel_rfl | rfl, ?_⟩) (by assumption) ?_
      rotate_left
      · (intro wq hSw; (try dsimp only at hSw); (try simp (maxSteps := 2000000) only [zz1, zz2, zz3]); go_simp); try with_reducible rfl
      try simp (maxSteps := 2000000) only [zz1, zz2, zz3, Act.put, zz4, zz5, zz6]
      refine wpAnyH_take (i := 7) (v := ?_) rfl (by kernel_rfl) (by kernel_rfl) (by kernel_rfl) (fun _ _ _ h => h) (Or.inl ⟨by first | kernel_rfl | rfl, ?_⟩) (by assumption) ?_
      rotate_left
      · (intro wq hSw; (try dsimp only at hSw); (try simp (maxSteps := 2000000) only [zz1, zz2, zz3]); go_simp); try with_reducible rfl
      try simp (maxSteps := 2000000) only [zz1, zz2, zz3, Act.put, zz4, zz5, zz6]
      refine wpAnyH_done (by kernel_rfl) ?_ _
      clear hHeld
      refine NormP.normal ?_
      obtain ⟨ql, hql⟩ : ∃ ql, w4.heap.size = ql := ⟨_, rfl⟩
      obtain ⟨qo, hqo⟩ : ∃ qo, ql + 1 = qo := ⟨_, rfl⟩
      rw [hql, hqo]
      have h1 := (OwnL.made (w := w4.alloc (.cells (Array.replicate M (.int .i64 0)) 3)) (R := ByR) (E := 5) (s := 1) (base := w1.heap.size) (S := fun _ => True) (Array.replicate size (.int .u8 0)) size (by rw [World.size_alloc]; exact Nat.le_succ_of_le HS4.out) (by unfold maxLen; omega) (by simp)).keep ByR.stable (Below.refl _ _).drew
      have h2 := ((OwnL.made (R := IntR) (E := 3) (s := 1) (base := w1.heap.size) (S := fun _ => True) (Array.replicate M (.int .i64 0)) M HS4.out (by unfold maxLen; omega) (by simp)).alloc IntR.stable (.cells (Array.replicate size (.int .u8 0)) 5)).keep IntR.stable (Below.refl _ _).drew
      simp only [World.size_alloc, hql, hqo] at h1 h2
      exact ⟨qo, ql, ⟨((HB4.out.alloc HS4.out (.cells (Array.replicate M (.int .i64 0)) 3)).alloc (by rw [World.size_alloc]; exact Nat.le_succ_of_le HS4.out) (.cells (Array.replicate size (.int .u8 0)) 5)).drew, h1, h2, by omega⟩, rfl⟩
  intro qo ql w5 hF5
  have HF5 := Lib.hid hF5
  have bB5 := BB.out.below HF5.out.1
  have c5 : w5.cell? ⟨q, 0, none⟩ = some (.int .i64 (aa : Int)) ∧ w5.cell? ⟨q, 1, none⟩ = some (.int .u64 (G : Int)) := ⟨bB5.cell 0, bB5.cell 1⟩
  have bX := BoxAt.new w5 #[.int .u8 4, .int .i64 (aa : Int), .int .u64 (G : Int)] 41
  have hb6 : Below w5.heap.size w5 (w5.alloc (.cells #[.int .u8 4, .int .i64 (aa : Int), .int .u64 (G : Int)] 41)) := (Below.refl _ _).alloc (Nat.le_refl _) _
  obtain ⟨w6, hw6⟩ : ∃ w6, w5.alloc (.cells #[.int .u8 4, .int .i64 (aa : Int), .int .u64 (G : Int)] 41) = w6 := ⟨_, rfl⟩
  obtain ⟨qr, hqr⟩ : ∃ qr, w5.heap.size = qr := ⟨_, rfl⟩
  rw [hw6] at bX hb6
  rw [hqr] at bX
  have htr : Trio w1.heap.size w6 (.slice (some ⟨qo, 0, none⟩) 0 size) (.slice (some ⟨ql, 0, none⟩) 0 M) 0 0 [] [] qr (scCs aa G M 0) := by
    refine ⟨HF5.out.2.1.keep ByR.stable hb6, HF5.out.2.2.1.keep IntR.stable hb6, fun g hg e => HF5.out.2.2.2 ?_, fun e => ?_, fun e => ?_, ?_⟩
    · have h1 : qo = g := Option.some.inj hg
      have h2 : ql = g := Option.some.inj e
      omega
    · have h1 : qo = qr := Option.some.inj e
      have h2 := (HF5.out.2.1.lt qo rfl).2
      omega
    · have h1 : ql = qr := Option.some.inj e
      have h2 := (HF5.out.2.2.1.lt ql rfl).2
      omega
    · unfold scCs
      rw [if_pos (by omega), if_pos (by omega)]
      exact bX
  have HT6 := Lib.hid htr
  have HB6 := Lib.hid (HF5.out.1.trans (hb6.mono HF5.out.1.size))
  have HQR := Lib.hid (show w1.heap.size ≤ qr by have := HF5.out.1.size; omega)
  clear hF5 HF5 htr hb6 bX bB5 hd hx1 hx2 hy1 hy2 HSF hmk1 hmk2 HB4 BB4 HQ4 HS4
  go_wp2_with fail
  clear hw6 hqr c5
  go_step3
  go_wp2_with fail
  go_loopw [9, 10, 12] (fun vo vl ve wr => ∃ (i no co cl : Nat) (Ao Al : Option Addr), i ≤ M ∧ no = min (i * (k * 44 - 10)) size ∧ ve = .int .i64 0 ∧ vo = .slice Ao no co ∧ vl = .slice Al i cl ∧ no ≤ co ∧ i ≤ cl ∧ Hid (Trio w1.heap.size wr (.slice Ao no co) (.slice Al i cl) no i (xs.take (i * (k * 44 - 10))) (plL aa i) qr (scCs aa G M i)) ∧ Hid (Below w1.heap.size w1 wr) ∧ Hid (∀ j, j < i → k ≤ cntP (gs j) N)) (fun _ vl _ _ => M - (match vl with | .slice _ n _ => n | _ => 0))
  case atStart =>
    refine ⟨0, 0, size, M, _, _, Nat.zero_le _, by rw [Nat.zero_mul]; omega, rfl, rfl, rfl, Nat.zero_le _, Nat.zero_le _, ?_, HB6, Lib.hid (fun j hj => absurd hj (by omega))⟩
    rw [Nat.zero_mul, List.take_zero]
    exact HT6
  case round =>
    clear HT6 HB6
    obtain ⟨i, no, co, cl, Ao, Al, hi, hno, rfl, rfl, rfl, hco, hcl, HT, HB, HG⟩ := hrel
    have p0 : (0 : Int) ≤ (i : Int) := Int.natCast_nonneg _
    have bBr := BB.out.below HB.out
    have v2 : wr.cell? ⟨q, 2, none⟩ = some (.int .i64 (M : Int)) := bBr.cell 2
    have v3 : wr.cell? ⟨q, 3, none⟩ = some (.int .i64 (size : Int)) := bBr.cell 3
    have HBW := Lib.hid (HB0.out.trans (HB.out.mono HB0.out.size))
    have bR := HT.out.bx
    unfold scCs at bR
    obtain ⟨rm, hrm⟩ : ∃ rm, k * 44 - 10 = rm := ⟨_, rfl⟩
    rw [hrm] at hno HT
    by_cases hlt : i < M
    · have p1 : (i : Int) < (M : Int) := by omega
      have hmu := HMU.out i hlt
      rw [hrm] at hmu
      obtain rfl : no = i * rm := by omega
      rw [if_pos hlt, if_pos hlt] at bR
      obtain ⟨pa, hpa⟩ : ∃ pa, aa + i = pa := ⟨_, rfl⟩
      obtain ⟨pg, hpg⟩ : ∃ pg, G + i = pg := ⟨_, rfl⟩
      rw [hpa, hpg] at bR
      have hrd := scread_any (HM1.out.below HB.out) (r := scRf aa G i) (scRf_ok (by omega)) (Lib.hid (by show G + i < 2 ^ 64; have := hG.out; omega)) (scTx_byt hx i) (scTx_len hk1 aa G M xs i) (HV.out i hlt) ((i : Int) == 0)
      rw [show refC (scRf aa G i) = #[.int .u8 4, .int .i64 (pa : Int), .int .u64 (pg : Int)] by unfold refC scRf; rw [hpa, hpg]; rfl, HN.out] at hrd
      have hst : scTx k aa G M xs i = lnk (if i + 1 < M then aa + (i + 1) else 0) (if i + 1 < M then G + (i + 1) else 0) (scPc k xs i) := rfl
      have htl : (scTx k aa G M xs i).length = 10 + min rm (size - i * rm) := by rw [hst, lnk_len, scPc_len, hrm, hl]
      obtain ⟨tx, htx⟩ : ∃ tx, scTx k aa G M xs i = tx := ⟨_, rfl⟩
      obtain ⟨pl, hpl⟩ : ∃ pl, min rm (size - i * rm) = pl := ⟨_, rfl⟩
      rw [htx] at hrd hst htl
      rw [hpl] at htl
      obtain ⟨tl, htle⟩ : ∃ tl, tx.length = tl := ⟨_, rfl⟩
      rw [htle] at hrd htl
      have k0 := bR.cell 0
      have k1 := bR.cell 1
      have k2 := bR.cell 2
      have HRD := Lib.hid hrd
      have HST := Lib.hid hst
      have HPA := Lib.hid hpa
      have HRM := Lib.hid hrm
      have hrmb : 34 ≤ rm ∧ rm ≤ 870 := by omega
      have HPL := Lib.hid hpl
      clear hrd hst htx hpg bR bBr hrm hpa
      go_wp2_with fail
      refine HRD.out.mono ?_
      clear HRD k0 k1 k2 v2 v3
      rintro e w7 ⟨hb7, ⟨hlo, rfl⟩ | ⟨hle, A7, c7, rfl, hc7, hr7⟩⟩
      · have HB7 := Lib.hid (HBW.out.trans (hb7.mono HBW.out.size))
        have HLO := Lib.hid (show ∃ i, i < M ∧ cntP (gs i) (k + m) < k from ⟨i, hlt, by rw [HN.out]; exact hlo⟩)
        clear hb7 hlo htl hpl htle hrmb hmu hno hlt hi
        go_wp2_with fail
        rw [Exit.noGoto_ret]
        go_ret3
        exact ⟨HB7.out, .inl ⟨HLO.out, rfl⟩⟩
      · have HT7 := Lib.hid (HT.out.below hb7)
        have HWR7 := Lib.hid hb7.size
        have HBr := Lib.hid (HB.out.trans (hb7.mono HB.out.size))
        have HR7 := Lib.hid (RdL.bound1 ByR.stable hr7)
        have HLS := Lib.hid (show ∀ g, (Value.ownBlock (.slice Ao (i * rm) co) = some g ∨ Value.ownBlock (.slice Al i cl) = some g) → g < wr.heap.size by
          rintro g (hg | hg)
          · exact (HT.out.oo.lt g hg).2
          · exact (HT.out.ol.lt g hg).2)
        have hd7 : Below w7.heap.size w7 w7.drew := (Below.refl _ _).drew
        have HSF : Hid (∀ w', Below w7.heap.size w7 w' → w'.cell? ⟨q, 3, none⟩ = some (.int .i64 (size : Int))) := Lib.hid fun w' hb => (BB.out.below (HBr.out.trans (hb.mono HBr.out.size))).cell 3
        have hcod := (HM1.out.below HBr.out).cod.below hd7
        have hrm7 := sroom_any hcod
        rw [HRM.out] at hrm7
        obtain ⟨sr, hsr⟩ : ∃ sr, size - i * rm = sr := ⟨_, rfl⟩
        rw [hsr] at hpl
        have hpl2 := Lib.hid (show min rm (size - i * rm) = pl by rw [hsr]; exact hpl)
        obtain ⟨ir, hir⟩ : ∃ ir, i * rm = ir := ⟨_, rfl⟩
        rw [hir] at hmu hsr
        have f1 : IntKind.i64.wrap ((size : Int) - (ir : Int)) = (sr : Int) := by rw [IntKind.wrap_i64]; omega
        have f2 : min (rm : Int) (sr : Int) = (pl : Int) := by omega
        have f3 : IntKind.i64.wrap (10 + (pl : Int)) = 10 + (pl : Int) := by rw [IntKind.wrap_i64]; omega
        have hpl3 : pl ≤ 870 := by omega
        clear htle
        subst htl
        have hge : (10 : Int) ≤ 10 + (pl : Int) := by omega
        have hirE := Lib.hid hir
        rw [hir] at HT7 HLS hco hpl2 ⊢
        clear hb7 hr7 hsr hir hcod
        go_wp2_with fail
        refine wp_region_held_drew (S := fun w' => w'.cell? ⟨q, 3, none⟩ = some (.int .i64 (size : Int))) (by kernel_rfl) (by first | exact HSF.out _ hd7) (fun hHeld => ?_)
        refine wpAnyH_take (i := 0) (v := ?_) rfl (by kernel_rfl) (by kernel_rfl) (by kernel_rfl) (fun _ _ _ h => h) (Or.inl ⟨by first | kernel_rfl | rfl, ?_⟩) (by assumption) ?_
        rotate_left
        · (intro wq hSw; (try dsimp only at hSw); (try simp (maxSteps := 2000000) only [zz1, zz2, zz3]); go_simp); try with_reducible rfl
        try simp (maxSteps := 2000000) only [zz1, zz2, zz3, Act.put, zz4, zz5, zz6]
        refine wpAnyH_take (i := 1) (v := ?_) rfl (by kernel_rfl) (by kernel_rfl) (by kernel_rfl) (fun _ _ _ h => h) (Or.inl ⟨by first | kernel_rfl | rfl, ?_⟩) (by assumption) ?_
        rotate_left
        · (intro wq hSw; (try dsimp only at hSw); (try simp (maxSteps := 2000000) only [zz1, zz2, zz3]); go_simp); try with_reducible rfl
        try simp (maxSteps := 2000000) only [zz1, zz2, zz3, Act.put, zz4, zz5, zz6]
        refine wpAnyH_take (i := 2) (v := ?_) rfl (by kernel_rfl) (by kernel_rfl) (by kernel_rfl) (fun _ _ _ h => h) (Or.inl ⟨by first | kernel_rfl | rfl, ?_⟩) (by assumption) ?_
        rotate_left
        · (intro wq hSw; (try dsimp only at hSw); (try simp (maxSteps := 2000000) only [zz1, zz2, zz3]); go_simp); try with_reducible rfl
        try simp (maxSteps := 2000000) only [zz1, zz2, zz3, Act.put, zz4, zz5, zz6]
        refine wpAnyH_take (i := 4) (v := ?_) rfl (by kernel_rfl) (by kernel_rfl) (by kernel_rfl) (fun _ _ _ h => h) (Or.inl ⟨by first | kernel_rfl | rfl, ?_⟩) (by assumption) ?_
        rotate_left
        · (intro wq hSw; (try dsimp only at hSw); (try simp (maxSteps := 2000000) only [zz1, zz2, zz3]); go_simp); try with_reducible rfl
        try simp (maxSteps := 2000000) only [zz1, zz2, zz3, Act.put, zz4, zz5, zz6]
        refine wpAnyH_take (i := 5) (v := ?_) rfl (by kernel_rfl) (by kernel_rfl) (by kernel_rfl) (fun _ _ _ h => h) (Or.inl ⟨by first | kernel_rfl | rfl, ?_⟩) (by assumption) ?_
        rotate_left
        · (intro wq hSw; (try dsimp only at hSw); (try simp (maxSteps := 2000000) only [zz1, zz2, zz3]); go_simp); try with_reducible rfl
        try simp (maxSteps := 2000000) only [zz1, zz2, zz3, Act.put, zz4, zz5, zz6]
        refine wpAnyH_take (i := 6) (v := ?_) rfl (by kernel_rfl) (by kernel_rfl) (by kernel_rfl) (fun _ _ _ h => h) (Or.inl ⟨by first | kernel_rfl | rfl, ?_⟩) (by assumption) ?_
        rotate_left
        · (intro wq hSw; (try dsimp only at hSw); (try simp (maxSteps := 2000000) only [zz1, zz2, zz3]); go_simp); try with_reducible rfl
        try simp (maxSteps := 2000000) only [zz1, zz2, zz3, Act.put, zz4, zz5, zz6]
        refine wpAnyH_take (i := 7) (v := ?_) rfl (by kernel_rfl) (by kernel_rfl) (by kernel_rfl) (fun _ _ _ h => h) (Or.inl ⟨by first | kernel_rfl | rfl, ?_⟩) (by assumption) ?_
        rotate_left
        · (intro wq hSw; (try dsimp only at hSw); (try simp (maxSteps := 2000000) only [zz1, zz2, zz3]); go_simp); try with_reducible rfl
        try simp (maxSteps := 2000000) only [zz1, zz2, zz3, Act.put, zz4, zz5, zz6]
        refine wpAnyH_take (i := 8) (v := ?_) rfl (by kernel_rfl) (by kernel_rfl) (by kernel_rfl) (fun _ _ _ h => h) (Or.inl ⟨by first | kernel_rfl | rfl, ?_⟩) (by assumption) ?_
        rotate_left
        · (intro wq hSw; (try dsimp only at hSw); (try simp (maxSteps := 2000000) only [zz1, zz2, zz3]); go_simp); try with_reducible rfl
        try simp (maxSteps := 2000000) only [zz1, zz2, zz3, Act.put, zz4, zz5, zz6]
        refine wpAnyH_ready (rs := [3]) (by kernel_rfl) (by simp) ?_
        refine AllReadyH.cons rfl (fun K hK => ?_) AllReadyH.nil
        try simp (maxSteps := 2000000) only [zz1, zz2, zz3]
        go_simp
        go_at_call 119
        refine hrm7.mono ?_
        clear hrm7
        rintro e w8 ⟨rfl, hw8⟩
        rw [hw8]
        clear hw8
        try (go_wp2_with fail)
        refine hK.out _ _ (by first | exact HSF.out _ hd7) (fun hHeld => ?_)
        clear hK K
        try simp (maxSteps := 2000000) only [zz1, zz2, zz3, Act.put, zz4, zz5, zz6]
        refine wpAnyH_take (i := 9) (v := ?_) rfl (by kernel_rfl) (by kernel_rfl) (by kernel_rfl) (fun _ _ _ h => h) (Or.inl ⟨by first | kernel_rfl | rfl, ?_⟩) (by assumption) ?_
        rotate_left
        · (intro wq hSw; (try dsimp only at hSw); (try simp (maxSteps := 2000000) only [zz1, zz2, zz3]); go_simp); try with_reducible rfl
        try simp (maxSteps := 2000000) only [zz1, zz2, zz3, Act.put, zz4, zz5, zz6]
        refine wpAnyH_take (i := 10) (v := ?_) rfl (by kernel_rfl) (by kernel_rfl) (by kernel_rfl) (fun _ _ _ h => h) (Or.inl ⟨by first | kernel_rfl | rfl, ?_⟩) (by assumption) ?_
        rotate_left
        · (intro wq hSw; (try dsimp only at hSw); (try simp (maxSteps := 2000000) only [zz1, zz2, zz3]); go_simp); try with_reducible rfl
        try simp (maxSteps := 2000000) only [zz1, zz2, zz3, Act.put, zz4, zz5, zz6]
        refine wpAnyH_take (i := 11) (v := ?_) rfl (by kernel_rfl) (by kernel_rfl) (by kernel_rfl) (fun _ _ _ h => h) (Or.inl ⟨by first | kernel_rfl | rfl, ?_⟩) (by assumption) ?_
        rotate_left
        · (intro wq hSw; (try dsimp only at hSw); (try simp (maxSteps := 2000000) only [zz1, zz2, zz3]); go_simp); try with_reducible rfl
        try simp (maxSteps := 2000000) only [zz1, zz2, zz3, Act.put, zz4, zz5, zz6]
        refine wpAnyH_done (by kernel_rfl) ?_ _
        clear hHeld f1 f2 f3
        obtain ⟨b7, o7, rfl, _, hb7l⟩ := HR7.out.addr (k := 0) (by omega)
        have hsr := piece_rd HR7.out hc7 (show 10 ≤ 10 + pl by omega)
        rw [show tx.drop 10 = scPc k xs i by rw [HST.out, lnk_x], show 10 + pl - 10 = pl by omega] at hsr
        have HSR := Lib.hid hsr
        have hd8 : Below w7.heap.size w7 w7.drew.drew := hd7.drew
        have HT8 := Lib.hid (HT7.out.below hd8)
        have bR8 := HT8.out.bx
        unfold scCs at bR8
        rw [if_pos hlt, if_pos hlt, HPA.out] at bR8
        have s8 : w7.drew.drew.cell? ⟨qr, 1, none⟩ = some (.int .i64 (pa : Int)) := bR8.cell 1
        have hqr8 : qr < w7.drew.drew.heap.size := bR8.lt
        have HW7 := Lib.hid (show w1.heap.size ≤ w7.heap.size from HBr.out.size)
        have HWr := Lib.hid HWR7.out
        clear hsr bR8
        have hla := HT8.out
        have hsz8 : w1.heap.size ≤ w7.drew.drew.heap.size := Nat.le_trans HW7.out hd8.size
        have HXN := Lib.hid (show xs.take ((i + 1) * rm) = xs.take ir ++ scPc k xs i by rw [← hirE.out, ← HRM.out]; unfold scPc; rw [Nat.add_mul, Nat.one_mul, List.take_add])
        have hxp : (scPc k xs i).length = pl := by rw [scPc_len, HRM.out, hirE.out, hl]; exact hpl2.out
        go_wp2_with fail
        refine wp_region_held_drew (S := fun w' => w'.cell? ⟨qr, 1, none⟩ = some (.int .i64 (pa : Int))) (by kernel_rfl) (by first | exact s8 | exact s9 | exact s10 | exact s11) (fun hHeld => ?_)
        refine wpAnyH_take (i := 0) (v := ?_) rfl (by kernel_rfl) (by kernel_rfl) (by kernel_rfl) (fun _ _ _ h => h) (Or.inl ⟨by first | kernel_rfl | rfl, ?_⟩) (by assumption) ?_
        rotate_left
        · (intro wq hSw; (try dsimp only at hSw); (try simp (maxSteps := 2000000) only [zz1, zz2, zz3]); go_simp); try with_reducible rfl
        try simp (maxSteps := 2000000) only [zz1, zz2, zz3, Act.put, zz4, zz5, zz6]
        refine wpAnyH_take (i := 1) (v := ?_) rfl (by kernel_rfl) (by kernel_rfl) (by kernel_rfl) (fun _ _ _ h => h) (Or.inl ⟨by first | kernel_rfl | rfl, ?_⟩) (by assumption) ?_
        rotate_left
        · (intro wq hSw; (try dsimp only at hSw); (try simp (maxSteps := 2000000) only [zz1, zz2, zz3]); go_simp); try with_reducible rfl
        try simp (maxSteps := 2000000) only [zz1, zz2, zz3, Act.put, zz4, zz5, zz6]
        refine wpAnyH_take (i := 2) (v := ?_) rfl (by kernel_rfl) (by kernel_rfl) (by kernel_rfl) (fun _ _ _ h => h) (Or.inl ⟨by first | kernel_rfl | rfl, ?_⟩) (by assumption) ?_
        rotate_left
        · (intro wq hSw; (try dsimp only at hSw); (try simp (maxSteps := 2000000) only [zz1, zz2, zz3]); go_simp); try with_reducible rfl
        try simp (maxSteps := 2000000) only [zz1, zz2, zz3, Act.put, zz4, zz5, zz6]
        refine wpAnyH_take (i := 5) (v := ?_) rfl (by kernel_rfl) (by kernel_rfl) (by kernel_rfl) (fun _ _ _ h => h) (Or.inl ⟨by first | kernel_rfl | rfl, ?_⟩) (by assumption) ?_
        rotate_left
        · (intro wq hSw; (try dsimp only at hSw); (try simp (maxSteps := 2000000) only [zz1, zz2, zz3]); go_simp); try with_reducible rfl
        try simp (maxSteps := 2000000) only [zz1, zz2, zz3, Act.put, zz4, zz5, zz6]
        refine wpAnyH_take (i := 6) (v := ?_) rfl (by kernel_rfl) (by kernel_rfl) (by kernel_rfl) (fun _ _ _ h => h) (Or.inl ⟨by first | kernel_rfl | rfl, ?_⟩) (by assumption) ?_
        rotate_left
        · (intro wq hSw; (try dsimp only at hSw); (try simp (maxSteps := 2000000) only [zz1, zz2, zz3]); go_simp); try with_reducible rfl
        try simp (maxSteps := 2000000) only [zz1, zz2, zz3, Act.put, zz4, zz5, zz6]
        refine wpAnyH_take (i := 7) (v := ?_) rfl (by kernel_rfl) (by kernel_rfl) (by kernel_rfl) (fun _ _ _ h => h) (Or.inl ⟨by first | kernel_rfl | rfl, ?_⟩) (by assumption) ?_
        rotate_left
        · (intro wq hSw; (try dsimp only at hSw); (try simp (maxSteps := 2000000) only [zz1, zz2, zz3]); go_simp); try with_reducible rfl
        try simp (maxSteps := 2000000) only [zz1, zz2, zz3, Act.put, zz4, zz5, zz6]
        have s9 : (w7.drew.drew.alloc (.cells #[.int .i64 (pa : Int)] 3)).cell? ⟨qr, 1, none⟩ = some (.int .i64 (pa : Int)) := (World.cell?_alloc_past _ _ _ hqr8).trans s8
        refine wpAnyH_ready (rs := [3]) (by kernel_rfl) (by simp) ?_
        refine AllReadyH.cons rfl (fun K hK => ?_) AllReadyH.nil
        try simp (maxSteps := 2000000) only [zz1, zz2, zz3]
        go_simp
        refine hK.out _ _ (by first | exact s8 | exact s9 | exact s10 | exact s11) (fun hHeld => ?_)
        clear hK K
        try simp (maxSteps := 2000000) only [zz1, zz2, zz3, Act.put, zz4, zz5, zz6]
        refine wpAnyH_ready (rs := [4]) (by kernel_rfl) (by simp) ?_
        refine AllReadyH.cons rfl (fun K hK => ?_) AllReadyH.nil
        refine step_law (by rfl) (wpList_push1 IntR.stable IntR.one sl_intA (by rfl) (by rfl) (base := w1.heap.size) (S := fun _ => True) (cs := #[.int .i64 (pa : Int)]) (y := (pa : Int)) (by rfl) (by rfl) hla.ol (by rfl) (by rfl) (by unfold maxLen; omega) (by omega) hsz8 ?_)
        intro A9 c9 u9 hc9 own9 hlt9 hb9 hat9
        refine And.intro rfl ?_
        have HT9 := Lib.hid (hla.pushL u9 own9 hat9)
        have bR9 := HT9.out.bx
        unfold scCs at bR9
        rw [if_pos hlt, if_pos hlt, HPA.out] at bR9
        have s10 : u9.to.cell? ⟨qr, 1, none⟩ = some (.int .i64 (pa : Int)) := bR9.cell 1
        have hsr9 : RdL ByR 1 (fun j => wr.heap.size ≤ j ∧ j < w7.heap.size) u9.to (if c7 = 10 then some ⟨b7, o7, none⟩ else Option.map (fun x : Addr => x.add (10 * 1)) (some ⟨b7, o7, none⟩)) pl (scPc k xs i) := HSR.out.stable ByR.stable fun j hj _ => ⟨hj, u9.ok.block j (Nat.lt_of_lt_of_le hj.2 hd8.size) (fun e => by have := HLS.out j (.inr e.symm); have := hj.1; omega)⟩
        have hrw9 : RdL ByR 1 (fun j => wr.heap.size ≤ j ∧ j < w7.heap.size) u9.to (some ⟨b7, o7, none⟩) (10 + pl) tx := HR7.out.stable ByR.stable fun j hj _ => ⟨hj, u9.ok.block j (Nat.lt_of_lt_of_le hj.2 hd8.size) (fun e => by have := HLS.out j (.inr e.symm); have := hj.1; omega)⟩
        have HSR9 := Lib.hid hsr9
        have HRW9 := Lib.hid hrw9
        have hsz9 : w1.heap.size ≤ u9.to.heap.size := Nat.le_trans hsz8 u9.ok.size
        have HB9 := Lib.hid hb9
        clear own9 hb9 hat9 bR9 hsr9 hrw9
        refine hK.out _ _ (by first | exact s8 | exact s9 | exact s10 | exact s11) (fun hHeld => ?_)
        clear hK K
        try simp (maxSteps := 2000000) only [zz1, zz2, zz3, Act.put, zz4, zz5, zz6]
        refine wpAnyH_ready (rs := [8]) (by kernel_rfl) (by simp) ?_
        refine AllReadyH.cons rfl (fun K hK => ?_) AllReadyH.nil
        refine step_law (by rfl) (wpList_appL ByR.stable ByR.one sl_by rfl (by exact rfl) (base := w1.heap.size) (S := fun _ => True) (n := ir) (xs := xs.take ir) (by rfl) HT9.out.oo (by rfl) HSR9.out (fun _ _ h => h) (by unfold maxLen; omega) (by omega) hsz9 ?_)
        intro A10 c10 w10 hc10 own10 hg10 hat10
        refine And.intro rfl ?_
        have HT10 := Lib.hid (HT9.out.pushO hg10 own10 hat10)
        have bR10 := HT10.out.bx
        unfold scCs at bR10
        rw [if_pos hlt, if_pos hlt, HPA.out] at bR10
        have s11 : w10.cell? ⟨qr, 1, none⟩ = some (.int .i64 (pa : Int)) := bR10.cell 1
        have HRW10 : Hid (RdL ByR 1 (fun j => wr.heap.size ≤ j ∧ j < w7.heap.size) w10 (some ⟨b7, o7, none⟩) (10 + pl) tx) := Lib.hid (HRW9.out.stable ByR.stable fun j hj hl2 => ⟨hj, hg10.block j hl2 (fun e => by have := HLS.out j (.inl e.symm); have := hj.1; omega)⟩)
        have HB10 := Lib.hid (Below.grown HB9.out hg10 hsz9 (fun g hg => (HT9.out.oo.lt g hg).1))
        clear own10 hg10 hat10 bR10
        refine hK.out _ _ (by first | exact s8 | exact s9 | exact s10 | exact s11) (fun hHeld => ?_)
        clear hK K
        try simp (maxSteps := 2000000) only [zz1, zz2, zz3, Act.put, zz4, zz5, zz6]
        refine wpAnyH_take (i := 9) (v := ?_) rfl (by kernel_rfl) (by kernel_rfl) (by kernel_rfl) (fun _ _ _ h => h) (Or.inl ⟨by first | kernel_rfl | rfl, ?_⟩) (by assumption) ?_
        rotate_left
        · (intro wq hSw; (try dsimp only at hSw); (try simp (maxSteps := 2000000) only [zz1, zz2, zz3]); go_simp); try with_reducible rfl
        try simp (maxSteps := 2000000) only [zz1, zz2, zz3, Act.put, zz4, zz5, zz6]
        refine wpAnyH_take (i := 10) (v := ?_) rfl (by kernel_rfl) (by kernel_rfl) (by kernel_rfl) (fun _ _ _ h => h) (Or.inl ⟨by first | kernel_rfl | rfl, ?_⟩) (by assumption) ?_
        rotate_left
        · (intro wq hSw; (try dsimp only at hSw); (try simp (maxSteps := 2000000) only [zz1, zz2, zz3]); go_simp); try with_reducible rfl
        try simp (maxSteps := 2000000) only [zz1, zz2, zz3, Act.put, zz4, zz5, zz6]
        refine wpAnyH_done (by kernel_rfl) ?_ _
        clear hHeld s8 s9 s10 s11
        have HBF := Lib.hid ((HBr.out.trans (hd8.mono HBr.out.size)).trans HB10.out)
        have hnt := scnext_any (xs := tx) HRW10.out (by omega) (by omega) hc7
        obtain ⟨p', hp'⟩ : ∃ p', (if i + 1 < M then aa + (i + 1) else 0) = p' := ⟨_, rfl⟩
        obtain ⟨g', hg'⟩ : ∃ g', (if i + 1 < M then G + (i + 1) else 0) = g' := ⟨_, rfl⟩
        have hpl' : p' < 65536 := by rw [← hp']; split <;> omega
        have hgl' : g' < 2 ^ 64 := by rw [← hg']; have := hG.out; split <;> omega
        have htx' := HST.out
        rw [hp', hg'] at htx'
        rw [htx', lnk_p hpl', lnk_g (Lib.hid hgl'), show IntKind.i64.wrap (p' : Int) = (p' : Int) by rw [IntKind.wrap_i64]; omega] at hnt
        have HCS := Lib.hid (show scCs aa G M (i + 1) = #[.int .u8 4, .int .i64 (p' : Int), .int .u64 (g' : Int)] by unfold scCs; rw [hp', hg'])
        clear hp' hg' hpl' hgl' htx'
        rcases Decidable.em (c7 = 10) with rfl | hce
        all_goals
          go_wp2_with fail
          refine hnt.mono ?_
          clear hnt
          rintro e w11 ⟨rfl, hb11⟩
          have HT11 := Lib.hid (HT10.out.below hb11)
          have HBF11 := Lib.hid (HBF.out.trans (hb11.mono HBF.out.size))
          have ht11 := HT11.out
          unfold scCs at ht11
          rw [if_pos hlt, if_pos hlt] at ht11
          have HT12 := Lib.hid (ht11.setR (x := .int .u8 4) (y := .int .i64 (p' : Int)) (z := .int .u64 (g' : Int)))
          have HB12 := Lib.hid (((HBF11.out.setCell (p := ⟨qr, 0, none⟩) HQR.out (.int .u8 4)).setCell (p := ⟨qr, 1, none⟩) HQR.out (.int .i64 (p' : Int))).setCell (p := ⟨qr, 2, none⟩) HQR.out (.int .u64 (g' : Int)))
          have b11 := ht11.bx
          have k0 := b11.cell 0
          have k1 := b11.cell 1
          have k2 := b11.cell 2
          have z0 := b11.frozen 0
          have z1 := b11.frozen 1
          have z2 := b11.frozen 2
          clear b11 ht11 hb11
          go_wp2_with fail
          refine ⟨⟨i + 1, ir + pl, c10, c9, A10, A9, by omega, ?_, rfl, rfl, rfl, hc10, hc9, ?_, HB12, Lib.hid fun j hj => ?_⟩, by simp; omega⟩
          · rw [HRM.out, Nat.add_mul, Nat.one_mul, hirE.out]
            have h1 := hpl2.out
            omega
          · rw [HRM.out, HXN.out, HCS.out, plL_succ, HPA.out]
            exact HT12
          · by_cases e : j = i
            · rw [e]; exact hle
            · exact HG.out j (by omega)
    · have p1 : ¬ (i : Int) < (M : Int) := by omega
      obtain rfl : i = M := by omega
      rw [if_neg (Nat.lt_irrefl _), if_neg (Nat.lt_irrefl _)] at bR
      have k1 := bR.cell 1
      have k2 := bR.cell 2
      have hall := HALL.out
      rw [hrm] at hall
      obtain rfl : no = size := by omega
      have HTK := Lib.hid (show xs.take (i * rm) = xs from List.take_of_length_le (by rw [hl]; exact hall))
      clear bR hno hall hrm hi bBr
      go_wp2_with fail
      go_ret3
      obtain ⟨_, _, eL, _, hrL⟩ := HT.out.ol.rd (S' := fun j => w.heap.size ≤ j) (fun j hj => Nat.le_trans HB0.out.size hj) (fun cs x hx => hx)
      cases eL
      have hrO := OwnL.rdT HT.out.oo
      rw [HTK.out] at hrO
      exact ⟨HBW.out, .inr ⟨fun j hj => by rw [HN.out]; exact HG.out j hj, Ao, co, Al, cl, rfl, hco, hrO.1.weaken ByR.stable (fun j hj => Nat.le_trans HB0.out.size hj), hcl, hrL⟩⟩
end
end Go.Proofs.YtcliejdiaohamaaGreat

set_option linter.unusedSimpArgs false
set_option linter.unusedVariables false
namespace Go.Proofs.YtcliejdiaohamaaGreat
open Go.RowKit Go.Cib
attribute [local go_sem] cell_set Later.cell Later.frozen Grw.cell Grw.frozen
set_option maxRecDepth 100000 in
set_option maxHeartbeats 4000000 in
theorem ints7_same {w : World} {A1 A2 : Option Addr} {n c1 c2 : Nat} {S1 S2 : Nat → Prop} {xs : List Int} (R1 : RdL IntR 1 S1 w A1 n xs) (R2 : RdL IntR 1 S2 w A2 n xs) (hn : n ≤ 1000000) :
    Calls Tryz.prog 53 #[.slice A1 n c1, .slice A2 n c2] w fun e w' => e = .returned (.bool true) ∧ Below w.heap.size w w' := by
  have H1 := Lib.hid R1
  have H2 := Lib.hid R2
  have en : ((n : Int) != (n : Int)) = false := by simp
  clear R1 R2
  go_enter Tryz.func53, Tryz.ntmps53
  go_wp2_with fail
  clear en
  go_loopw [5] (fun vi wr => ∃ i : Nat, i ≤ n ∧ vi = .int .i64 i ∧ Hid (Below w.heap.size w wr)) (fun vi _ => n - (intOf vi).toNat)
  case atStart => exact ⟨0, Nat.zero_le _, rfl, Lib.hid (Below.refl _ _)⟩
  case round =>
    obtain ⟨i, hi, rfl, HB⟩ := hrel
    have p0 : (0 : Int) ≤ (i : Int) := Int.natCast_nonneg _
    by_cases hlt : i < n
    · have p1 : (i : Int) < (n : Int) := by omega
      obtain ⟨b1, o1, rfl, _, hb1⟩ := (H1.out.below IntR.stable HB.out).addr hlt
      obtain ⟨b2, o2, rfl, _, hb2⟩ := (H2.out.below IntR.stable HB.out).addr hlt
      obtain ⟨x, hx, v1⟩ := int_at1 (H1.out.below IntR.stable HB.out) hlt
      obtain ⟨y, hy, v2⟩ := int_at1 (H2.out.below IntR.stable HB.out) hlt
      obtain rfl : x = y := Option.some.inj (hx.symm.trans hy)
      clear hx hy
      go_wp2_with fail
      refine wp_region_later (by kernel_rfl) (by kernel_rfl) ?_
      repeat (go_big_quiet_step (fail))
      refine wpQuiet_nil ?_
      rintro _ ⟨z, rfl⟩
      go_wp2_with fail
      exact ⟨⟨i + 1, by omega, by go_num, Lib.hid (HB.out.trans (z.ok.mono HB.out.size))⟩, by simp [intOf]; omega⟩
    · have p1 : ¬ (i : Int) < (n : Int) := by omega
      go_wp2_with fail
      go_ret
      exact ⟨rfl, HB.out⟩
end Go.Proofs.YtcliejdiaohamaaGreat

set_option linter.unusedSimpArgs false
set_option linter.unusedVariables false
namespace Go.Proofs.YtcliejdiaohamaaGreat
open Go.RowKit Go.Cib
attribute [local go_sem] cell_set Later.cell Later.frozen Grw.cell Grw.frozen
def xR : List Nat := (List.replicate 70 0).set 69 7
theorem xR_len : xR.length = 70 := by unfold xR; simp
theorem BoxAt.ints {w : World} {b : Nat} {xs : List Int} (h : BoxAt w b (xs.map (Value.int .i64)).toArray) {S : Nat → Prop} (hS : S b) : RdL IntR 1 S w (some ⟨b, 0, none⟩) xs.length xs :=
  ⟨rfl, fun _ => ⟨b, 0, rfl, hS, h.lt, fun i x hx => ⟨[.int .i64 x], rfl, rfl, fun j v hj => by
    have hj0 : j = 0 := by
      have := (List.getElem?_eq_some_iff.1 hj).1
      simp at this; exact this
    subst hj0
    simp at hj
    subst hj
    rw [show 0 + i * 1 + 0 = i by omega, h.cell i]
    simp [hx]⟩⟩⟩
set_option maxRecDepth 100000 in
set_option maxHeartbeats 16000000 in
theorem rolls_any {w : World} : Calls Tryz.prog 43 #[] w fun e w' => e = .returned (.bool true) ∧ Below w.heap.size w w' := by
  have hmd := bmade_any (w0 := w) (w := w) (k := 1) (m := 1) (f := 2) (c := 5) (Below.refl _ _) (by omega) (by omega) (by omega) (by omega) (by omega) (by omega)
  have e0 : baseC ((1 : Nat) : Int) ((1 : Nat) : Int) ((2 : Nat) : Int) ((5 : Nat) : Int) = #[.int .i64 1, .int .i64 1, .int .i64 2, .int .i64 5] := rfl
  rw [e0] at hmd
  clear e0
  go_enter Tryz.func43, Tryz.ntmps43
  go_wp2_with fail
  refine hmd.mono ?_
  clear hmd
  rintro e w1 ⟨a, cb, bf, p, o, l, go, gl, rfl, hM, hP, hb1⟩
  have hM1 : MidP (PoolB p o l go gl) (fun j => j < w.heap.size) w w1 a cb bf 1 1 7 (newS 7 2) := hM
  have hP1 : PoolT w1 p o l go gl 0 2 5 0 := PoolT.new hP
  have hmk := makeBy 70 (by omega) w1
  rw [show ((70 : Nat) : Int) = 70 from rfl] at hmk
  have hr1 := (RowIn.made w1 70 5).set (i := 69) (x := 7) (by simp) (by omega)
  have hbx : Below w1.heap.size w1 (w1.alloc (.cells (Array.replicate 70 (.int .u8 0)) 5)) := (Below.refl _ _).alloc (Nat.le_refl _) _
  have hM2 := hM1.below hbx
  have hP2 := hP1.below hbx
  have bx := BoxAt.new w1 (Array.replicate 70 (.int .u8 0)) 5
  obtain ⟨wx, hwx⟩ : ∃ wx, w1.alloc (.cells (Array.replicate 70 (.int .u8 0)) 5) = wx := ⟨_, rfl⟩
  obtain ⟨qx, hqx⟩ : ∃ qx, w1.heap.size = qx := ⟨_, rfl⟩
  have hsx : wx.heap.size = qx + 1 := by rw [← hwx, ← hqx, World.size_alloc]
  have hs1 := hb1.size
  rw [hwx] at hr1 hM2 hP2 bx
  rw [hqx] at hr1 bx hM2
  have kx := bx.cell 69
  rw [show (Array.replicate 70 (Value.int .u8 0))[69]? = some (Value.int .u8 0) by simp] at kx
  have zx := bx.frozen 69
  have hKx : Keep (fun j => j = qx) wx (wx.setCell ⟨qx, 69, none⟩ (.int .u8 7)) := (Keep.refl (fun j => j = qx) wx).setCell (p := ⟨qx, 69, none⟩) (fun _ => rfl) _
  have hPB1 : ∀ j, PoolB p o l go gl j → j < w1.heap.size := fun j hj => hM1.ltP hj
  have hM3 := hM2.own hKx (fun j hj => by subst hj; exact ⟨.inr (by omega), by omega⟩)
  have hP3 := hP2.keep hKx (fun j hj e => by have := hPB1 j hj; omega)
  obtain ⟨w2, hw2⟩ : ∃ w2, wx.setCell ⟨qx, 69, none⟩ (.int .u8 7) = w2 := ⟨_, rfl⟩
  have hr2 : RdL ByR 1 (fun j => j = qx) w2 (some ⟨qx, 0, none⟩) 70 xR := by
    rw [← hw2]
    have h := hr1.rd (S := fun j => j = qx) rfl
    rw [show ((List.replicate 70 0).set 69 7).length = 70 by simp] at h
    exact h
  rw [hw2] at hM3 hP3
  have hc3 : scN 1 70 = 3 := by decide
  have hpu := scp_any hM3 hP3 (fun j hj => hj) hr2 (fun j hj => .inr (by omega)) (Nat.le_refl _) (by omega) (by rw [hc3]; omega) (by rw [hc3]; omega) (by omega) (fun st hst => by
    obtain ⟨d, hd, rfl⟩ := List.mem_iff_getElem.1 hst
    rw [(newS_at (List.getElem?_eq_getElem hd)).1]; decide) (by rw [hc3]; omega)
  rw [hc3] at hpu
  have HR2 := Lib.hid hr2
  have HX2 := Lib.hid (show ∀ j, j = qx → j < w.heap.size ∨ qx ≤ j ∧ j < wx.heap.size from fun j hj => .inr (by omega))
  have HPU := Lib.hid hpu
  have HB1 := Lib.hid hb1
  clear hM hP hM1 hP1 hbx hM2 hP2 bx hM3 hP3 hr1 hb1 hKx hc3 hpu hr2
  go_wp2_with fail
  refine HPU.out.mono ?_
  clear HPU hwx hqx hw2 kx zx hsx hs1 hPB1 hmk
  rintro e w3 ⟨A3, c3, S3, rfl, hc3, hr3, hS3, hP3, hM3, hK3⟩
  have hxb := by_byt HR2.out
  have hvw := putC_new (n := 7) (k := 1) (N := 1 + 1) (M := 3) (rf := scRf (2 + 0) 0) (tx := scTx 1 (2 + 0) 0 3 xR) (Alv.new 7 2) (fun i hi => scRf_ok (by omega)) (fun i => scTx_byt hxb i) (fun i j h1 h2 => by show 2 + 0 + j ≠ 2 + 0 + i; omega) 3 (Nat.le_refl _)
  have e1 : scC ((2 + 0 : Nat) : Int) ((0 : Nat) : Int) ((3 : Nat) : Int) ((70 : Nat) : Int) = #[.int .i64 2, .int .u64 0, .int .i64 3, .int .i64 70] := rfl
  rw [e1]
  have hXb := BoxAt.new w3 #[.int .i64 2, .int .u64 0, .int .i64 3, .int .i64 70] 24
  have hb4 : Below w3.heap.size w3 (w3.alloc (.cells #[.int .i64 2, .int .u64 0, .int .i64 3, .int .i64 70] 24)) := (Below.refl _ _).alloc (Nat.le_refl _) _
  have hM4 := hM3.below hb4
  obtain ⟨w4, hw4⟩ : ∃ w4, w3.alloc (.cells #[.int .i64 2, .int .u64 0, .int .i64 3, .int .i64 70] 24) = w4 := ⟨_, rfl⟩
  obtain ⟨q, hq⟩ : ∃ q, w3.heap.size = q := ⟨_, rfl⟩
  rw [hw4] at hXb hb4 hM4
  rw [hq] at hXb
  have hc3' : scN 1 70 = 3 := by decide
  have hgt := scg_any (aa := 2 + 0) (G := 0) (size := 70) (xs := xR) (gs := fun _ _ => true) hM4.x.mid (by omega) (by omega) (by rw [hc3']; omega) (by rw [hc3']; omega) (Lib.hid (by rw [hc3']; decide)) hxb xR_len (by rw [hc3']; exact hvw)
  rw [hc3', e1] at hgt
  have HGT := Lib.hid hgt
  have HR3 := Lib.hid (hr3.below IntR.stable hb4)
  have HR24 := Lib.hid ((hK3.rd ByR.stable HR2.out HX2.out).below ByR.stable hb4)
  have HM4 := Lib.hid hM4
  have BB4 := Lib.hid hXb
  have c4 : w4.cell? ⟨q, 0, none⟩ = some (.int .i64 2) ∧ w4.cell? ⟨q, 1, none⟩ = some (.int .u64 0) ∧ w4.cell? ⟨q, 2, none⟩ = some (.int .i64 3) ∧ w4.cell? ⟨q, 3, none⟩ = some (.int .i64 70) := ⟨hXb.cell 0, hXb.cell 1, hXb.cell 2, hXb.cell 3⟩
  clear hc3 hr3 hS3 hP3 hM3 hK3 hXb hb4 hM4 hgt HR2 HX2 hvw hxb e1 hc3'
  go_wp2_with fail
  refine HGT.out.mono ?_
  clear HGT hw4 hq c4
  rintro e w5 ⟨hb5, ⟨⟨i, _, hlo⟩, _⟩ | ⟨_, A5, c5, A6, c6, rfl, hc5, hr5, hc6, hr6⟩⟩
  · exact absurd (show cntP (fun _ => true) 2 < 1 from hlo) (by decide)
  have bB5 := BB4.out.below hb5
  have k0 : w5.cell? ⟨q, 0, none⟩ = some (.int .i64 2) := bB5.cell 0
  have k2 : w5.cell? ⟨q, 2, none⟩ = some (.int .i64 3) := bB5.cell 2
  have k3 : w5.cell? ⟨q, 3, none⟩ = some (.int .i64 70) := bB5.cell 3
  have HR35 := Lib.hid (HR3.out.below IntR.stable hb5)
  have HR25 := Lib.hid (HR24.out.below ByR.stable hb5)
  have HR5 := Lib.hid hr5
  have HR6 := Lib.hid hr6
  have HM5 := Lib.hid (HM4.out.below' hb5)
  have hbi : Below w5.heap.size w5 (w5.alloc (.cells #[.int .i64 2, .int .i64 3, .int .i64 4] 3)) := (Below.refl _ _).alloc (Nat.le_refl _) _
  have hli := BoxAt.ints (xs := [2, 3, 4]) (BoxAt.new w5 #[.int .i64 2, .int .i64 3, .int .i64 4] 3) (S := fun _ => True) trivial
  have hi7 := ints7_same (c1 := c3) (c2 := 3) (HR35.out.below IntR.stable hbi) (show RdL IntR 1 (fun _ => True) _ _ 3 (plL (2 + 0) 3) from hli) (by omega)
  have HBI := Lib.hid hbi
  clear hr5 hr6 hb5 HM4 HR3 HR24 BB4 bB5 hli hbi
  go_wp2_with fail
  refine hi7.mono ?_
  clear hi7 k0 k2 k3
  rintro e w7 ⟨rfl, hb7⟩
  have HB7 := Lib.hid (HBI.out.trans (hb7.mono HBI.out.size))
  obtain ⟨T, hT⟩ : ∃ T, textB xR = T := ⟨_, rfl⟩
  have t1 := text_run (c := c5) (HR5.out.below ByR.stable HB7.out)
  have t2 := text_run (c := 70) (HR25.out.below ByR.stable HB7.out)
  rw [hT] at t1 t2
  have hi7 := ints7_same (c1 := c6) (c2 := c3) (HR6.out.below IntR.stable HB7.out) (HR35.out.below IntR.stable HB7.out) (by omega)
  clear hb7
  go_wp2_with fail
  refine hi7.mono ?_
  clear hi7 t1 t2 hT
  rintro e w8 ⟨rfl, hb8⟩
  have HB8 := Lib.hid (HB7.out.trans (hb8.mono HB7.out.size))
  have hc34 := scnt_any (HM5.out.cod.below HB8.out) (size := 34) (Lib.hid (by decide))
  rw [show scI 1 34 = 1 by decide] at hc34
  clear hb8
  go_wp2_with fail
  refine hc34.mono ?_
  clear hc34
  rintro e w9 ⟨rfl, hb9⟩
  have HB9 := Lib.hid (HB8.out.trans (hb9.mono HB8.out.size))
  have hc35 := scnt_any (HM5.out.cod.below HB9.out) (size := 35) (Lib.hid (by decide))
  rw [show scI 1 35 = 2 by decide] at hc35
  clear hb9
  go_wp2_with fail
  refine hc35.mono ?_
  clear hc35
  rintro e w10 ⟨rfl, hb10⟩
  have HB10 := Lib.hid (HB9.out.trans (hb10.mono HB9.out.size))
  have hpb := spb_any (c := 0) (p := 258) (ct := 2) (sz := 3) (g := 1) (xs := []) (RdL.nil (A := none) (S := fun _ => True) (w := w10)) (by omega) (Lib.hid (by decide))
  rw [show ([] : List Nat) ++ nmB 258 1 2 3 = [2, 1, 1, 0, 0, 0, 0, 0, 0, 0, 2, 0, 3, 0, 0, 0] by decide +kernel] at hpb
  unfold scC at hpb
  rw [show ((1 : Nat) : Int) = 1 from rfl] at hpb
  clear hb10
  go_wp2_with fail
  refine hpb.mono ?_
  clear hpb
  rintro e w11 ⟨A11, c11, rfl, hc11, hr11, hb11⟩
  have t1 := text_run (c := c11) hr11
  rw [show textB [2, 1, 1, 0, 0, 0, 0, 0, 0, 0, 2, 0, 3, 0, 0, 0] = ⟨#[2, 1, 1, 0, 0, 0, 0, 0, 0, 0, 2, 0, 3, 0, 0, 0]⟩ by decide +kernel] at t1
  have HB11 := Lib.hid (HM5.out.bel.trans ((HB10.out.trans (hb11.mono HB10.out.size)).mono HM5.out.bel.size))
  clear hr11 hb11
  go_wp2_with fail
  go_ret
  exact ⟨rfl, HB11.out⟩
end Go.Proofs.YtcliejdiaohamaaGreat

set_option linter.unusedSimpArgs false
set_option linter.unusedVariables false
namespace Go.Proofs.YtcliejdiaohamaaGreat
open Go.RowKit Go.Cib
attribute [local go_sem] cell_set Later.cell Later.frozen Grw.cell Grw.frozen
/-- The code that such a reading answers. -/
def ngE (n : Nat) (at' : Int) (k : Nat) : Int := if at' < 0 ∨ at' > n then 2 else if (k : Int) > (n : Int) - at' then 5 else 0
/-- What it reads. -/
def ngV (xs : List Nat) (at' : Int) (k : Nat) : Nat := if ngE xs.length at' k = 0 then unN ((xs.drop at'.toNat).take k) else 0
def NgR (n : Nat) (xs : List Nat) (at' : Int) (k : Nat) (e : Ending) : Prop := e = .returned (.tuple #[.int .u64 (ngV xs at' k : Int), .int .i64 (ngE n at' k)])
theorem ng_in {n : Nat} {xs : List Nat} (hl : xs.length = n) {a k : Nat} (h : a + k ≤ n) : ngE n (a : Int) k = 0 ∧ ngV xs (a : Int) k = unN ((xs.drop a).take k) := by
  have e : ngE n (a : Int) k = 0 := by
    unfold ngE
    rw [if_neg (by omega), if_neg (by omega)]
  refine ⟨e, ?_⟩
  unfold ngV
  rw [hl, if_pos e, Int.toNat_natCast]
theorem ng_out {n : Nat} {xs : List Nat} (hl : xs.length = n) {z : Int} {k : Nat} (h : z < 0 ∨ z > n) : ngE n z k = 2 ∧ ngV xs z k = 0 := by
  have e : ngE n z k = 2 := by
    unfold ngE
    rw [if_pos h]
  refine ⟨e, ?_⟩
  unfold ngV
  rw [hl, e, if_neg (by decide)]
theorem ng_short {n : Nat} {xs : List Nat} (hl : xs.length = n) {z : Int} {k : Nat} (h0 : 0 ≤ z) (h1 : z ≤ n) (h : (n : Int) - z < k) : ngE n z k = 5 ∧ ngV xs z k = 0 := by
  have e : ngE n z k = 5 := by
    unfold ngE
    rw [if_neg (by omega), if_pos (by omega)]
  refine ⟨e, ?_⟩
  unfold ngV
  rw [hl, e, if_neg (by decide)]
set_option maxRecDepth 100000 in
set_option maxHeartbeats 4000000 in
theorem nget_or {w : World} {n c k : Nat} {z : Int} {A : Option Addr} {S : Nat → Prop} {xs : List Nat} (R : RdL ByR 1 S w A n xs) (hnc : n ≤ c) (hn : n ≤ 4000) (k1 : 1 ≤ k) (k8 : k ≤ 8) :
    Calls Tryz.prog 122 #[.slice A n c, .int .i64 z, .int .i64 (k : Int)] w fun e w' => NgR n xs z k e ∧ w' = w := by
  have hl := R.1
  have q1 : ¬ (k : Int) < 1 := by omega
  have q2 : ¬ (k : Int) > 8 := by omega
  by_cases h0 : z < 0
  · obtain ⟨e1, e2⟩ := ng_out hl (k := k) (Or.inl h0)
    unfold NgR
    rw [e1, e2]
    clear R hl e1 e2
    go_enter Tryz.func122, Tryz.ntmps122
    go_wp2_with fail
    go_ret2
    exact ⟨rfl, rfl⟩
  by_cases h1 : z > (n : Int)
  · obtain ⟨e1, e2⟩ := ng_out hl (k := k) (Or.inr h1)
    unfold NgR
    rw [e1, e2]
    clear R hl e1 e2
    go_enter Tryz.func122, Tryz.ntmps122
    go_wp2_with fail
    go_ret2
    exact ⟨rfl, rfl⟩
  obtain ⟨a, rfl⟩ : ∃ a : Nat, z = a := ⟨z.toNat, by omega⟩
  by_cases h2 : (k : Int) > (n : Int) - (a : Int)
  · obtain ⟨e1, e2⟩ := ng_short hl (z := (a : Int)) (k := k) (by omega) (by omega) (by omega)
    unfold NgR
    rw [e1, e2]
    have hw : IntKind.i64.wrap ((n : Int) - (a : Int)) = (n : Int) - (a : Int) := by rw [IntKind.wrap_i64]; omega
    clear R hl e1 e2
    go_enter Tryz.func122, Tryz.ntmps122
    go_wp2_with fail
    go_ret2
    exact ⟨rfl, rfl⟩
  · refine (nget_any R hnc hn k1 k8 (a := a) (by omega)).mono ?_
    rintro e w' ⟨rfl, rfl⟩
    obtain ⟨e1, e2⟩ := ng_in hl (a := a) (k := k) (by omega)
    unfold NgR
    rw [e1, e2]
    exact ⟨rfl, rfl⟩
theorem unN_leN (k v : Nat) : unN (leN k v) = v % 2 ^ (8 * k) := by
  induction k with
  | zero => show 0 = _; rw [Nat.mul_zero, Nat.pow_zero, Nat.mod_one]
  | succ k ih =>
    rw [leN_next, unN_snoc, ih, leN_len, show 8 * (k + 1) = 8 * k + 8 by omega, Nat.pow_add]
    exact (Nat.mod_mul ..).symm
end Go.Proofs.YtcliejdiaohamaaGreat

set_option linter.unusedSimpArgs false
set_option linter.unusedVariables false
namespace Go.Proofs.YtcliejdiaohamaaGreat
open Go.RowKit Go.Cib
attribute [local go_sem] cell_set Later.cell Later.frozen Grw.cell Grw.frozen
set_option maxRecDepth 100000 in
set_option maxHeartbeats 4000000 in
theorem rjoin_any {w : World} {n c m c2 : Nat} {A B : Option Addr} {S T : Nat → Prop} {xs ys : List Nat} (R1 : Hid (RdL ByR 1 S w A n xs)) (R2 : Hid (RdL ByR 1 T w B m ys)) (hn : n ≤ 10000) (hm : m ≤ 10000) :
    Calls Tryz.prog 184 #[.slice A n c, .slice B m c2] w fun e w' => ∃ A' c', e = .returned (.slice A' (n + m) c') ∧ OwnL ByR 5 1 w.heap.size (fun _ => True) w' (.slice A' (n + m) c') (n + m) (xs ++ ys) ∧ Below w.heap.size w w' := by
  have HA := Lib.hid (R1.out.alloc ByR.stable (.cells #[] 5))
  go_enter Tryz.func184, Tryz.ntmps184
  go_wp2_with (at_builtin; first | (refine wpList_appL ByR.stable ByR.one sl_by rfl (by exact rfl) (base := w.heap.size) (S := fun _ => True) (n := 0) (xs := []) (by exact rfl) (OwnL.made #[] 0 (Nat.le_refl _) (by unfold maxLen; omega) rfl) (by exact rfl) HA.out (fun _ _ h => h) (by unfold maxLen; omega) (by omega) (by simp only [World.size_alloc]; omega) ?_; intro A1 c1 w1 hc1 own1 hg1 hat1; have hb1 : Below w.heap.size w w1 := ((Below.refl _ _).alloc (Nat.le_refl _) _).grown hg1 (by simp only [World.size_alloc]; omega) (fun k hk => by simp only [Value.ownBlock, Option.some.injEq] at hk; omega); rw [Nat.zero_add, List.nil_append] at own1; have HO1 := Lib.hid own1; have HB1 := Lib.hid hb1; have HR1 := Lib.hid (R2.out.below ByR.stable hb1); clear own1 hb1 hg1 hat1 hc1) | (refine wpList_appL ByR.stable ByR.one sl_by rfl (by exact rfl) (base := w.heap.size) (S := fun _ => True) (n := n) (xs := xs) (by first | exact rfl | (simp; done)) HO1.out (by exact rfl) HR1.out (fun _ _ h => h) (by unfold maxLen; omega) (by omega) HB1.out.size ?_; intro A2 c2' w2 hc2 own2 hg2 hat2; have hb2 := HB1.out.grown hg2 HB1.out.size (fun k hk => (HO1.out.lt k hk).1); have HO2 := Lib.hid own2; have HB2 := Lib.hid hb2; clear own2 hb2 hg2 hat2 hc2))
  go_ret
  exact ⟨A2, c2', rfl, HO2.out, HB2.out⟩
theorem leN_div (i v : Nat) : v / 2 ^ (8 * i) / 256 = v / 2 ^ (8 * (i + 1)) := by
  rw [show 8 * (i + 1) = 8 * i + 8 by omega, Nat.pow_add, Nat.div_div_eq_div_mul]
set_option maxRecDepth 100000 in
set_option maxHeartbeats 4000000 in
theorem rput_any {w : World} {n c k v : Nat} {A : Option Addr} {S : Nat → Prop} {xs : List Nat} (R : Hid (RdL ByR 1 S w A n xs)) (hn : n ≤ 4000) (k8 : k ≤ 8) (hv : v < 18446744073709551616) :
    Calls Tryz.prog 124 #[.slice A n c, .int .i64 (k : Int), .int .u64 (v : Int)] w fun e w' => ∃ A' c', e = .returned (.slice A' (n + k) c') ∧ n + k ≤ c' ∧ RdL ByR 1 (fun j => w.heap.size ≤ j) w' A' (n + k) (xs ++ leN k v) ∧ Below w.heap.size w w' := by
  have q0 : (k : Int) ≤ 8 := by omega
  have HV := Lib.hid hv
  clear hv
  go_enter Tryz.func124, Tryz.ntmps124
  go_wp2_with fail
  go_loopw [2, 7, 8] (fun vn vs vi wr => ∃ (i : Nat) (A : Option Addr) (c' : Nat), i ≤ k ∧ vi = .int .i64 i ∧ vn = .int .u64 ((v / 2 ^ (8 * i) : Nat) : Int) ∧ vs = .slice A i c' ∧ Hid (OwnL ByR 5 1 w.heap.size (fun _ => True) wr (.slice A i c') i (leN i v)) ∧ Hid (Below w.heap.size w wr)) (fun _ _ vi _ => k - (intOf vi).toNat)
  case atStart => exact ⟨0, none, 0, Nat.zero_le _, rfl, by simp, rfl, Lib.hid OwnL.nil_, Lib.hid (Below.refl _ _)⟩
  case round =>
    obtain ⟨i, AO, cO, hi, rfl, rfl, rfl, HO, HB⟩ := hrel
    have p0 : (0 : Int) ≤ (i : Int) := Int.natCast_nonneg _
    by_cases hlt : i < k
    · have p1 : (i : Int) < (k : Int) := by omega
      have HN := Lib.hid (show leN (i + 1) v = leN i v ++ [v / 2 ^ (8 * i) % 256] by rw [leN_next])
      have HD := Lib.hid (leN_div i v)
      have hszr := HB.out.size
      obtain ⟨x, hx⟩ : ∃ x, v / 2 ^ (8 * i) = x := ⟨_, rfl⟩
      have hxv : x < 18446744073709551616 := by rw [← hx]; exact Nat.lt_of_le_of_lt (Nat.div_le_self ..) HV.out
      rw [hx] at HN HD ⊢
      clear hx
      have hy : (x : Int) % 256 = ((x % 256 : Nat) : Int) := by push_cast; rfl
      have hyl : x % 256 < 256 := Nat.mod_lt _ (by omega)
      have hq : IntKind.u64.wrap ((x : Int).tdiv 256) = ((x / 256 : Nat) : Int) := by rw [Int.tdiv_eq_ediv_of_nonneg (by omega), IntKind.wrap_u64]; omega
      obtain ⟨y, hye⟩ : ∃ y, x % 256 = y := ⟨_, rfl⟩
      rw [hye] at hy hyl HN
      clear hye
      go_wp2_with (at_builtin; go_must (refine wpList_push1 ByR.stable ByR.one sl_by (by rfl) (by rfl) (base := w.heap.size) (S := fun _ => True) (cs := #[.int .u8 (y : Int)]) (y := y) (by rfl) (by rfl) HO.out (by rfl) ⟨hyl, rfl⟩ (by unfold maxLen; omega) (by omega) hszr ?_); intro A8 c8 ug hc8 own9 hlt8 hb8 hat8; rw [← HN.out] at own9; have HO9 := Lib.hid own9; have HB9 := Lib.hid (HB.out.trans hb8); clear own9 hb8 hlt8 hat8)
      exact ⟨⟨i + 1, A8, c8, by omega, by go_num, by rw [← HD.out]; rfl, rfl, HO9, HB9⟩, by simp [intOf]; omega⟩
    · have p1 : ¬ (i : Int) < (k : Int) := by omega
      obtain rfl : i = k := by omega
      have hj := rjoin_any (c := c) (c2 := cO) (Lib.hid (R.out.below ByR.stable HB.out)) (Lib.hid (OwnL.rdT (c := cO) HO.out).1) (by omega) (by omega)
      have HJ := Lib.hid hj
      clear hj
      go_wp2_with fail
      refine HJ.out.mono ?_
      clear HJ
      rintro e w2 ⟨A', c', rfl, ho, hb⟩
      have HO2 := Lib.hid (OwnL.rdT ho)
      have HB2 := Lib.hid (HB.out.trans (hb.mono HB.out.size))
      clear ho hb
      go_wp2_with fail
      go_ret
      exact ⟨A', c', rfl, HO2.out.2, HO2.out.1.weaken ByR.stable (fun j hj => Nat.le_trans HB.out.size hj), HB2.out⟩
end Go.Proofs.YtcliejdiaohamaaGreat

set_option linter.unusedSimpArgs false
set_option linter.unusedVariables false
namespace Go.Proofs.YtcliejdiaohamaaGreat
open Go.RowKit Go.Cib
attribute [local go_sem] cell_set Later.cell Later.frozen Grw.cell Grw.frozen
theorem unN_at {xs : List Nat} {a i k : Nat} (hi : i < k) (hk : a + k ≤ xs.length) : unN ((xs.drop (a + i)).take (k - i)) = 256 * unN ((xs.drop (a + (i + 1))).take (k - (i + 1))) + gt xs (a + i) := by
  obtain ⟨d, hd⟩ : ∃ d, k - i = d + 1 := ⟨k - i - 1, by omega⟩
  rw [hd, show k - (i + 1) = d by omega, List.drop_eq_getElem_cons (show a + i < xs.length by omega), List.take_succ_cons]
  show xs[a + i] + 256 * unN ((xs.drop (a + i + 1)).take d) = _
  rw [show a + (i + 1) = a + i + 1 by omega]
  have : gt xs (a + i) = xs[a + i] := by
    unfold gt
    rw [List.getD_eq_getElem?_getD, List.getElem?_eq_getElem (show a + i < xs.length by omega)]; rfl
  rw [this]; omega
theorem unN_part {xs : List Nat} (hb : Byt xs) (a d : Nat) (hd : d ≤ 8) : unN ((xs.drop a).take d) < 2 ^ 64 := by
  have h := unN_lt (l := (xs.drop a).take d) fun x hx => hb x (List.mem_of_mem_drop (List.mem_of_mem_take hx))
  have hl : ((xs.drop a).take d).length ≤ d := by rw [List.length_take]; omega
  exact Nat.lt_of_lt_of_le h (Nat.pow_le_pow_right (by omega) (by omega))
set_option maxRecDepth 100000 in
set_option maxHeartbeats 4000000 in
theorem rget_or {w : World} {n c k : Nat} {z : Int} {A : Option Addr} {S : Nat → Prop} {xs : List Nat} (R : RdL ByR 1 S w A n xs) (hnc : n ≤ c) (hn : n ≤ 4000) (k1 : 1 ≤ k) (k8 : k ≤ 8) :
    Calls Tryz.prog 123 #[.slice A n c, .int .i64 z, .int .i64 (k : Int)] w fun e w' => NgR n xs z k e ∧ w' = w := by
  have hl := R.1
  have q1 : ¬ (k : Int) < 1 := by omega
  have q2 : ¬ (k : Int) > 8 := by omega
  by_cases h0 : z < 0
  · obtain ⟨e1, e2⟩ := ng_out hl (k := k) (Or.inl h0)
    unfold NgR
    rw [e1, e2]
    clear R hl e1 e2
    go_enter Tryz.func123, Tryz.ntmps123
    go_wp2_with fail
    go_ret2
    exact ⟨rfl, rfl⟩
  by_cases h1 : z > (n : Int)
  · obtain ⟨e1, e2⟩ := ng_out hl (k := k) (Or.inr h1)
    unfold NgR
    rw [e1, e2]
    clear R hl e1 e2
    go_enter Tryz.func123, Tryz.ntmps123
    go_wp2_with fail
    go_ret2
    exact ⟨rfl, rfl⟩
  obtain ⟨a, rfl⟩ : ∃ a : Nat, z = a := ⟨z.toNat, by omega⟩
  have hw : IntKind.i64.wrap ((n : Int) - (a : Int)) = (n : Int) - (a : Int) := by rw [IntKind.wrap_i64]; omega
  by_cases h2 : (n : Int) - (a : Int) < (k : Int)
  · obtain ⟨e1, e2⟩ := ng_short hl (z := (a : Int)) (k := k) (by omega) (by omega) (by omega)
    unfold NgR
    rw [e1, e2]
    clear R hl e1 e2
    go_enter Tryz.func123, Tryz.ntmps123
    go_wp2_with fail
    go_ret2
    exact ⟨rfl, rfl⟩
  · obtain ⟨e1, e2⟩ := ng_in hl (a := a) (k := k) (by omega)
    unfold NgR
    rw [e1, e2]
    obtain ⟨b, o, rfl, _, hb⟩ := R.addr (k := 0) (by omega)
    have HR := Lib.hid R
    have HX := Lib.hid hl
    have HBY := Lib.hid (by_byt R)
    have q7 : (a : Int) ≤ 4000 := by omega
    have hwk : IntKind.i64.wrap ((k : Int) - 1) = (k : Int) - 1 := by rw [IntKind.wrap_i64]; omega
    clear R hl e1 e2
    go_enter Tryz.func123, Tryz.ntmps123
    go_wp2_with fail
    clear hw hwk
    go_loopw [8, 9] (fun vn vi wr => ∃ i : Nat, i ≤ k ∧ vi = .int .i64 ((i : Int) - 1) ∧ vn = .int .u64 (unN ((xs.drop (a + i)).take (k - i)) : Nat) ∧ wr = w) (fun _ vi _ => ((intOf vi) + 1).toNat)
    case atStart => exact ⟨k, Nat.le_refl _, rfl, by rw [Nat.sub_self]; rfl, rfl⟩
    case round =>
      obtain ⟨i, hi, rfl, rfl, hwr⟩ := hrel
      rw [hwr]
      clear hwr
      by_cases hlt : 0 < i
      · obtain ⟨j, rfl⟩ : ∃ j, i = j + 1 := ⟨i - 1, by omega⟩
        rw [show ((j + 1 : Nat) : Int) - 1 = (j : Int) by omega]
        have p1 : (j : Int) ≥ 0 := by omega
        have p2 : (j : Int) < 8 := by omega
        obtain ⟨v1, x1⟩ := by_at HR.out (k := a + j) (by omega)
        have HG := Lib.hid (unN_at (xs := xs) (a := a) (i := j) (k := k) (by omega) (by rw [HX.out]; omega))
        have hlim := unN_part HBY.out (a + j) (k - j) (by omega)
        rw [HG.out] at hlim
        obtain ⟨U, hU⟩ : ∃ U, unN ((xs.drop (a + (j + 1))).take (k - (j + 1))) = U := ⟨_, rfl⟩
        obtain ⟨Y, hY⟩ : ∃ Y, gt xs (a + j) = Y := ⟨_, rfl⟩
        have HU := Lib.hid hU
        have HY := Lib.hid hY
        rw [hU] at hlim ⊢
        rw [hY] at hlim v1 x1
        have hm : IntKind.u64.wrap (256 * (U : Int)) = 256 * (U : Int) := by rw [IntKind.wrap_u64]; omega
        have hs : IntKind.u64.wrap (256 * (U : Int) + (Y : Int)) = ((256 * U + Y : Nat) : Int) := by rw [IntKind.wrap_u64]; omega
        clear hU hY
        go_wp2_with fail
        exact ⟨⟨j, by omega, by go_num, by rw [HG.out, HU.out, HY.out]; push_cast; rfl, trivial⟩, by simp [intOf]⟩
      · obtain rfl : i = 0 := by omega
        rw [show ((0 : Nat) : Int) - 1 = -1 by omega]
        have p1 : ¬ (-1 : Int) ≥ 0 := by omega
        go_wp2_with fail
        go_ret2
        exact ⟨rfl, rfl⟩
end Go.Proofs.YtcliejdiaohamaaGreat
