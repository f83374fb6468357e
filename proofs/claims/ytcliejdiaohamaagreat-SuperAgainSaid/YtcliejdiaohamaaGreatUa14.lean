/-
  Heads in a slot: which drive has which head's shard; super.read.
  What lies in cells stays where a loop's body writes its own boxes alone; shard.Get of too few bytes; the shards of a sector, drive by drive.
  The shards of a sector, drive by drive: what the iterator gives.
  The greatest of a sector's shards, by their numbers.
  Which head is the greatest whole one of a slot.
  super.Get: its closure.
  super.Get.
  super.heads: what the iterator gives.
-/
import Derived.Test.YtcliejdiaohamaaGreatUa13
import Derived.RangeFuncNested
import Derived.RangeFuncBound
import Derived.RangeFuncCalls
import Derived.RangeFuncLeaves
import Derived.Shelf.Abstract
import Derived.Shelf.RegionOpen
import Derived.WalkKit
import Derived.OwnWalkIn
import Derived.TacticsInMore
import Derived.LoopNIn
import Derived.LoopIn
import Derived.Sort.LoopGhostIn
import Derived.Maps.OwnIn
set_option linter.unusedSimpArgs false
set_option linter.unusedVariables false
namespace Go.Proofs.YtcliejdiaohamaaGreat
open Go.RowKit Go.Cib
attribute [local go_sem] cell_set Later.cell Later.frozen Grw.cell Grw.frozen
section
structure Hdr where
  p : Nat
  g : Nat
  ct : Nat
  sz : Nat
structure Hdr.ok (h : Hdr) : Prop where
  p : h.p < 65536
  g : Hid (h.g < 2 ^ 64)
  ct : h.ct < 65536
  sz : Hid (h.sz < 4294967296)
def hdT (h : Hdr) : List Nat := nmB (h.p : Int) h.g (h.ct : Int) (h.sz : Int)
def hdC (E : Nat) (h : Hdr) : Array Value := #[.int .u64 (E : Int), .int .i64 (h.p : Int), .int .u64 (h.g : Int), .int .i64 (h.ct : Int), .int .i64 (h.sz : Int)]
def hd0 : Array Value := #[.int .u64 0, .int .i64 0, .int .u64 0, .int .i64 0, .int .i64 0]
def hRef (z E : Nat) : Ref := ⟨1, z, E * 1048576⟩
theorem hdT_len (h : Hdr) : (hdT h).length = 16 := nmB_len _ _ _ _
theorem nmB_byt (p : Int) (g : Nat) (ct sz : Int) : Byt (nmB p g ct sz) := fun x hx => by
  unfold nmB at hx
  rcases List.mem_append.1 hx with hx | hx
  · rcases List.mem_append.1 hx with hx | hx
    · rcases List.mem_append.1 hx with hx | hx
      · exact leN_byt _ _ x hx
      · exact leN_byt _ _ x hx
    · exact leN_byt _ _ x hx
  · exact leN_byt _ _ x hx
theorem hdT_byt (h : Hdr) : Byt (hdT h) := nmB_byt _ _ _ _
theorem hdT_gb {h : Hdr} (hk : h.ok) : gbC 16 0 = 0 ∧ gbV (hdT h) 0 = #[.int .i64 (h.p : Int), .int .u64 (h.g : Int), .int .i64 (h.ct : Int), .int .i64 (h.sz : Int)] := by
  obtain ⟨e1, e2⟩ := gb_nm (xs := []) (n := 0) rfl (h.p : Int) h.g (h.ct : Int) (h.sz : Int) hk.g.out
  have h1 := hk.p
  have h2 := hk.ct
  have h3 := hk.sz.out
  refine ⟨by decide, ?_⟩
  show gbV ([] ++ nmB _ _ _ _) ((0 : Nat) : Int) = _
  rw [e2, Int.emod_eq_of_lt (by omega) (by omega), Int.emod_eq_of_lt (by omega) (by omega), Int.emod_eq_of_lt (by omega) (by omega)]
structure VwS (n k N : Nat) (sts : List DSt) (z : Nat) (o : Nat → Option Nat) (T : Nat → Hdr) : Prop where
  len : sts.length = N
  has : ∀ d st, sts[d]? = some st → ∀ E, o d = some E → HasS k N (hRef z E) (hdT (T E)) d st
  non : ∀ d st, sts[d]? = some st → o d = none → GoodV (st.seen z) ∧ (st.dead = true ∨ st.seen z = rep 0)
  ep : ∀ d E, d < N → o d = some E → E < 1099511627776
  ok : ∀ E, (T E).ok
def hasC (o : Nat → Option Nat) (N E : Nat) : Nat := cntP (fun d => decide (o d = some E)) N
theorem hRef_ok {n z E : Nat} (hz : z < n) : (hRef z E).ok n := ⟨Nat.le_refl 1, by show (1 : Nat) ≤ 4; omega, hz⟩
theorem hRef_g {z E : Nat} (hE : E < 17592186044416) : Hid ((hRef z E).gen < 2 ^ 64) := Lib.hid (by show E * 1048576 < 2 ^ 64; omega)
theorem VwS.view {n k N z : Nat} {sts : List DSt} {o : Nat → Option Nat} {T : Nat → Hdr} (h : VwS n k N sts z o T) (hz : z < n) (hn : n ≤ 600) (hN : 1 ≤ N) (hN2 : N ≤ 255) (E : Nat) :
    ∀ d st, sts[d]? = some st → (decide (o d = some E) = true ∧ HasS k N (hRef z E) (hdT (T E)) d st) ∨ (decide (o d = some E) = false ∧ LostS k (hRef z E) st) := by
  intro d st hst
  have hd : d < N := by rw [← h.len]; exact (List.getElem?_eq_some_iff.1 hst).1
  cases ho : o d with
  | none =>
    obtain ⟨h1, h2⟩ := h.non d st hst ho
    refine .inr ⟨decide_eq_false (by simp), ?_⟩
    rcases h2 with h2 | h2
    · exact lost_dead h2 h1
    · exact lost_zero h2
  | some E' =>
    have hh := h.has d st hst E' ho
    by_cases he : E' = E
    · subst he; exact .inl ⟨decide_eq_true rfl, hh⟩
    · refine .inr ⟨decide_eq_false (fun e => he (Option.some.inj e)), ?_⟩
      have hx := putX_ok (hRef_ok (E := E') hz) hn (hRef_g (z := z) (by have := h.ep d E' hd ho; omega)) (hdT_byt (T E')) (by rw [hdT_len]; decide) hN hN2 (k := k) d
      exact lost_other hx (show kindB 1 = true by decide) (.inr (by show E' * 1048576 ≠ E * 1048576; omega)) hh.2
theorem set5_other {w : World} {q p o : Nat} (hne : ¬ q = p) (v0 v1 v2 v3 v4 : Value) : (((((w.setCell ⟨q, 0, none⟩ v0).setCell ⟨q, 1, none⟩ v1).setCell ⟨q, 2, none⟩ v2).setCell ⟨q, 3, none⟩ v3).setCell ⟨q, 4, none⟩ v4).drew.cell? ⟨p, o, none⟩ = w.cell? ⟨p, o, none⟩ := by
  have hn : ∀ a b : Nat, ¬ (q = p ∧ a = b) := fun _ _ h => hne h.1
  rw [World.cell?_drew, cell_set, if_neg (hn _ _), cell_set, if_neg (hn _ _), cell_set, if_neg (hn _ _), cell_set, if_neg (hn _ _), cell_set, if_neg (hn _ _)]
section
variable {X : Nat → Prop} {w0 w : World} {a cb bf k m n : Nat} {sts : List DSt}
def hrdV (b : Bool) (E : Nat) (h : Hdr) : Array Value := if b = true then hdC E h else hd0
set_option maxRecDepth 100000 in
set_option maxHeartbeats 8000000 in
theorem hread_any (h : SMid w0 w a cb bf k m n sts) {z E : Nat} {o : Nat → Option Nat} {T : Nat → Hdr} (V : VwS n k (k + m) sts z o T) (hz : z < n) (hE : E < 17592186044416) :
    Calls Tryz.prog 72 #[.pointer (some ⟨a, 0, none⟩), .pointer (some ⟨cb, 0, none⟩), .int .i64 (z : Int), .int .u64 ((E * 1048576 : Nat) : Int)] w fun e w' => e = .returned (.tuple #[.agg (hrdV (decide (k ≤ hasC o (k + m) E)) E (T E)), .bool (decide (k ≤ hasC o (k + m) E))]) ∧ Below w.heap.size w w' := by
  have hb0 : Below w.heap.size w (w.alloc (.cells hd0 26)) := (Below.refl _ _).alloc (Nat.le_refl _) _
  have bB := BoxAt.new w hd0 26
  have h1 := h.below hb0
  obtain ⟨w1, hw1⟩ : ∃ w1, w.alloc (.cells hd0 26) = w1 := ⟨_, rfl⟩
  obtain ⟨q, hq⟩ : ∃ q, w.heap.size = q := ⟨_, rfl⟩
  have hq0 : w.heap.size ≤ q := by omega
  rw [hw1] at hb0 bB h1
  rw [hq] at bB
  have HB0 := Lib.hid hb0
  have BB := Lib.hid bB
  have hk1 := h.k1
  have hm1 := h.m1
  have hkm := h.km
  have hgv := get_view (g := fun d => decide (o d = some E)) (xs := hdT (T E)) h1 (hRef_ok (E := E) hz) (hRef_g (z := z) hE) (hdT_byt _) (by rw [hdT_len]; omega) (V.view hz h.n2 (by omega) (by omega) E)
  unfold GotE at hgv
  rw [hdT_len] at hgv
  have hc : cntP (fun d => decide (o d = some E)) (k + m) = hasC o (k + m) E := rfl
  rw [hc] at hgv
  have HGV := Lib.hid hgv
  clear hgv hc hb0 bB h1
  have hmod : ((E * 1048576 : Nat) : Int) % 1048576 = 0 := by omega
  obtain ⟨G, hG⟩ : ∃ G, E * 1048576 = G := ⟨_, rfl⟩
  have hGE : G / 1048576 = E := by omega
  unfold hRef refC at HGV
  rw [hG] at hmod HGV ⊢
  have hbA := hdT_gb (V.ok E)
  have HT16 := Lib.hid (hdT_len (T E))
  unfold hd0 at hw1 BB
  by_cases hle : k ≤ hasC o (k + m) E
  · have e1 : decide (k ≤ hasC o (k + m) E) = true := decide_eq_true hle
    rw [e1]
    have HLE := Lib.hid hle
    clear e1 hle
    have eV : hrdV true E (T E) = hdC E (T E) := rfl
    rw [eV]
    unfold hdC
    clear eV
    obtain ⟨hp, h1⟩ : ∃ x, (T E).p = x := ⟨_, rfl⟩
    obtain ⟨hg, h2⟩ : ∃ x, (T E).g = x := ⟨_, rfl⟩
    obtain ⟨hct, h3⟩ : ∃ x, (T E).ct = x := ⟨_, rfl⟩
    obtain ⟨hsz, h4⟩ : ∃ x, (T E).sz = x := ⟨_, rfl⟩
    rw [h1, h2, h3, h4] at hbA ⊢
    clear h1 h2 h3 h4
    go_enter Tryz.func72, Tryz.ntmps72
    go_wp2_with fail
    refine HGV.out.mono ?_
    clear HGV
    rintro e w2 ⟨hb2, ⟨hlt, _⟩ | ⟨_, A, cp, rfl, hcp, hr2⟩⟩
    · exact absurd hlt (by have := HLE.out; omega)
    have HB2 := Lib.hid (HB0.out.trans (hb2.mono HB0.out.size))
    have BB2 := Lib.hid (BB.out.below hb2)
    have hsg := sgb_any (z := 0) hr2 hcp (by omega)
    unfold GbR at hsg
    rw [hbA.1, hbA.2] at hsg
    clear hb2 hr2 hcp hbA BB HB0 HT16
    go_wp2_with fail
    refine hsg.mono ?_
    clear hsg hw1 hq
    rintro e w3 ⟨rfl, hb3⟩
    have bX := BoxAt.new w3 #[.int .i64 (hp : Int), .int .u64 (hg : Int), .int .i64 (hct : Int), .int .i64 (hsz : Int)] 24
    have hb4 : Below w2.heap.size w2 (w3.alloc (.cells #[.int .i64 (hp : Int), .int .u64 (hg : Int), .int .i64 (hct : Int), .int .i64 (hsz : Int)] 24)) := hb3.alloc hb3.size _
    obtain ⟨w4, hw4⟩ : ∃ w4, w3.alloc (.cells #[.int .i64 (hp : Int), .int .u64 (hg : Int), .int .i64 (hct : Int), .int .i64 (hsz : Int)] 24) = w4 := ⟨_, rfl⟩
    obtain ⟨q12, hq12⟩ : ∃ q12, w3.heap.size = q12 := ⟨_, rfl⟩
    rw [hw4] at bX hb4
    rw [hq12] at bX
    have bB4 := BB2.out.below hb4
    have HB4 := Lib.hid (HB2.out.trans (hb4.mono HB2.out.size))
    have k0 := bB4.cell 0
    have k1 := bB4.cell 1
    have k2 := bB4.cell 2
    have k3 := bB4.cell 3
    have k4 := bB4.cell 4
    have z0 := bB4.frozen 0
    have z1 := bB4.frozen 1
    have z2 := bB4.frozen 2
    have z3 := bB4.frozen 3
    have z4 := bB4.frozen 4
    have x0 : w4.cell? ⟨q12, 0, none⟩ = some (.int .i64 (hp : Int)) := bX.cell 0
    have x1 : w4.cell? ⟨q12, 1, none⟩ = some (.int .u64 (hg : Int)) := bX.cell 1
    have x2 : w4.cell? ⟨q12, 2, none⟩ = some (.int .i64 (hct : Int)) := bX.cell 2
    have x3 : w4.cell? ⟨q12, 3, none⟩ = some (.int .i64 (hsz : Int)) := bX.cell 3
    have hne0 : ¬ q = q12 := fun e => by have := (BB2.out.below (w' := w3) hb3).lt; omega
    have hep := fun w => epoch_any (w := w) (g := G)
    rw [hGE] at hep
    clear hb3 bX hb4 bB4 BB2 HB2
    go_wp2_with fail
    have hne : ¬ q = q12 := hne0
    have d0 : w4.drew.cell? ⟨q12, 0, none⟩ = some (.int .i64 (hp : Int)) := x0
    have d1 : w4.drew.cell? ⟨q12, 1, none⟩ = some (.int .u64 (hg : Int)) := x1
    have d2 : w4.drew.cell? ⟨q12, 2, none⟩ = some (.int .i64 (hct : Int)) := x2
    have d3 : w4.drew.cell? ⟨q12, 3, none⟩ = some (.int .i64 (hsz : Int)) := x3
    refine wp_region_held_drew (S := fun w' => w'.cell? ⟨q12, 0, none⟩ = some (.int .i64 (hp : Int)) ∧ w'.cell? ⟨q12, 1, none⟩ = some (.int .u64 (hg : Int)) ∧ w'.cell? ⟨q12, 2, none⟩ = some (.int .i64 (hct : Int)) ∧ w'.cell? ⟨q12, 3, none⟩ = some (.int .i64 (hsz : Int))) (by kernel_rfl) (by with_reducible first | exact ⟨d0, d1, d2, d3⟩ | exact ⟨(set5_other hne _ _ _ _ _).trans x0, (set5_other hne _ _ _ _ _).trans x1, (set5_other hne _ _ _ _ _).trans x2, (set5_other hne _ _ _ _ _).trans x3⟩) (fun hHeld => ?_)
    refine wpAnyH_take (i := 0) (v := ?_) rfl (by kernel_rfl) (by kernel_rfl) (by kernel_rfl) (fun _ _ _ h => h) (Or.inl ⟨by first | kernel_rfl | rfl, ?_⟩) (by assumption) ?_
    rotate_left
    · (intro wq hSw; (try dsimp only at hSw); (try simp (maxSteps := 2000000) only [zz1, zz2, zz3]); go_simp); try with_reducible rfl
    try simp (maxSteps := 2000000) only [zz1, zz2, zz3, Act.put, zz4, zz5, zz6]
    refine wpAnyH_take (i := 2) (v := ?_) rfl (by kernel_rfl) (by kernel_rfl) (by kernel_rfl) (fun _ _ _ h => h) (Or.inl ⟨by first | kernel_rfl | rfl, ?_⟩) (by assumption) ?_
    rotate_left
    · (intro wq hSw; (try dsimp only at hSw); (try simp (maxSteps := 2000000) only [zz1, zz2, zz3]); go_simp); try with_reducible rfl
    try simp (maxSteps := 2000000) only [zz1, zz2, zz3, Act.put, zz4, zz5, zz6]
    refine wpAnyH_take (i := 4) (v := ?_) rfl (by kernel_rfl) (by kernel_rfl) (by kernel_rfl) (fun _ _ _ h => h) (Or.inl ⟨by first | kernel_rfl | rfl, ?_⟩) (by assumption) ?_
    rotate_left
    · (intro wq hSw; (try dsimp only at hSw); (try simp (maxSteps := 2000000) only [zz1, zz2, zz3]); go_simp); try with_reducible rfl
    try simp (maxSteps := 2000000) only [zz1, zz2, zz3, Act.put, zz4, zz5, zz6]
    refine wpAnyH_take (i := 5) (v := ?_) rfl (by kernel_rfl) (by kernel_rfl) (by kernel_rfl) (fun _ _ _ h => h) (Or.inl ⟨by first | kernel_rfl | rfl, ?_⟩) (by assumption) ?_
    rotate_left
    · (intro wq hSw; (try dsimp only at hSw); (try simp (maxSteps := 2000000) only [zz1, zz2, zz3]); go_simp); try with_reducible rfl
    try simp (maxSteps := 2000000) only [zz1, zz2, zz3, Act.put, zz4, zz5, zz6]
    refine wpAnyH_ready (rs := [1]) (by kernel_rfl) (by simp) ?_
    refine AllReadyH.cons rfl (fun K hK => ?_) AllReadyH.nil
    try simp (maxSteps := 2000000) only [zz1, zz2, zz3]
    go_simp
    go_at_call 80
    refine (hep _).mono ?_
    rintro e w9 ⟨rfl, hw9⟩
    rw [hw9]
    clear hw9
    try (go_wp2_with fail)
    refine hK.out _ _ (by with_reducible first | exact ⟨d0, d1, d2, d3⟩ | exact ⟨(set5_other hne _ _ _ _ _).trans x0, (set5_other hne _ _ _ _ _).trans x1, (set5_other hne _ _ _ _ _).trans x2, (set5_other hne _ _ _ _ _).trans x3⟩) (fun hHeld => ?_)
    clear hK K
    try simp (maxSteps := 2000000) only [zz1, zz2, zz3, Act.put, zz4, zz5, zz6]
    refine wpAnyH_take (i := 3) (v := ?_) rfl (by kernel_rfl) (by kernel_rfl) (by kernel_rfl) (fun _ _ _ h => h) (Or.inl ⟨by first | kernel_rfl | rfl, ?_⟩) (by assumption) ?_
    rotate_left
    · (intro wq hSw; (try dsimp only at hSw); (try simp (maxSteps := 2000000) only [zz1, zz2, zz3]); go_simp); try with_reducible rfl
    try simp (maxSteps := 2000000) only [zz1, zz2, zz3, Act.put, zz4, zz5, zz6]
    refine wpAnyH_ready (rs := [6]) (by kernel_rfl) (by simp) ?_
    refine AllReadyH.cons rfl (fun K hK => ?_) AllReadyH.nil
    try simp (maxSteps := 2000000) only [zz1, zz2, zz3]
    go_simp
    refine hK.out _ _ (by with_reducible first | exact ⟨d0, d1, d2, d3⟩ | exact ⟨(set5_other hne _ _ _ _ _).trans x0, (set5_other hne _ _ _ _ _).trans x1, (set5_other hne _ _ _ _ _).trans x2, (set5_other hne _ _ _ _ _).trans x3⟩) (fun hHeld => ?_)
    clear hK K
    try simp (maxSteps := 2000000) only [zz1, zz2, zz3, Act.put, zz4, zz5, zz6]
    refine wpAnyH_take (i := 7) (v := ?_) rfl (by kernel_rfl) (by kernel_rfl) (by kernel_rfl) (fun _ _ _ h => h) (Or.inl ⟨by first | kernel_rfl | rfl, ?_⟩) (by assumption) ?_
    rotate_left
    · (intro wq hSw; (try dsimp only at hSw); (try simp (maxSteps := 2000000) only [zz1, zz2, zz3]); go_simp); try with_reducible rfl
    try simp (maxSteps := 2000000) only [zz1, zz2, zz3, Act.put, zz4, zz5, zz6]
    refine wpAnyH_done (by kernel_rfl) ?_ _
    clear hHeld d0 d1 d2 d3 x0 x1 x2 x3
    go_wp2_with fail
    refine bodyPost_ret (v := .tuple #[.agg #[.int .u64 (E : Int), .int .i64 (hp : Int), .int .u64 (hg : Int), .int .i64 (hct : Int), .int .i64 (hsz : Int)], .bool true]) (by simp [results, Tryz.results72, go_sem, *]) rfl ?_
    exact ⟨rfl, (((((HB4.out.setCell (p := ⟨q, 0, none⟩) hq0 _).setCell (p := ⟨q, 1, none⟩) hq0 _).setCell (p := ⟨q, 2, none⟩) hq0 _).setCell (p := ⟨q, 3, none⟩) hq0 _).setCell (p := ⟨q, 4, none⟩) hq0 _).drew⟩
  · have e1 : decide (k ≤ hasC o (k + m) E) = false := decide_eq_false hle
    rw [e1]
    have HLE := Lib.hid hle
    clear e1 hle
    go_enter Tryz.func72, Tryz.ntmps72
    go_wp2_with fail
    refine HGV.out.mono ?_
    clear HGV
    rintro e w2 ⟨hb2, ⟨_, rfl⟩ | ⟨hge, _⟩⟩
    rotate_left
    · exact absurd hge HLE.out
    have bB4 := BB.out.below hb2
    have HB4 := Lib.hid (HB0.out.trans (hb2.mono HB0.out.size))
    have k0 := bB4.cell 0
    have k1 := bB4.cell 1
    have k2 := bB4.cell 2
    have k3 := bB4.cell 3
    have k4 := bB4.cell 4
    have z0 := bB4.frozen 0
    have z1 := bB4.frozen 1
    have z2 := bB4.frozen 2
    have z3 := bB4.frozen 3
    have z4 := bB4.frozen 4
    clear hb2 bB4
    go_wp2_with fail
    refine bodyPost_ret (v := .tuple #[.agg #[.int .u64 0, .int .i64 0, .int .u64 0, .int .i64 0, .int .i64 0], .bool false]) (by simp [results, Tryz.results72, go_sem, *]) rfl ?_
    exact ⟨rfl, ((((HB4.out.setCell (p := ⟨q, 0, none⟩) hq0 _).setCell (p := ⟨q, 1, none⟩) hq0 _).setCell (p := ⟨q, 2, none⟩) hq0 _).setCell (p := ⟨q, 3, none⟩) hq0 _).setCell (p := ⟨q, 4, none⟩) hq0 _⟩
end
end
section
open Go.Shelf
theorem RoundIn.anyDepth2 {F : Fence} (hd : F.depth = none) {m m' : Nat} {P : Program} {l : Nat} {f : FuncId} {tmps : Array Value} {assign body : Code} {w : World} {R : Ending → World → Prop}
    (h : RoundIn F m P l f tmps assign body w R) : RoundIn F m' P l f tmps assign body w R := ⟨h.1, fun c cs _ => h.2 c cs (fun d h => by rw [hd] at h; cases h)⟩
theorem YieldAt.anyDepth2 {F : Fence} (hd : F.depth = none) {m : Nat} (m' : Nat) {P : Program} {l : Nat} {args : Array Value} {W : World} {R : Ending → World → Prop} (h : YieldAt F m P l args W R) : YieldAt F m' P l args W R := by
  obtain ⟨fn, tmps, assign, body, hy, hR⟩ := h
  exact ⟨fn, tmps, assign, body, hy, RoundIn.anyDepth2 hd hR⟩
def CellsAt (w : World) (j : Nat) : Prop := ∃ o : Obj, w.heap[j]? = some o ∧ o.isCells = true
/-- A loop's body that writes boxes of F alone, beyond base. -/
structure KpC (F : Nat → Prop) (base : Nat) (W W' : World) : Prop where
  bel : Below base W W'
  same : ∀ (j : Nat) (o : Obj), W.heap[j]? = some o → o.isCells = true → ¬ F j → W'.heap[j]? = some o
theorem KpC.refl (F : Nat → Prop) (base : Nat) (W : World) : KpC F base W W := ⟨Below.refl _ _, fun _ _ h _ _ => h⟩
theorem KpC.trans {F : Nat → Prop} {base : Nat} {A B C : World} (h : KpC F base A B) (k : KpC F base B C) : KpC F base A C := ⟨h.bel.trans k.bel, fun j o h1 h2 h3 => k.same j o (h.same j o h1 h2 h3) h2 h3⟩
theorem KpC.of_below {F : Nat → Prop} {base : Nat} {A B : World} (h : Below A.heap.size A B) (hb : base ≤ A.heap.size) : KpC F base A B := ⟨h.mono hb, fun j o h1 _ _ => (h.block j (Array.getElem?_eq_some_iff.1 h1).1).trans h1⟩
theorem KpC.loop {F : Nat → Prop} {base : Nat} {w : World} (hn : base ≤ w.heap.size) (W : World) (l : Nat) (o o' : Obj) (hl : w.heap.size ≤ l) (h : W.heap[l]? = some o) (hc : o.isCells = false) (hw : o.isWalk = false) : KpC F base W (W.putObj l o') :=
  ⟨belowK_b hn W l o o' hl h hc hw, fun j o2 h1 h2 _ => by
    have hne : j ≠ l := fun e => by subst e; rw [h] at h1; cases h1; rw [hc] at h2; cases h2
    rw [World.putObj_heap_other hne]; exact h1⟩
theorem KpC.set {F : Nat → Prop} {base : Nat} {A B : World} (h : KpC F base A B) {p : Addr} (hp : F p.block) (hb : base ≤ p.block) (v : Value) : KpC F base A (B.setCell p v) :=
  ⟨h.bel.setCell hb v, fun j o h1 h2 h3 => (Below.heap_setCell _ _ _ _ (fun e => h3 (by rw [e]; exact hp))).trans (h.same j o h1 h2 h3)⟩
theorem KpC.alloc {F : Nat → Prop} {base : Nat} {A B : World} (h : KpC F base A B) (hb : base ≤ A.heap.size) (o : Obj) : KpC F base A (B.alloc o) :=
  ⟨h.bel.alloc (Nat.le_trans hb h.bel.size) o, fun j o1 h1 h2 h3 => by
    have := h.same j o1 h1 h2 h3
    exact (Below.heap_alloc _ _ _ (Array.getElem?_eq_some_iff.1 this).1).trans this⟩
theorem KpC.box {F : Nat → Prop} {base : Nat} {W W' : World} (h : KpC F base W W') {b : Nat} {cs : Array Value} (hb : BoxAt W b cs) (hF : ¬ F b) : BoxAt W' b cs := by
  obtain ⟨t, hb⟩ := hb
  exact ⟨t, h.same _ _ hb rfl hF⟩
theorem KpC.size {F : Nat → Prop} {base : Nat} {W W' : World} (h : KpC F base W W') : W.heap.size ≤ W'.heap.size := h.bel.size
theorem CellsAt.lt {w : World} {j : Nat} (h : CellsAt w j) : j < w.heap.size := by
  obtain ⟨o, h, _⟩ := h
  exact (Array.getElem?_eq_some_iff.1 h).1
theorem RdL.cellsR {S : Nat → Prop} {w : World} {A : Option Addr} {n : Nat} {xs : List Nat} (h : RdL ByR 1 S w A n xs) : RdL ByR 1 (fun j => S j ∧ CellsAt w j) w A n xs :=
  ⟨h.1, fun hn => by
    obtain ⟨b, o, hA, hS, hlt, hc⟩ := h.2 hn
    have hl := h.1
    obtain ⟨cs, h1, h2, h3⟩ := hc 0 xs[0] (List.getElem?_eq_getElem (by omega))
    have h4 := h3 0 cs[0] (List.getElem?_eq_getElem (by omega))
    exact ⟨b, o, hA, ⟨hS, cells_of_cell h4⟩, hlt, hc⟩⟩
theorem RdL.cellsB {S : Nat → Prop} {w : World} {A : Option Addr} {n : Nat} {xs : Rws} (h : RdL RowR 1 S w A n xs) : RdL RowR 1 (fun j => S j ∧ CellsAt w j) w A n xs :=
  ⟨h.1, fun hn => by
    obtain ⟨b, o, hA, hS, hlt, hc⟩ := h.2 hn
    have hl := h.1
    obtain ⟨cs, h1, h2, h3⟩ := hc 0 xs[0] (List.getElem?_eq_getElem (by omega))
    have h4 := h3 0 cs[0] (List.getElem?_eq_getElem (by omega))
    refine ⟨b, o, hA, ⟨hS, cells_of_cell h4⟩, hlt, fun i x hx => ?_⟩
    obtain ⟨cs, h1, ⟨A2, m, c, e, hmc, h2⟩, h3⟩ := hc i x hx
    exact ⟨cs, h1, ⟨A2, m, c, e, hmc, RdL.cellsR h2⟩, h3⟩⟩
theorem KpC.rd {F : Nat → Prop} {base : Nat} {W0 W W' : World} (h : KpC F base W W') {T : Type} {R : (Nat → Prop) → World → List Value → T → Prop} (hR : Stable R) {s : Nat} {S : Nat → Prop} {A : Option Addr} {g : Nat} {xs : List T} (r : RdL R s (fun j => S j ∧ CellsAt W j) W A g xs) (hx : ∀ j, S j → ¬ F j) : RdL R s (fun j => S j ∧ CellsAt W' j) W' A g xs :=
  r.stable hR fun b ⟨hS, o, h1, h2⟩ _ => ⟨⟨hS, o, h.same b o h1 h2 (hx b hS), h2⟩, (h.same b o h1 h2 (hx b hS)).trans h1.symm⟩
attribute [local go_sem ↓] shut_loadS shut_zeroS shut_buildS shut_storeS
attribute [local go_sem] run_zeroS run_build0
set_option maxRecDepth 100000 in
set_option maxHeartbeats 8000000 in
theorem shget_bad {w : World} {A : Option Addr} {n c : Nat} (hn : n ≠ 64) : Calls Tryz.prog 149 #[.slice A n c] w fun e w' => e = .returned (.tuple #[.agg (shC sh0), .int .i64 2]) ∧ Below w.heap.size w w' := by
  have f0 : ((n : Int) != 64) = true := by simp; omega
  have b0 := BoxAt.new w (shC sh0) 130
  have hb0 : Below w.heap.size w (w.alloc (.cells (shC sh0) 130)) := (Below.refl _ _).alloc (Nat.le_refl _) _
  obtain ⟨wA, hwA⟩ : ∃ wA, w.alloc (.cells (shC sh0) 130) = wA := ⟨_, rfl⟩
  obtain ⟨p, hp⟩ : ∃ p, w.heap.size = p := ⟨_, rfl⟩
  have hpw : w.heap.size ≤ p := by omega
  rw [hwA] at b0 hb0
  rw [hp] at b0
  have hst := run_storeS (y := sh0) b0 sh0_ok.l sh0_ok.l
  have hb2 := shC_set (y := sh0) b0 sh0_ok.l sh0_ok.l
  have HB0 := Lib.hid hb0
  have HB2 := Lib.hid hb2
  clear b0 hb0 hb2
  go_enter Tryz.func149, Tryz.ntmps149
  go_wp2_with fail
  have hld := run_loadS HB2.out sh0_ok.l
  refine bodyPost_ret (v := .tuple #[.agg (shC sh0), .int .i64 2]) (results_cellS Tryz.results149 _ _ _ _ _ rfl rfl hld) rfl ?_
  exact ⟨rfl, setS_below HB0.out hpw _⟩
set_option maxRecDepth 100000 in
theorem shards_any {w : World} {va : Value} {z : Int} (hv : ∃ p, va = .pointer p) : Calls Tryz.prog 74 #[va, .int .i64 z] w fun e w' => e = .returned (.func (.func 147) #[] #[.pointer (some ⟨w.heap.size, 0, none⟩), .pointer (some ⟨w.heap.size + 1, 0, none⟩)]) ∧ w' = (w.alloc (.cells #[va] 27)).alloc (.cells #[.int .i64 z] 3) := by
  obtain ⟨p, rfl⟩ := hv
  go_enter Tryz.func74, Tryz.ntmps74
  go_wp2_with fail
  go_ret
  exact ⟨by simp, rfl⟩
end
section
open Go.Shelf
attribute [local go_sem] Oper.semAt_some
attribute [local go_sem ↓] shut_loadS shut_zeroS shut_buildS shut_storeS
attribute [local go_sem] run_zeroS run_build0
def decd (z : Nat) (st : DSt) : Option Shd := if st.dead = true then none else if okSum (secN st z) ∧ frmB (secN st z) = true then some (decS (secN st z)) else none
def shL (sts : List DSt) (z : Nat) : List Shd := sts.filterMap (decd z)
abbrev ShK := { x : Shd // x.ok }
theorem row_at4 {S : Nat → Prop} {w : World} {b o n : Nat} {xs : Rws} (h : RdL RowR 1 S w (some ⟨b, o, none⟩) n xs) {i : Nat} (hi : i < n) : ∃ x A m c, xs[i]? = some x ∧ m ≤ c ∧ w.cell? ⟨b, o + i, none⟩ = some (.slice A m c) ∧ RdL ByR 1 S w A m x := by
  obtain ⟨hl, cs, h1, ⟨A, m, c, rfl, hmc, h2⟩, h3⟩ := h.at hi
  have := h3 0 _ rfl
  rw [Nat.mul_one, Nat.add_zero] at this
  exact ⟨_, A, m, c, List.getElem?_eq_getElem hl, hmc, this, h2⟩
/-- A sector's shard, if there is one. -/
theorem shget_dec {w : World} {z : Nat} {st : DSt} {A : Option Addr} {m c : Nat} {S : Nat → Prop} (R : RdL ByR 1 S w A m (readN z st)) (hmc : m ≤ c) (hb : StB st z) (hl : (secN st z).length = 64) :
    Calls Tryz.prog 149 #[.slice A m c] w fun e w' => ∃ y E, e = .returned (.tuple #[.agg (shC y), .int .i64 E]) ∧ y.ok ∧ ((E ≠ 0 ∧ decd z st = none) ∨ (E = 0 ∧ decd z st = some y)) ∧ Below w.heap.size w w' := by
  by_cases hd : st.dead = true
  · have hm : m = 0 := by have := R.1; unfold readN at this; rw [if_pos hd] at this; exact this.symm
    subst hm
    exact (shget_bad (by omega)).mono fun e w' ⟨he, hb⟩ => ⟨sh0, 2, he, sh0_ok, .inl ⟨by decide, by unfold decd; rw [if_pos hd]⟩, hb⟩
  · have e : readN z st = secN st z := by unfold readN; rw [if_neg hd]
    rw [e] at R
    have hm : m = 64 := by have := R.1; omega
    subst hm
    refine (shget_any R hmc).mono ?_
    rintro e w' ⟨hbw, ⟨h1, rfl⟩ | ⟨h1, h2, rfl⟩ | ⟨h1, h2, rfl⟩⟩
    · exact ⟨sh0, 4, rfl, sh0_ok, .inl ⟨by decide, by unfold decd; rw [if_neg hd, if_neg (fun h => h1 h.1)]⟩, hbw⟩
    · exact ⟨sh0, 3, rfl, sh0_ok, .inl ⟨by decide, by unfold decd; rw [if_neg hd, if_neg (fun h => by rw [h2] at h; exact absurd h.2 (by decide))]⟩, hbw⟩
    · exact ⟨decS (secN st z), 0, rfl, decS_ok hl (secN_byt hb), .inr ⟨rfl, by unfold decd; rw [if_neg hd, if_pos ⟨h1, h2⟩]⟩, hbw⟩
section
variable {U : Nat → Prop} {w : World} {a n : Nat} {v : Value} {Fs : Nat → Nat → Prop} {ps : List Nat} {sts : List DSt}
set_option maxRecDepth 100000 in
set_option maxHeartbeats 16000000 in
theorem shards1_in {F : Nat → Prop} {base : Nat} (h : Hid (ArrB U w a v Fs ps n sts)) (hk : 0 < sts.length) (hk2 : sts.length ≤ 600) {z Ba Bz : Nat} (hz : z < n) (hR : Hid (RdOk sts z)) (bA : BoxAt w Ba #[.pointer (some ⟨a, 0, none⟩)]) (bZ : BoxAt w Bz #[.int .i64 (z : Int)]) (hF : Hid (∀ j, F j → j < w.heap.size)) (hbw : base ≤ w.heap.size) (d l : Nat) (J Jx : List ShK → World → Prop)
    (hY : ∀ m pre (x : ShK) W, J pre W → pre.length < (shL sts z).length → YieldAt Fence.wide m Tryz.prog l #[.agg (shC x.1)] W fun e W' => (e = .returned (.bool true) ∧ J (pre ++ [x]) W' ∧ KpC F base W W') ∨ (e = .returned (.bool false) ∧ Jx (pre ++ [x]) W'))
    (hA : ∀ pre W W', J pre W → Below W.heap.size W W' → J pre W') (W : World) (hW : Below w.heap.size w W) (h0 : J [] W) :
    CallsIn Fence.wide d Tryz.prog 147 #[.func (.yield l) #[] #[], .pointer (some ⟨Ba, 0, none⟩), .pointer (some ⟨Bz, 0, none⟩)] W fun e W' => (∃ v, e = .returned v) ∧
      ((∃ q, q.map (·.1) = shL sts z ∧ J q W') ∨ (∃ q, q.map (·.1) <+: shL sts z ∧ Jx q W')) := by
  have k0 := (hW.cell (p := ⟨Ba, 0, none⟩) bA.lt).trans (bA.cell 0)
  have k1 := (hW.cell (p := ⟨Bz, 0, none⟩) bZ.lt).trans (bZ.cell 0)
  have hrow := arown_any (Lib.hid (h.out.below hW)) hk hk2 hz hR
  have HROW := Lib.hid hrow
  have hwz := hW.size
  have HY := Lib.hid hY
  have HA := Lib.hid hA
  have H0 := Lib.hid h0
  clear h hW hY hA h0 hrow bA bZ
  refine callsIn_of_wp Tryz.func147 rfl trivial ?_ rfl
  simp only [Tryz.ntmps147, List.size_toArray, List.length_cons, List.length_nil, Nat.reduceAdd, Nat.reduceSub, Array.replicate_succ, Array.replicate_zero, List.push_toArray, List.append_toArray, List.nil_append, List.cons_append]
  gi_wp2
  refine ⟨trivial, fun h => (by cases h), ?_⟩
  refine (callsIn_wide.2 HROW.out).mono ?_
  clear HROW
  rintro e w1 ⟨ob, rfl, hr1, hb1⟩
  have hr := RdL.cellsB hr1
  have hJ1 := HA.out _ _ _ H0.out hb1
  have HJ1 := Lib.hid hJ1
  have HR1 := Lib.hid hr
  have HSZ := Lib.hid (show w.heap.size ≤ w1.heap.size ∧ base ≤ w1.heap.size from ⟨Nat.le_trans hwz hb1.size, Nat.le_trans hbw (Nat.le_trans hwz hb1.size)⟩)
  have HFr := Lib.hid (show ∀ j, W.heap.size ≤ j → ¬ F j from fun j hj hf => by have := hF.out j hf; omega)
  clear hr hr1 hJ1 hb1 k0 k1 H0 hwz
  obtain ⟨N, hN⟩ : ∃ N, sts.length = N := ⟨_, rfl⟩
  rw [hN] at HR1 hk hk2 ⊢
  have q0 : (N : Int) ≤ 600 := by omega
  have HN := Lib.hid hN
  gi_wp2
  try go_frame
  clear hN
  gi_loopg [12] N (fun g vi wr => ∃ (i : Nat) (pre : List ShK), i + g = N ∧ vi = .int .i64 i ∧ pre.map (·.1) = shL (sts.take i) z ∧ Hid (J pre wr) ∧ Hid (KpC F base w1 wr))
  case atStart => exact ⟨0, [], by omega, rfl, rfl, HJ1, Lib.hid (KpC.refl _ _ _)⟩
  case round =>
    obtain ⟨i, pre, hi, rfl, hpre, HJ, HK⟩ := hrel
    have p0 : (0 : Int) ≤ (i : Int) := Int.natCast_nonneg _
    by_cases hlt : i < N
    · have p1 : (i : Int) < (N : Int) := by omega
      have hrW := HK.out.rd (W0 := w1) RowR.stable HR1.out (fun j hj => HFr.out j hj)
      obtain ⟨x, A, m, c, hx, hmc, v1, hrx⟩ := row_at4 hrW hlt
      rw [Nat.zero_add] at v1
      obtain ⟨st, hst⟩ : ∃ st, sts[i]? = some st := ⟨_, List.getElem?_eq_getElem (by rw [HN.out]; exact hlt)⟩
      rw [List.getElem?_map, hst] at hx
      obtain rfl : readN z st = x := Option.some.inj hx
      have hmem := List.mem_of_getElem? hst
      have hget := shget_dec hrx hmc (hR.out.b st hmem) (hR.out.l st hmem)
      have htk : sts.take (i + 1) = sts.take i ++ [st] := by rw [List.take_add_one, hst]; rfl
      have hsh : shL (sts.take (i + 1)) z = shL (sts.take i) z ++ (decd z st).toList := by
        unfold shL
        rw [htk, List.filterMap_append]
        cases hdd : decd z st <;> simp [hdd]
      have hlen : (shL (sts.take (i + 1)) z).length ≤ (shL sts z).length := by
        unfold shL
        conv => rhs; rw [← List.take_append_drop (i + 1) sts]
        rw [List.filterMap_append, List.length_append]; omega
      have HGET := Lib.hid hget
      have HSH := Lib.hid hsh
      have HLEN := Lib.hid hlen
      have HPRE := Lib.hid hpre
      clear hrW hrx hmc hst hx hmem hget htk hsh hlen hpre
      gi_wp2
      refine ⟨trivial, fun h => (by cases h), ?_⟩
      refine (callsIn_wide.2 HGET.out).mono ?_
      clear HGET
      rintro e w3 ⟨y, E, rfl, hy, hcase, hb3⟩
      have hyl := hy.l
      have hst := run_storeS (y := y) (BoxAt.new w3 (shC sh0) 130) sh0_ok.l hyl
      have bQ := shC_set (y := y) (BoxAt.new w3 (shC sh0) 130) sh0_ok.l hyl
      have hw4 := setS_below (hb3.alloc hb3.size (.cells (shC sh0) 130)) (p := w3.heap.size) hb3.size (shV y)
      obtain ⟨W4, hW4⟩ : ∃ W, (w3.alloc (.cells (shC sh0) 130)).setCells w3.heap.size 0 (shV y) = W := ⟨_, rfl⟩
      rw [hW4] at hst bQ hw4
      obtain ⟨q, hq⟩ : ∃ q, w3.heap.size = q := ⟨_, rfl⟩
      rw [hq] at hst bQ
      have hld := run_loadS bQ hyl
      have hJ4 := HA.out _ _ _ HJ.out hw4
      have HK4 := Lib.hid (HK.out.trans (KpC.of_below hw4 (Nat.le_trans HSZ.out.2 HK.out.size)))
      have HJ4 := Lib.hid hJ4
      have HY' := Lib.hid hy
      clear hb3 hw4 bQ hJ4 HJ HK hy
      rcases hcase with ⟨hE, hdn⟩ | ⟨rfl, hds⟩
      · have g0 : (E == 0) = false := by simpa using hE
        have hnx : pre.map (·.1) = shL (sts.take (i + 1)) z := by rw [HSH.out, hdn, HPRE.out]; simp
        have HNX := Lib.hid hnx
        clear hdn hnx hE
        gi_wp2
        refine ⟨fun _ h => (by cases h), ?_⟩
        gi_wp2
        gi_roundg (N - (i + 1))
        case measure => omega
        case rel => exact ⟨i + 1, pre, by omega, by go_num, HNX.out, HJ4, HK4⟩
      · have hpl : pre.length < (shL sts z).length := by
          have h1 := HLEN.out
          rw [HSH.out, hds, List.length_append] at h1
          have h2 : (pre.map (·.1)).length = pre.length := List.length_map _
          rw [HPRE.out] at h2
          simp at h1; omega
        have hnx : (pre ++ [(⟨y, HY'.out⟩ : ShK)]).map (·.1) = shL (sts.take (i + 1)) z := by rw [HSH.out, hds, List.map_append, HPRE.out]; simp
        obtain ⟨fn, tmps, assign, body, hy, hR2⟩ := HY.out (d - 1) pre ⟨y, HY'.out⟩ W4 HJ4.out hpl
        have HRR := Lib.hid hR2
        have HNX := Lib.hid hnx
        clear hds hnx hR2 hpl
        gi_wp2
        refine ⟨fun h => (by cases h), ?_⟩
        refine HRR.out.mono ?_
        clear HRR
        rintro e W5 (⟨rfl, hJ5, hk5⟩ | ⟨rfl, hx5⟩)
        · have HJ5 := Lib.hid hJ5
          have HK5 := Lib.hid (HK4.out.trans hk5)
          clear hJ5 hk5
          gi_wp2
          gi_roundg (N - (i + 1))
          case measure => omega
          case rel => exact ⟨i + 1, pre ++ [⟨y, HY'.out⟩], by omega, by go_num, HNX.out, HJ5, HK5⟩
        · have HX5 := Lib.hid hx5
          clear hx5
          gi_wp2
          refine bodyPost_ret (results_none rfl _ _ _) rfl ?_
          refine ⟨⟨_, rfl⟩, .inr ⟨_, ?_, HX5.out⟩⟩
          rw [HNX.out]
          unfold shL
          conv => rhs; rw [← List.take_append_drop (i + 1) sts, List.filterMap_append]
          exact List.prefix_append _ _
    · have p1 : ¬ (i : Int) < (N : Int) := by omega
      have hq : pre.map (·.1) = shL sts z := by rw [hpre, List.take_of_length_le (by rw [HN.out]; omega)]
      have HQ := Lib.hid hq
      clear hq hpre
      gi_wp2
      go_end0
      exact ⟨⟨_, rfl⟩, .inl ⟨pre, HQ.out, HJ.out⟩⟩
end
end
section
open Go.Shelf
attribute [local go_sem] Oper.semAt_some
attribute [local go_sem ↓] shut_loadS shut_zeroS shut_buildS shut_storeS
attribute [local go_sem] run_zeroS run_build0
/-- The better one of what is best so far and another one. -/
def gstep {α : Type} (num : α → Nat × Bool) (b : Option α) (x : α) : Option α := if (num x).2 = true ∧ (∀ y, b = some y → (num y).1 < (num x).1) then some x else b
def gbest {α : Type} (num : α → Nat × Bool) (l : List α) : Option α := l.foldl (gstep num) none
theorem gbest_snoc {α : Type} (num : α → Nat × Bool) (l : List α) (x : α) : gbest num (l ++ [x]) = gstep num (gbest num l) x := by unfold gbest; rw [List.foldl_append]; rfl
def bstS (b : Option ShK) : Shd := match b with | some x => x.1 | none => sh0
theorem bstS_len (b : Option ShK) : (bstS b).body.length = 44 := by
  cases b with
  | none => exact sh0_ok.l
  | some x => exact x.2.l
def bstN {α : Type} (num : α → Nat × Bool) (b : Option α) : Nat := match b with | some x => (num x).1 | none => 0
structure GrI (num : ShK → Nat × Bool) (w : World) (bs : Nat) (fv : Value) (pre : List ShK) (W : World) : Prop where
  low : Below w.heap.size w W
  fn : BoxAt W bs #[fv]
  res : BoxAt W (bs + 1) (shC sh0)
  best : BoxAt W (bs + 2) (shC (bstS (gbest num pre)))
  most : BoxAt W (bs + 3) #[.int .u64 (bstN num (gbest num pre) : Int)]
  fnd : BoxAt W (bs + 4) #[.bool (gbest num pre).isSome]
theorem BoxAt.notcellsS {w : World} {b : Nat} {cs : Array Value} (h : BoxAt w b cs) {r : Nat} {o : Obj} (ho : w.heap[r]? = some o) (hn : o.isCells = false) : b ≠ r := fun e => by
  subst e
  obtain ⟨t, h⟩ := h
  rw [h] at ho
  cases ho
  cases hn
theorem BoxAt.grownS {W W' : World} {b : Nat} {cs : Array Value} {row : Option Nat} (h : BoxAt W b cs) (hg : W.grownBy W' row) (hr : ∀ r, row = some r → ∃ o : Obj, W.heap[r]? = some o ∧ o.isCells = false) : BoxAt W' b cs :=
  h.keep (hg.block b h.lt fun e => by obtain ⟨o, h1, h2⟩ := hr _ e.symm; exact BoxAt.notcellsS h h1 h2 rfl)
theorem GrI.grown {num : ShK → Nat × Bool} {w W W' : World} {bs : Nat} {fv : Value} {pre : List ShK} {row : Option Nat} (h : GrI num w bs fv pre W) (hg : W.grownBy W' row) (hr : ∀ r, row = some r → w.heap.size ≤ r ∧ ∃ o : Obj, W.heap[r]? = some o ∧ o.isCells = false) : GrI num w bs fv pre W' :=
  ⟨h.low.grown hg h.low.size (fun k e => (hr k e).1), BoxAt.grownS h.fn hg (fun r e => (hr r e).2), BoxAt.grownS h.res hg (fun r e => (hr r e).2), BoxAt.grownS h.best hg (fun r e => (hr r e).2), BoxAt.grownS h.most hg (fun r e => (hr r e).2), BoxAt.grownS h.fnd hg (fun r e => (hr r e).2)⟩
theorem GrI.below {num : ShK → Nat × Bool} {w W W' : World} {bs : Nat} {fv : Value} {pre : List ShK} (h : GrI num w bs fv pre W) (hb : Below W.heap.size W W') : GrI num w bs fv pre W' :=
  h.grown (row := none) ⟨hb.os, hb.tape, hb.output, hb.size, fun k hk _ => hb.block k hk⟩ (fun r e => by cases e)
theorem kf_below {B : Nat} {W W' : World} (hb : Below W.heap.size W W') : KeepsFrom B W W' := KeepsFrom.of_grownBy (row := none) ⟨hb.os, hb.tape, hb.output, hb.size, fun k hk _ => hb.block k hk⟩ (fun r e => by cases e)
theorem gstep_no {α : Type} {num : α → Nat × Bool} {b : Option α} {x : α} (h : ¬ ((num x).2 = true ∧ (b = none ∨ bstN num b < (num x).1))) : gstep num b x = b := by
  unfold gstep
  rw [if_neg]
  rintro ⟨h1, h2⟩
  refine h ⟨h1, ?_⟩
  cases b with
  | none => exact .inl rfl
  | some y => exact .inr (h2 y rfl)
theorem gstep_yes {α : Type} {num : α → Nat × Bool} {b : Option α} {x : α} (h1 : (num x).2 = true) (h : b = none ∨ bstN num b < (num x).1) : gstep num b x = some x := by
  unfold gstep
  refine if_pos ⟨h1, fun y hy => ?_⟩
  rw [hy] at h
  rcases h with h | h
  · cases h
  · exact h
section
variable {U : Nat → Prop} {w : World} {a n : Nat} {v : Value} {Fs : Nat → Nat → Prop} {ps : List Nat} {sts : List DSt}
set_option maxRecDepth 100000 in
set_option maxHeartbeats 16000000 in
theorem greatS_any (h : Hid (ArrB U w a v Fs ps n sts)) (hk : 0 < sts.length) (hk2 : sts.length ≤ 600) {z Ba Bz : Nat} (hz : z < n) (hR : Hid (RdOk sts z)) (bA : BoxAt w Ba #[.pointer (some ⟨a, 0, none⟩)]) (bZ : BoxAt w Bz #[.int .i64 (z : Int)]) {gf : FuncId} {lb : Array Value} (num : ShK → Nat × Bool)
    (hgf : Hid (∀ args w, (callFunc gf args).run Tryz.prog w = .ok (.enter gf args) w))
    (hnum : Hid (∀ (x : ShK) W, Below w.heap.size w W → Calls Tryz.prog gf (#[.agg (shC x.1)] ++ lb) W fun e W' => e = .returned (.tuple #[.int .u64 ((num x).1 : Int), .bool (num x).2]) ∧ Below W.heap.size W W')) :
    Calls Tryz.prog 73 #[.func (.func 147) #[] #[.pointer (some ⟨Ba, 0, none⟩), .pointer (some ⟨Bz, 0, none⟩)], .func (.func gf) #[] lb] w fun e w' => ∃ q : List ShK, q.map (·.1) = shL sts z ∧ e = .returned (.tuple #[.agg (shC (bstS (gbest num q))), .bool (gbest num q).isSome]) ∧ Below w.heap.size w w' := by
  refine (callsIn_wide (n := 8)).1 ?_
  refine callsIn_of_wp_marks Tryz.func73 rfl trivial ?_ rfl
  simp only [Tryz.ntmps73, List.size_toArray, List.length_cons, List.length_nil, Nat.reduceAdd, Nat.reduceSub, Array.replicate_succ, Array.replicate_zero, List.push_toArray, List.append_toArray, List.nil_append, List.cons_append]
  have B0 := BoxAt.new w #[.func (.func gf) #[] lb] 133
  have b0 : Below w.heap.size w (w.alloc (.cells #[.func (.func gf) #[] lb] 133)) := (Below.refl _ _).alloc (Nat.le_refl _) _
  have s0 := World.size_alloc w (.cells #[.func (.func gf) #[] lb] 133)
  obtain ⟨w1, hw1⟩ : ∃ w1, w.alloc (.cells #[.func (.func gf) #[] lb] 133) = w1 := ⟨_, rfl⟩
  rw [hw1] at B0 b0 s0
  have B1 := BoxAt.new w1 (shC sh0) 130
  have b1 := b0.alloc b0.size (.cells (shC sh0) 130)
  have s1 := World.size_alloc w1 (.cells (shC sh0) 130)
  replace B0 := B0.alloc (.cells (shC sh0) 130)
  obtain ⟨w2, hw2⟩ : ∃ w2, w1.alloc (.cells (shC sh0) 130) = w2 := ⟨_, rfl⟩
  rw [hw2] at B0 B1 b1 s1
  have B2 := BoxAt.new w2 (shC sh0) 130
  have b2 := b1.alloc b1.size (.cells (shC sh0) 130)
  have s2 := World.size_alloc w2 (.cells (shC sh0) 130)
  replace B0 := B0.alloc (.cells (shC sh0) 130)
  replace B1 := B1.alloc (.cells (shC sh0) 130)
  obtain ⟨w3, hw3⟩ : ∃ w3, w2.alloc (.cells (shC sh0) 130) = w3 := ⟨_, rfl⟩
  rw [hw3] at B0 B1 B2 b2 s2
  have B3 := BoxAt.new w3 #[.int .u64 0] 22
  have b3 := b2.alloc b2.size (.cells #[.int .u64 0] 22)
  have s3 := World.size_alloc w3 (.cells #[.int .u64 0] 22)
  replace B0 := B0.alloc (.cells #[.int .u64 0] 22)
  replace B1 := B1.alloc (.cells #[.int .u64 0] 22)
  replace B2 := B2.alloc (.cells #[.int .u64 0] 22)
  obtain ⟨w4, hw4⟩ : ∃ w4, w3.alloc (.cells #[.int .u64 0] 22) = w4 := ⟨_, rfl⟩
  rw [hw4] at B0 B1 B2 B3 b3 s3
  have B4 := BoxAt.new w4 #[.bool false] 4
  have b4 := b3.alloc b3.size (.cells #[.bool false] 4)
  have s4 := World.size_alloc w4 (.cells #[.bool false] 4)
  replace B0 := B0.alloc (.cells #[.bool false] 4)
  replace B1 := B1.alloc (.cells #[.bool false] 4)
  replace B2 := B2.alloc (.cells #[.bool false] 4)
  replace B3 := B3.alloc (.cells #[.bool false] 4)
  obtain ⟨w5, hw5⟩ : ∃ w5, w4.alloc (.cells #[.bool false] 4) = w5 := ⟨_, rfl⟩
  rw [hw5] at B0 B1 B2 B3 B4 b4 s4
  obtain ⟨bs, hbs⟩ : ∃ bs, w.heap.size = bs := ⟨_, rfl⟩
  have e1 : w1.heap.size = bs + 1 := by omega
  have e2 : w2.heap.size = bs + 1 + 1 := by omega
  have e3 : w3.heap.size = bs + 1 + 1 + 1 := by omega
  have e4 : w4.heap.size = bs + 1 + 1 + 1 + 1 := by omega
  have HS := Lib.hid (show w.heap.size = bs ∧ w5.heap.size = bs + 5 by omega)
  rw [hbs] at B0
  rw [e1] at B1
  rw [e2] at B2
  rw [e3] at B3
  rw [e4] at B4
  have k3 := B3.cell 0
  have k4 := B4.cell 0
  have f3 := B3.frozen 0
  have f4 := B4.frozen 0
  have C0 := (B0.set_other (p := ⟨bs + 1 + 1 + 1, 0, none⟩) (show bs ≠ bs + 1 + 1 + 1 by omega) (.int .u64 0)).set_other (p := ⟨bs + 1 + 1 + 1 + 1, 0, none⟩) (show bs ≠ bs + 1 + 1 + 1 + 1 by omega) (.bool false)
  have C1 := (B1.set_other (p := ⟨bs + 1 + 1 + 1, 0, none⟩) (show bs + 1 ≠ bs + 1 + 1 + 1 by omega) (.int .u64 0)).set_other (p := ⟨bs + 1 + 1 + 1 + 1, 0, none⟩) (show bs + 1 ≠ bs + 1 + 1 + 1 + 1 by omega) (.bool false)
  have C2 := (B2.set_other (p := ⟨bs + 1 + 1 + 1, 0, none⟩) (show bs + 1 + 1 ≠ bs + 1 + 1 + 1 by omega) (.int .u64 0)).set_other (p := ⟨bs + 1 + 1 + 1 + 1, 0, none⟩) (show bs + 1 + 1 ≠ bs + 1 + 1 + 1 + 1 by omega) (.bool false)
  have C3 := (B3.set 0 (.int .u64 0)).set_other (p := ⟨bs + 1 + 1 + 1 + 1, 0, none⟩) (show bs + 1 + 1 + 1 ≠ bs + 1 + 1 + 1 + 1 by omega) (.bool false)
  have C4 := (B4.set_other (p := ⟨bs + 1 + 1 + 1, 0, none⟩) (show bs + 1 + 1 + 1 + 1 ≠ bs + 1 + 1 + 1 by omega) (.int .u64 0)).set 0 (.bool false)
  have c5 := (b4.setCell (p := ⟨bs + 1 + 1 + 1, 0, none⟩) (show w.heap.size ≤ bs + 1 + 1 + 1 by omega) (.int .u64 0)).setCell (p := ⟨bs + 1 + 1 + 1 + 1, 0, none⟩) (show w.heap.size ≤ bs + 1 + 1 + 1 + 1 by omega) (.bool false)
  obtain ⟨w6, hw6⟩ : ∃ w6, (w5.setCell ⟨bs + 1 + 1 + 1, 0, none⟩ (.int .u64 0)).setCell ⟨bs + 1 + 1 + 1 + 1, 0, none⟩ (.bool false) = w6 := ⟨_, rfl⟩
  have s6 : w6.heap.size = bs + 5 := by rw [← hw6, World.size_setCell, World.size_setCell]; omega
  rw [hw6] at C0 C1 C2 C3 C4 c5
  have HS := Lib.hid (show w.heap.size = bs ∧ w6.heap.size = bs + 5 from ⟨hbs, s6⟩)
  have HI0 : Hid (GrI num w bs (.func (.func gf) #[] lb) [] w6) := Lib.hid ⟨c5, C0, C1, C2, C3, C4⟩
  have HB6 := Lib.hid c5
  clear C0 C1 C2 C3 C4 c5 s6
  clear B0 B1 B2 B3 B4 b0 b1 b2 b3 b4 s0 s1 s2 s3 s4
  gi_wp2
  clear hw1 hw2 hw3 hw4 hw5 k3 k4 f3 f4 hw6 e1 e2 e3 e4 hbs
  have hsz : w.heap.size ≤ w6.heap.size := HB6.out.size
  refine wpIn_rangeFunc_ownH (α := ShK) rfl (by omega) (gf := 147) (lb := #[.pointer (some ⟨Ba, 0, none⟩), .pointer (some ⟨Bz, 0, none⟩)]) rfl trivial (enters_of Tryz.func147 (by kernel_rfl) rfl)
    (encs := fun x => #[.agg (shC x.1)]) (Kp := KpC (fun j => j = bs + 2 ∨ j = bs + 3 ∨ j = bs + 4) w.heap.size) (S := fun q => q.map (·.1) = shL sts z) (Sp := fun q => q.map (·.1) <+: shL sts z) (N := (shL sts z).length) (w0 := w6)
    (fun lp J Jx W hW hJ hJx hY h0 => shards1_in (w := w6) (Lib.hid (h.out.below (HB6.out.mono (Nat.le_refl _)))) hk hk2 hz hR (bA.below HB6.out) (bZ.below HB6.out) (Lib.hid (fun j hj => by have := HS.out; omega)) hsz _ lp J Jx (fun m pre x W1 h1 h2 => YieldAt.anyDepth2 rfl m (hY pre x W1 h1 h2))
      (fun pre W1 W2 h1 h2 => hJ pre W1 W2 none h1 ⟨h2.os, h2.tape, h2.output, h2.size, fun k hk _ => h2.block k hk⟩ (fun r e => by cases e)) W hW h0)
    KpC.trans (KpC.loop hsz) (Below.refl _ _) (fun _ => rfl)
    (GrI num w bs (.func (.func gf) #[] lb)) (fun _ _ _ => False)
    (fun s W W' row hs hg hr => hs.grown hg (fun r e => ⟨Nat.le_trans hsz (hr r e).1, (hr r e).2⟩))
    (fun c s W W' row hs hg hr => hs)
    HI0.out
    (fun x a' W => ∃ Bx, bs + 5 ≤ Bx ∧ BoxAt W Bx (shC x.1) ∧ a' = { tmps := #[.func (.func 147) #[] #[.pointer (some ⟨Ba, 0, none⟩), .pointer (some ⟨Bz, 0, none⟩)], .func (.func gf) #[] lb, undef, .pointer (some ⟨bs, 0, none⟩), .pointer (some ⟨bs + 1, 0, none⟩), .bool false, .pointer (some ⟨bs + 1 + 1, 0, none⟩), .pointer (some ⟨bs + 1 + 1 + 1, 0, none⟩), .pointer (some ⟨bs + 1 + 1 + 1 + 1, 0, none⟩), .pointer (some ⟨Bx, 0, none⟩), undef, undef, .func (.func 147) #[] #[.pointer (some ⟨Ba, 0, none⟩), .pointer (some ⟨Bz, 0, none⟩)], .agg (shC x.1), undef, undef, undef, undef, undef, undef, undef, undef, undef, undef, undef, undef, undef, undef, undef, undef, undef, undef, undef, undef], defers := [] })
    (fun x a' s W W' row ⟨Bx, h1, h2, h3⟩ hg hr => ⟨Bx, h1, BoxAt.grownS h2 hg (fun r e => (hr r e).2), h3⟩)
    ?assign ?body ?done ?stop
  case assign =>
    rintro lp pre x W K hI hK
    have hyl := x.2.l
    have hlow := hI.low.size
    have hst := run_storeS (y := x.1) (BoxAt.new W (shC sh0) 130) sh0_ok.l hyl
    have bQ := shC_set (y := x.1) (BoxAt.new W (shC sh0) 130) sh0_ok.l hyl
    have hb5 : bs + 5 ≤ W.heap.size := by have := hI.fnd.lt; omega
    have hw4 := setS_below (((Below.refl _ W)).alloc (Nat.le_refl _) (.cells (shC sh0) 130)) (p := W.heap.size) (Nat.le_refl _) (shV x.1)
    have hko := (KeepsOthers.alloc W (.cells (shC sh0) 130))
    have HI1 := Lib.hid hI
    have HKO := Lib.hid hko
    clear hI hko
    gi_wp2
    exact hK _ _ (kf_below hw4) (KpC.of_below hw4 hlow) (HI1.out.below hw4) ⟨W.heap.size, hb5, bQ, rfl⟩
  case body =>
    rintro lp pre x a' W hl hr hI ⟨Bx, hBx, bX, rfl⟩ hlt
    have c0 := hI.fn.cell 0
    have hld := run_loadS bX x.2.l
    have hlow := hI.low
    have hcall := hnum.out x W hlow
    have g1 := hgf.out
    have HI1 := Lib.hid hI
    have BX := Lib.hid bX
    obtain ⟨b, hb⟩ : ∃ b, gbest num pre = b := ⟨_, rfl⟩
    have HBE := Lib.hid hb
    obtain ⟨nx, hnx⟩ : ∃ nx, num x = nx := ⟨_, rfl⟩
    have HNX := Lib.hid hnx
    rw [hnx] at hcall
    obtain ⟨nv, nb⟩ := nx
    have HCALL := Lib.hid hcall
    clear hI bX hlt hr hb hnx hcall
    gi_wp2
    refine ⟨trivial, ?_⟩
    refine (CallsIn.inRound lp (callsIn_wide.2 HCALL.out)).mono ?_
    clear HCALL
    rintro e W2 ⟨rfl, hb2⟩
    have hI2 := HI1.out.below hb2
    have bX2 := BX.out.below hb2
    have hbe := hI2.best
    have hmo := hI2.most
    have hfo := hI2.fnd
    rw [HBE.out] at hbe hmo hfo
    have k3 : W2.cell? ⟨bs + 1 + 1 + 1, 0, none⟩ = some (.int .u64 (bstN num b : Int)) := hmo.cell 0
    have k4 : W2.cell? ⟨bs + 1 + 1 + 1 + 1, 0, none⟩ = some (.bool b.isSome) := hfo.cell 0
    have hsn := gbest_snoc num pre x
    rw [HBE.out] at hsn
    have hlow2 := hI2.low.size
    by_cases hyes : nb = true ∧ (b = none ∨ bstN num b < nv)
    · obtain ⟨rfl, hor⟩ := hyes
      rw [gstep_yes (by rw [HNX.out]) (by rw [HNX.out]; exact hor)] at hsn
      have HSN := Lib.hid hsn
      have f3 := hmo.frozen 0
      have f4 := hfo.frozen 0
      have hst := run_storeS (y := x.1) hbe (bstS_len b) x.2.l
      have hld2 := run_loadS bX2 x.2.l
      have d2 := shC_set (y := x.1) hbe (bstS_len b) x.2.l
      have HI2 := Lib.hid hI2
      have HB2 := Lib.hid hb2
      have HHM := Lib.hid hmo
      have HHF := Lib.hid hfo
      have hm5 := hmo.keep (setCells_other W2 (bs + 2) 0 (bs + 3) (shV x.1) (by omega))
      have hf5 := hfo.keep (setCells_other W2 (bs + 2) 0 (bs + 4) (shV x.1) (by omega))
      have hr5 := hI2.res.keep (setCells_other W2 (bs + 2) 0 (bs + 1) (shV x.1) (by omega))
      have hn5 := hI2.fn.keep (setCells_other W2 (bs + 2) 0 bs (shV x.1) (by omega))
      have hw5 := setS_below (Below.refl w.heap.size W2) (p := bs + 2) (by have := HS.out; omega) (shV x.1)
      have hs5 : (W2.setCells (bs + 2) 0 (shV x.1)).heap.size = W2.heap.size := by
        have : ∀ (vs : List Value) (o : Nat) (w : World), (w.setCells (bs + 2) o vs).heap.size = w.heap.size := by
          intro vs
          induction vs with
          | nil => intro o w; rfl
          | cons v vs ih => intro o w; show ((w.setCell _ v).setCells _ _ vs).heap.size = _; rw [ih, World.size_setCell]
        exact this _ _ _
      obtain ⟨W5, hW5⟩ : ∃ W5, W2.setCells (bs + 2) 0 (shV x.1) = W5 := ⟨_, rfl⟩
      have hst' : (shutStore 130 ⟨bs + 1 + 1, 0, none⟩ (.agg (shC x.1))).run Tryz.prog W2 = .ok () W5 := by rw [← hW5]; exact hst
      rw [hW5] at d2 hm5 hf5 hr5 hn5 hw5 hs5
      have y3 : W5.cell? ⟨bs + 1 + 1 + 1, 0, none⟩ = some (.int .u64 (bstN num b : Int)) := hm5.cell 0
      have y4 : W5.cell? ⟨bs + 1 + 1 + 1 + 1, 0, none⟩ = some (.bool b.isSome) := hf5.cell 0
      have z3 : W5.frozen? ⟨bs + 1 + 1 + 1, 0, none⟩ = false := hm5.frozen 0
      have z4 : W5.frozen? ⟨bs + 1 + 1 + 1 + 1, 0, none⟩ = false := hf5.frozen 0
      have C0 := (hn5.set_other (p := ⟨bs + 1 + 1 + 1, 0, none⟩) (show bs ≠ bs + 1 + 1 + 1 by omega) (.int .u64 (nv : Int))).set_other (p := ⟨bs + 1 + 1 + 1 + 1, 0, none⟩) (show bs ≠ bs + 1 + 1 + 1 + 1 by omega) (.bool true)
      have C1 := (hr5.set_other (p := ⟨bs + 1 + 1 + 1, 0, none⟩) (show bs + 1 ≠ bs + 1 + 1 + 1 by omega) (.int .u64 (nv : Int))).set_other (p := ⟨bs + 1 + 1 + 1 + 1, 0, none⟩) (show bs + 1 ≠ bs + 1 + 1 + 1 + 1 by omega) (.bool true)
      have C2 := (d2.set_other (p := ⟨bs + 1 + 1 + 1, 0, none⟩) (show bs + 2 ≠ bs + 1 + 1 + 1 by omega) (.int .u64 (nv : Int))).set_other (p := ⟨bs + 1 + 1 + 1 + 1, 0, none⟩) (show bs + 2 ≠ bs + 1 + 1 + 1 + 1 by omega) (.bool true)
      have C3 := (hm5.set 0 (.int .u64 (nv : Int))).set_other (p := ⟨bs + 1 + 1 + 1 + 1, 0, none⟩) (show bs + 3 ≠ bs + 1 + 1 + 1 + 1 by omega) (.bool true)
      have C4 := (hf5.set_other (p := ⟨bs + 1 + 1 + 1, 0, none⟩) (show bs + 4 ≠ bs + 1 + 1 + 1 by omega) (.int .u64 (nv : Int))).set 0 (.bool true)
      have hbsw : w.heap.size = bs := HS.out.1
      have L : Below w.heap.size w ((W5.setCell ⟨bs + 1 + 1 + 1, 0, none⟩ (.int .u64 (nv : Int))).setCell ⟨bs + 1 + 1 + 1 + 1, 0, none⟩ (.bool true)) := ((hI2.low.trans hw5).setCell (p := ⟨bs + 1 + 1 + 1, 0, none⟩) (show w.heap.size ≤ bs + 1 + 1 + 1 by omega) _).setCell (p := ⟨bs + 1 + 1 + 1 + 1, 0, none⟩) (show w.heap.size ≤ bs + 1 + 1 + 1 + 1 by omega) _
      have hE : GrI num w bs (.func (.func gf) #[] lb) (pre ++ [x]) ((W5.setCell ⟨bs + 1 + 1 + 1, 0, none⟩ (.int .u64 (nv : Int))).setCell ⟨bs + 1 + 1 + 1 + 1, 0, none⟩ (.bool true)) := ⟨L, C0, C1, by rw [HSN.out]; exact C2, by rw [HSN.out, show bstN num (some x) = nv from by show (num x).1 = nv; rw [HNX.out]]; exact C3, by rw [HSN.out]; exact C4⟩
      have kp5 : KpC (fun j => j = bs + 2 ∨ j = bs + 3 ∨ j = bs + 4) w.heap.size W2 W5 := ⟨hw5, fun j o h1 h2 h3 => by
        rw [← hW5, setCells_other W2 (bs + 2) 0 j (shV x.1) (fun e => h3 (.inl e))]; exact h1⟩
      have kp := ((KpC.of_below hb2 hlow.size).trans kp5)
      have kpF := (kp.set (p := ⟨bs + 1 + 1 + 1, 0, none⟩) (.inr (.inl rfl)) (show w.heap.size ≤ bs + 1 + 1 + 1 by omega) (.int .u64 (nv : Int))).set (p := ⟨bs + 1 + 1 + 1 + 1, 0, none⟩) (.inr (.inr rfl)) (show w.heap.size ≤ bs + 1 + 1 + 1 + 1 by omega) (.bool true)
      have ko : KeepsOthers W2 W5 := by
        rw [← hW5]
        have : ∀ (vs : List Value) (o : Nat) (w : World), KeepsOthers w (w.setCells (bs + 2) o vs) := by
          intro vs
          induction vs with
          | nil => intro o w; exact KeepsOthers.refl _
          | cons v vs ih => intro o w; exact (KeepsOthers.setCell w _ v).trans (ih _ _)
        exact this _ _ _
      have kf := ((kf_below (B := w6.heap.size) hb2).trans (ko.from _)).trans (((KeepsOthers.setCell W5 ⟨bs + 1 + 1 + 1, 0, none⟩ (.int .u64 (nv : Int))).trans (KeepsOthers.setCell _ ⟨bs + 1 + 1 + 1 + 1, 0, none⟩ (.bool true))).from _)
      have HE := Lib.hid hE
      have HKP := Lib.hid kpF
      have HKF := Lib.hid kf
      clear C0 C1 C2 C3 C4 L hE kp5 kp kpF ko kf hI2 bX2 hbe hmo hfo hsn hst hm5 hf5 hr5 hn5 hw5 hs5 d2 hb2 hW5 HI2 HB2 HHM HHF
      rcases hor with rfl | hlt2
      · gi_wp2
        exact ⟨HKF.out, HKP.out, HE.out⟩
      · cases b with
        | none =>
          gi_wp2
          exact ⟨HKF.out, HKP.out, HE.out⟩
        | some y =>
          have g2 : decide ((nv : Int) > (bstN num (some y) : Int)) = true := decide_eq_true (by omega)
          have g4 : decide (bstN num (some y) < nv) = true := decide_eq_true hlt2
          obtain ⟨mo, hmoe⟩ : ∃ mo, bstN num (some y) = mo := ⟨_, rfl⟩
          rw [hmoe] at k3 g2 g4 hlt2 y3
          have k4' : W2.cell? ⟨bs + 1 + 1 + 1 + 1, 0, none⟩ = some (.bool true) := k4
          clear k4 hmoe
          gi_wp2
          exact ⟨HKF.out, HKP.out, HE.out⟩
    · rw [gstep_no (by rw [HNX.out]; exact hyes)] at hsn
      have hE : GrI num w bs (.func (.func gf) #[] lb) (pre ++ [x]) W2 := ⟨hI2.low, hI2.fn, hI2.res, by rw [hsn]; exact hbe, by rw [hsn]; exact hmo, by rw [hsn]; exact hfo⟩
      have HE := Lib.hid hE
      have HB2 := Lib.hid hb2
      have HW := Lib.hid hlow
      have hlW := hlow.size
      have HNO := Lib.hid hyes
      cases nb with
      | false =>
        clear hI2 bX2 hbe hmo hfo hsn hE hb2 hyes
        gi_wp2
        exact ⟨kf_below HB2.out, KpC.of_below HB2.out hlW, HE.out⟩
      | true =>
        obtain ⟨y, rfl⟩ : ∃ y, b = some y := by
          cases b with
          | none => exact absurd ⟨rfl, .inl rfl⟩ hyes
          | some y => exact ⟨y, rfl⟩
        have g2 : decide ((nv : Int) > (bstN num (some y) : Int)) = false := decide_eq_false (fun h => hyes ⟨rfl, .inr (by omega)⟩)
        obtain ⟨mo, hmoe⟩ : ∃ mo, bstN num (some y) = mo := ⟨_, rfl⟩
        have g3 : ¬ bstN num (some y) < nv := fun h => hyes ⟨rfl, .inr h⟩
        have g4 : decide (bstN num (some y) < nv) = false := decide_eq_false g3
        rw [hmoe] at k3 g2 g3 g4
        have k4' : W2.cell? ⟨bs + 1 + 1 + 1 + 1, 0, none⟩ = some (.bool true) := k4
        clear hI2 bX2 hbe hmo hfo hsn hE hb2 hyes k4 hmoe
        gi_wp2
        exact ⟨kf_below HB2.out, KpC.of_below HB2.out hlW, HE.out⟩
  case done =>
    rintro D q W hD hS hI hK
    have hbe := hI.best
    have hfo := hI.fnd
    have hre := hI.res
    obtain ⟨b, hb⟩ : ∃ b, gbest num q = b := ⟨_, rfl⟩
    have HBE := Lib.hid hb
    rw [hb] at hbe hfo
    have hmixed : Tryz.prog.follows .mixedOrders = true := by kernel_rfl
    have hbe' : BoxAt W.drew (bs + 2) (shC (bstS b)) := hbe.keep rfl
    have hre' : BoxAt W.drew (bs + 1) (shC sh0) := hre.keep rfl
    have hfo' : BoxAt W.drew (bs + 4) #[.bool b.isSome] := hfo.keep rfl
    have k4 : W.drew.cell? ⟨bs + 1 + 1 + 1 + 1, 0, none⟩ = some (.bool b.isSome) := hfo'.cell 0
    have hld : (shutLoad 130 ⟨bs + 1 + 1, 0, none⟩).run Tryz.prog W.drew = .ok (.agg (shC (bstS b))) W.drew := run_loadS hbe' (bstS_len b)
    have hst := run_storeS (y := bstS b) hre' sh0_ok.l (bstS_len b)
    have d1 := shC_set (y := bstS b) hre' sh0_ok.l (bstS_len b)
    have hfo2 := hfo'.keep (setCells_other W.drew (bs + 1) 0 (bs + 4) (shV (bstS b)) (by omega))
    have hbw := setS_below (Below.refl w.heap.size W).drew (p := bs + 1) (by have := HS.out; omega) (shV (bstS b))
    have hko : KeepsOthers W.drew (W.drew.setCells (bs + 1) 0 (shV (bstS b))) := by
      have : ∀ (vs : List Value) (o : Nat) (w : World), KeepsOthers w (w.setCells (bs + 1) o vs) := by
        intro vs
        induction vs with
        | nil => intro o w; exact KeepsOthers.refl _
        | cons v vs ih => intro o w; exact (KeepsOthers.setCell w _ v).trans (ih _ _)
      exact this _ _ _
    have hK1 := hko.same D _ (show W.drew.heap[D]? = _ from hK) rfl
    obtain ⟨W5, hW5⟩ : ∃ W5, W.drew.setCells (bs + 1) 0 (shV (bstS b)) = W5 := ⟨_, rfl⟩
    rw [hW5] at d1 hfo2 hbw hst hK1
    have k5 : W5.cell? ⟨bs + 1 + 1 + 1 + 1, 0, none⟩ = some (.bool b.isSome) := hfo2.cell 0
    have HI := Lib.hid hI
    have HSQ := Lib.hid hS
    have D1 := Lib.hid d1
    have HBW := Lib.hid hbw
    have HK1 := Lib.hid hK1
    have hDw : w.heap.size ≤ D := Nat.le_trans hsz hD
    have hne : bs + 1 ≠ D := fun e => by rw [← e] at hK1; obtain ⟨t, ht⟩ := d1; rw [ht] at hK1; cases hK1
    have hlow := hI.low
    have HLOW := Lib.hid hlow
    clear hI hb hS hbe hfo hre hbe' hre' hfo' d1 hfo2 hbw hko hK hK1 hlow
    gi_wp2
    refine wpIn_mono ?_ NoP.le
    gi_region_with_o (fail)
    all_goals refine NoP.normal ?_
    all_goals gi_wp2
    all_goals refine ⟨by simp, .inl ⟨_, _, rfl, run_takeDeferred HK1.out, ?_⟩⟩
    all_goals
      refine ⟨.tuple #[.agg (shC (bstS b)), .bool b.isSome], results_cellS Tryz.results73 _ _ _ _ _ rfl rfl (run_loadS (D1.out.keep (World.putObj_heap_other hne)) (bstS_len b)), q, HSQ.out, by rw [HBE.out], ?_⟩
      exact (HLOW.out.trans HBW.out).trans (belowK_b (w := w) (Nat.le_refl _) W5 D _ _ hDw HK1.out rfl rfl)
  case stop =>
    rintro D c pre W hD _ h _
    exact h.elim
end
end
section
section
variable {α : Type} {num : α → Nat × Bool}
theorem gb_aux : ∀ (l : List α) (b : Option α), (∀ x, b = some x → (num x).2 = true) →
    (∀ x, l.foldl (gstep num) b = some x → (x ∈ l ∨ b = some x) ∧ (num x).2 = true) ∧ (∀ y, (y ∈ l ∧ (num y).2 = true ∨ b = some y) → ∃ x, l.foldl (gstep num) b = some x ∧ (num y).1 ≤ (num x).1)
  | [], b, hb => ⟨fun x hx => ⟨.inr hx, hb x hx⟩, fun y hy => by
      rcases hy with ⟨h, _⟩ | h
      · cases h
      · exact ⟨y, h, Nat.le_refl _⟩⟩
  | z :: l, b, hb => by
    have key : ∀ x, gstep num b z = some x → (x = z ∨ b = some x) ∧ (num x).2 = true := fun x hx => by
      by_cases h : (num z).2 = true ∧ (b = none ∨ bstN num b < (num z).1)
      · rw [gstep_yes h.1 h.2] at hx
        cases hx
        exact ⟨.inl rfl, h.1⟩
      · rw [gstep_no h] at hx
        exact ⟨.inr hx, hb x hx⟩
    obtain ⟨h1, h2⟩ := gb_aux l (gstep num b z) (fun x hx => (key x hx).2)
    refine ⟨fun x hx => ?_, fun y hy => ?_⟩
    · obtain ⟨h3, h4⟩ := h1 x hx
      refine ⟨?_, h4⟩
      rcases h3 with h3 | h3
      · exact .inl (List.mem_cons_of_mem _ h3)
      · rcases (key x h3).1 with h5 | h5
        · exact .inl (by rw [h5]; exact List.mem_cons_self ..)
        · exact .inr h5
    · by_cases h : (num z).2 = true ∧ (b = none ∨ bstN num b < (num z).1)
      · have hg := gstep_yes h.1 h.2
        rcases hy with ⟨hy, hn⟩ | hy
        · rcases List.mem_cons.1 hy with rfl | hy
          · exact h2 y (.inr hg)
          · exact h2 y (.inl ⟨hy, hn⟩)
        · obtain ⟨x, hx, hle⟩ := h2 z (.inr hg)
          refine ⟨x, hx, ?_⟩
          rcases h.2 with h3 | h3
          · rw [h3] at hy; cases hy
          · rw [hy] at h3
            have : bstN num (some y) = (num y).1 := rfl
            omega
      · have hg := gstep_no h
        rcases hy with ⟨hy, hn⟩ | hy
        · rcases List.mem_cons.1 hy with rfl | hy
          · have hb2 : b ≠ none := fun e => h ⟨hn, .inl e⟩
            obtain ⟨u, hu⟩ : ∃ u, b = some u := by
              cases b with
              | none => exact absurd rfl hb2
              | some u => exact ⟨u, rfl⟩
            obtain ⟨x, hx, hle⟩ := h2 u (.inr (by rw [hg]; exact hu))
            refine ⟨x, hx, ?_⟩
            have h4 : ¬ bstN num b < (num y).1 := fun e => h ⟨hn, .inr e⟩
            rw [hu] at h4
            have : bstN num (some u) = (num u).1 := rfl
            omega
          · exact h2 y (.inl ⟨hy, hn⟩)
        · exact h2 y (.inr (by rw [hg]; exact hy))
theorem gbest_some {l : List α} {x : α} (h : gbest num l = some x) : x ∈ l ∧ (num x).2 = true ∧ ∀ y ∈ l, (num y).2 = true → (num y).1 ≤ (num x).1 := by
  obtain ⟨h1, h2⟩ := gb_aux (num := num) l none (fun x hx => by cases hx)
  obtain ⟨h3, h4⟩ := h1 x h
  refine ⟨h3.elim id (fun h => by cases h), h4, fun y hy hn => ?_⟩
  obtain ⟨u, hu, hle⟩ := h2 y (.inl ⟨hy, hn⟩)
  have : gbest num l = some u := hu
  rw [h] at this
  cases this
  exact hle
theorem gbest_none {l : List α} (h : gbest num l = none) : ∀ y ∈ l, (num y).2 = false := by
  obtain ⟨h1, h2⟩ := gb_aux (num := num) l none (fun x hx => by cases hx)
  intro y hy
  cases hn : (num y).2 with
  | false => rfl
  | true =>
    obtain ⟨u, hu, _⟩ := h2 y (.inl ⟨hy, hn⟩)
    have : gbest num l = some u := hu
    rw [h] at this
    cases this
end
/-- The greatest epoch of which k drives have shards. -/
def BestE (o : Nat → Option Nat) (k N : Nat) : Option Nat → Prop
  | some E => k ≤ hasC o N E ∧ ∀ E', k ≤ hasC o N E' → E' ≤ E
  | none => ∀ E', ¬ k ≤ hasC o N E'
def numH (o : Nat → Option Nat) (k N z : Nat) (x : ShK) : Nat × Bool := if x.1.kind = 1 ∧ x.1.place = z then (x.1.gen, decide (x.1.gen % 1048576 = 0) && decide (k ≤ hasC o N (x.1.gen / 1048576))) else (0, false)
section
variable {n k N z : Nat} {sts : List DSt} {o : Nat → Option Nat} {T : Nat → Hdr}
theorem VwS.good (h : VwS n k N sts z o T) (hz : z < n) (hn : n ≤ 600) (hN : 1 ≤ N) (hN2 : N ≤ 255) : ∀ st ∈ sts, GoodV (st.seen z) := fun st hst => by
  obtain ⟨d, hd, rfl⟩ := List.mem_iff_getElem.1 hst
  have hst := List.getElem?_eq_getElem hd
  have hdN : d < N := by rw [← h.len]; exact hd
  cases ho : o d with
  | none => exact (h.non d _ hst ho).1
  | some E =>
    have hh := h.has d _ hst E ho
    rw [show ((sts[d]'hd).seen z) = (sts[d]'hd).seen (hRef z E).place from rfl, hh.2]
    exact goodV_wr (putX_ok (hRef_ok (E := E) hz) hn (hRef_g (z := z) (by have := h.ep d E hdN ho; omega)) (hdT_byt _) (by rw [hdT_len]; decide) hN hN2 d)
theorem VwS.rd (h : VwS n k N sts z o T) (hz : z < n) (hn : n ≤ 600) (hN : 1 ≤ N) (hN2 : N ≤ 255) : RdOk sts z := rdOk_of (h.good hz hn hN hN2)
theorem secN_wr {st : DSt} {x : Shd} (h : st.seen z = wrI x) : secN st z = sncS x := by
  unfold secN wrI at *
  rw [h, List.map_map]
  conv => rhs; rw [← List.map_id (sncS x)]
  exact List.map_congr_left fun b _ => by simp
theorem decd_has (h : VwS n k N sts z o T) (hz : z < n) (hn : n ≤ 600) (hN : 1 ≤ N) (hN2 : N ≤ 255) {d E : Nat} {st : DSt} (hst : sts[d]? = some st) (ho : o d = some E) : decd z st = some (putX k N (hRef z E) (hdT (T E)) d) := by
  have hd : d < N := by rw [← h.len]; exact (List.getElem?_eq_some_iff.1 hst).1
  have hh := h.has d st hst E ho
  have hx := putX_ok (hRef_ok (E := E) hz) hn (hRef_g (z := z) (by have := h.ep d E hd ho; omega)) (hdT_byt (T E)) (by rw [hdT_len]; decide) hN hN2 (k := k) d
  have hs : secN st z = sncS (putX k N (hRef z E) (hdT (T E)) d) := secN_wr hh.2
  obtain ⟨e1, e2⟩ := dec_snc hx
  unfold decd
  rw [if_neg (by rw [hh.1]; simp), hs, if_pos ⟨sncS_sum hx.l, by rw [e2]; rfl⟩, e1]
theorem decd_non (h : VwS n k N sts z o T) {d : Nat} {st : DSt} (hst : sts[d]? = some st) (ho : o d = none) : decd z st = none := by
  obtain ⟨_, h2⟩ := h.non d st hst ho
  unfold decd
  rcases h2 with h2 | h2
  · rw [if_pos h2]
  · split
    · rfl
    · have hs : secN st z = List.replicate 64 0 := by unfold secN; rw [h2]; rfl
      rw [hs, if_neg (fun h => absurd h.2 (by decide))]
theorem VwS.mem (h : VwS n k N sts z o T) (hz : z < n) (hn : n ≤ 600) (hN : 1 ≤ N) (hN2 : N ≤ 255) {x : Shd} : x ∈ shL sts z ↔ ∃ d E, d < N ∧ o d = some E ∧ x = putX k N (hRef z E) (hdT (T E)) d := by
  unfold shL
  rw [List.mem_filterMap]
  constructor
  · rintro ⟨st, hm, hx⟩
    obtain ⟨d, hd, rfl⟩ := List.mem_iff_getElem.1 hm
    have hst := List.getElem?_eq_getElem hd
    cases ho : o d with
    | none => rw [decd_non h hst ho] at hx; cases hx
    | some E =>
      rw [decd_has h hz hn hN hN2 hst ho] at hx
      cases hx
      exact ⟨d, E, by rw [← h.len]; exact hd, ho, rfl⟩
  · rintro ⟨d, E, hd, ho, rfl⟩
    have hst := List.getElem?_eq_getElem (show d < sts.length by rw [h.len]; exact hd)
    exact ⟨_, List.getElem_mem _, decd_has h hz hn hN hN2 hst ho⟩
theorem hasC_pos {o : Nat → Option Nat} {N E k : Nat} (hk : 1 ≤ k) (h : k ≤ hasC o N E) : ∃ d, d < N ∧ o d = some E := by
  unfold hasC cntP at h
  cases hl : (List.range N).filter (fun d => decide (o d = some E)) with
  | nil => rw [hl] at h; simp at h; omega
  | cons d l =>
    have hm : d ∈ (List.range N).filter (fun d => decide (o d = some E)) := by rw [hl]; exact List.mem_cons_self ..
    rw [List.mem_filter] at hm
    exact ⟨d, List.mem_range.1 hm.1, of_decide_eq_true hm.2⟩
theorem numH_put (d E : Nat) (hx : (putX k N (hRef z E) (hdT (T E)) d).ok) : numH o k N z ⟨putX k N (hRef z E) (hdT (T E)) d, hx⟩ = (E * 1048576, decide (k ≤ hasC o N E)) := by
  unfold numH
  rw [if_pos ⟨rfl, rfl⟩]
  show (E * 1048576, decide (E * 1048576 % 1048576 = 0) && decide (k ≤ hasC o N (E * 1048576 / 1048576))) = _
  rw [decide_eq_true (by omega : E * 1048576 % 1048576 = 0), Bool.true_and, show E * 1048576 / 1048576 = E by omega]
theorem gbest_head (h : VwS n k N sts z o T) (hk : 1 ≤ k) (hz : z < n) (hn : n ≤ 600) (hN : 1 ≤ N) (hN2 : N ≤ 255) {q : List ShK} (hq : q.map (·.1) = shL sts z) :
    (∃ E, BestE o k N (some E) ∧ E < 1099511627776 ∧ ∃ x, gbest (numH o k N z) q = some x ∧ x.1.gen = E * 1048576) ∨ (BestE o k N none ∧ gbest (numH o k N z) q = none) := by
  have hmem : ∀ x : ShK, x ∈ q → ∃ d E, d < N ∧ o d = some E ∧ x.1 = putX k N (hRef z E) (hdT (T E)) d := fun x hx => by
    have : x.1 ∈ shL sts z := by rw [← hq]; exact List.mem_map_of_mem hx
    exact (h.mem hz hn hN hN2).1 this
  have hback : ∀ d E, d < N → o d = some E → ∃ x ∈ q, numH o k N z x = (E * 1048576, decide (k ≤ hasC o N E)) := fun d E hd ho => by
    have h1 : putX k N (hRef z E) (hdT (T E)) d ∈ shL sts z := (h.mem hz hn hN hN2).2 ⟨d, E, hd, ho, rfl⟩
    rw [← hq] at h1
    obtain ⟨x, hx, he⟩ := List.mem_map.1 h1
    obtain ⟨x, hxo⟩ := x
    subst he
    exact ⟨_, hx, numH_put d E hxo⟩
  cases hg : gbest (numH o k N z) q with
  | some x =>
    obtain ⟨h1, h2, h3⟩ := gbest_some hg
    obtain ⟨d, E, hd, ho, he⟩ := hmem x h1
    obtain ⟨x, hxo⟩ := x
    subst he
    rw [numH_put] at h2 h3
    refine .inl ⟨E, ⟨of_decide_eq_true h2, fun E' hE' => ?_⟩, h.ep d E hd ho, _, rfl, rfl⟩
    obtain ⟨d', hd', ho'⟩ := hasC_pos hk hE'
    obtain ⟨y, hy, hny⟩ := hback d' E' hd' ho'
    have := h3 y hy (by rw [hny]; exact decide_eq_true hE')
    rw [hny] at this
    have h5 : E' * 1048576 ≤ E * 1048576 := this
    omega
  | none =>
    refine .inr ⟨fun E' hE' => ?_, rfl⟩
    obtain ⟨d', hd', ho'⟩ := hasC_pos hk hE'
    obtain ⟨y, hy, hny⟩ := hback d' E' hd' ho'
    have := gbest_none hg y hy
    rw [hny] at this
    exact absurd hE' (of_decide_eq_false this)
end
end
section
set_option maxRecDepth 100000 in
set_option maxHeartbeats 8000000 in
theorem hread_odd {w : World} {va vc : Value} {z : Int} {G : Nat} (hG : G % 1048576 ≠ 0) :
    Calls Tryz.prog 72 #[va, vc, .int .i64 z, .int .u64 (G : Int)] w fun e w' => e = .returned (.tuple #[.agg hd0, .bool false]) ∧ Below w.heap.size w w' := by
  have hb0 : Below w.heap.size w (w.alloc (.cells hd0 26)) := (Below.refl _ _).alloc (Nat.le_refl _) _
  have bB := BoxAt.new w hd0 26
  obtain ⟨w1, hw1⟩ : ∃ w1, w.alloc (.cells hd0 26) = w1 := ⟨_, rfl⟩
  obtain ⟨q, hq⟩ : ∃ q, w.heap.size = q := ⟨_, rfl⟩
  have hq0 : w.heap.size ≤ q := by omega
  rw [hw1] at hb0 bB
  rw [hq] at bB
  have HB0 := Lib.hid hb0
  have f0 : ((G : Int) % 1048576 != 0) = true := by simp; omega
  unfold hd0 at bB
  have k0 := bB.cell 0
  have k1 := bB.cell 1
  have k2 := bB.cell 2
  have k3 := bB.cell 3
  have k4 := bB.cell 4
  have z0 := bB.frozen 0
  have z1 := bB.frozen 1
  have z2 := bB.frozen 2
  have z3 := bB.frozen 3
  have z4 := bB.frozen 4
  unfold hd0 at hw1 ⊢
  clear hb0 bB hG
  go_enter Tryz.func72, Tryz.ntmps72
  go_wp2_with fail
  refine bodyPost_ret (v := .tuple #[.agg #[.int .u64 0, .int .i64 0, .int .u64 0, .int .i64 0, .int .i64 0], .bool false]) (by simp [results, Tryz.results72, go_sem, *]) rfl ?_
  exact ⟨rfl, ((((HB0.out.setCell (p := ⟨q, 0, none⟩) hq0 _).setCell (p := ⟨q, 1, none⟩) hq0 _).setCell (p := ⟨q, 2, none⟩) hq0 _).setCell (p := ⟨q, 3, none⟩) hq0 _).setCell (p := ⟨q, 4, none⟩) hq0 _⟩
section
variable {w0 w : World} {a cb bf k m n : Nat} {sts : List DSt}
set_option maxRecDepth 100000 in
set_option maxHeartbeats 16000000 in
theorem hwhole_any (h : SMid w0 w a cb bf k m n sts) {z : Nat} {o : Nat → Option Nat} {T : Nat → Hdr} (V : VwS n k (k + m) sts z o T) (hz : z < n) {Bs Ba Bc : Nat} (bS : BoxAt w Bs #[.int .i64 (z : Int)]) (bA : BoxAt w Ba #[.pointer (some ⟨a, 0, none⟩)]) (bC : BoxAt w Bc #[.pointer (some ⟨cb, 0, none⟩)]) (x : ShK) (W : World) (hW : Below w.heap.size w W) :
    Calls Tryz.prog 71 #[.agg (shC x.1), .pointer (some ⟨Bs, 0, none⟩), .pointer (some ⟨Ba, 0, none⟩), .pointer (some ⟨Bc, 0, none⟩)] W fun e W' => e = .returned (.tuple #[.int .u64 ((numH o k (k + m) z x).1 : Int), .bool (numH o k (k + m) z x).2]) ∧ Below W.heap.size W W' := by
  obtain ⟨x, hx⟩ := x
  have b0 := BoxAt.new W (shC x) 130
  have hb0 : Below W.heap.size W (W.alloc (.cells (shC x) 130)) := (Below.refl _ _).alloc (Nat.le_refl _) _
  obtain ⟨W1, hW1⟩ : ∃ W1, W.alloc (.cells (shC x) 130) = W1 := ⟨_, rfl⟩
  obtain ⟨q, hq⟩ : ∃ q, W.heap.size = q := ⟨_, rfl⟩
  rw [hW1] at b0 hb0
  rw [hq] at b0
  have hw1 := hW.trans (hb0.mono hW.size)
  have kS := (bS.below hw1).cell 0
  have kA := (bA.below hw1).cell 0
  have kC := (bC.below hw1).cell 0
  have k0 : W1.cell? ⟨q, 0, none⟩ = some (.int .u8 (x.kind : Int)) := (b0.cell 0).trans (shC_0 x)
  have k2 : W1.cell? ⟨q, 2, none⟩ = some (.int .u16 (x.place : Int)) := (b0.cell 2).trans (shC_2 x)
  have k3 : W1.cell? ⟨q, 3, none⟩ = some (.int .u64 (x.gen : Int)) := (b0.cell 3).trans (shC_3 x)
  have hM := h.below hw1
  have HB0 := Lib.hid hb0
  have B0 := Lib.hid b0
  have hp := hx.p
  have hg := hx.g
  have hwp : IntKind.i64.wrap (x.place : Int) = (x.place : Int) := by rw [IntKind.wrap_i64]; omega
  have hN : numH o k (k + m) z ⟨x, hx⟩ = if x.kind = 1 ∧ x.place = z then (x.gen, decide (x.gen % 1048576 = 0) && decide (k ≤ hasC o (k + m) (x.gen / 1048576))) else (0, false) := rfl
  rw [hN]
  dsimp only
  have HX := Lib.hid hx
  have HG := Lib.hid hg
  obtain ⟨G, hGe⟩ : ∃ G, x.gen = G := ⟨_, rfl⟩
  rw [hGe] at k3 HG ⊢
  clear h bS bA bC hW hb0 b0 hw1 hN hx hp hg hGe
  by_cases h1 : x.kind = 1
  · have f1 : ((x.kind : Int) != 1) = false := by rw [h1]; rfl
    by_cases h2 : x.place = z
    · have f2 : ((x.place : Int) != (z : Int)) = false := by rw [h2]; simp
      rw [if_pos ⟨h1, h2⟩]
      obtain ⟨V3, b, hrd, hV3, hbe⟩ : ∃ (V3 : Array Value) (b : Bool), (Calls Tryz.prog 72 #[.pointer (some ⟨a, 0, none⟩), .pointer (some ⟨cb, 0, none⟩), .int .i64 (z : Int), .int .u64 (G : Int)] W1 fun e w' => e = .returned (.tuple #[.agg V3, .bool b]) ∧ Below W1.heap.size W1 w') ∧ (∃ v0 v1 v2 v3 v4 : Int, V3 = #[.int .u64 v0, .int .i64 v1, .int .u64 v2, .int .i64 v3, .int .i64 v4]) ∧ (decide (G % 1048576 = 0) && decide (k ≤ hasC o (k + m) (G / 1048576))) = b := by
        by_cases hm : G % 1048576 = 0
        · have e1 : G = G / 1048576 * 1048576 := by omega
          have hr := hread_any (E := G / 1048576) hM V hz (by have := HG.out; omega)
          rw [← e1] at hr
          refine ⟨_, _, hr, ?_, by rw [decide_eq_true hm, Bool.true_and]⟩
          unfold hrdV
          split
          · exact ⟨_, _, _, _, _, rfl⟩
          · exact ⟨_, _, _, _, _, rfl⟩
        · exact ⟨hd0, false, hread_odd hm, ⟨_, _, _, _, _, rfl⟩, by rw [decide_eq_false hm, Bool.false_and]⟩
      obtain ⟨v0, v1, v2, v3, v4, rfl⟩ := hV3
      rw [hbe]
      have HRD := Lib.hid hrd
      clear hrd hbe hM V h1 h2
      go_enter Tryz.func71, Tryz.ntmps71
      go_wp2_with fail
      refine HRD.out.mono ?_
      clear HRD
      rintro e w2 ⟨rfl, hb2⟩
      have bz := BoxAt.new w2 #[.int .u64 v0, .int .i64 v1, .int .u64 v2, .int .i64 v3, .int .i64 v4] 26
      have hb3 : Below W1.heap.size W1 (w2.alloc (.cells #[.int .u64 v0, .int .i64 v1, .int .u64 v2, .int .i64 v3, .int .i64 v4] 26)) := hb2.alloc hb2.size _
      obtain ⟨w3, hw3⟩ : ∃ w3, w2.alloc (.cells #[.int .u64 v0, .int .i64 v1, .int .u64 v2, .int .i64 v3, .int .i64 v4] 26) = w3 := ⟨_, rfl⟩
      rw [hw3] at hb3
      have k3' : w3.cell? ⟨q, 3, none⟩ = some (.int .u64 (G : Int)) := by rw [(B0.out.below hb3).cell, ← B0.out.cell]; exact k3
      have HB3 := Lib.hid (HB0.out.trans (hb3.mono HB0.out.size))
      clear hb2 hb3 bz
      go_wp2_with fail
      go_ret2
      exact ⟨rfl, HB3.out⟩
    · have f2 : ((x.place : Int) != (z : Int)) = true := by simp; omega
      rw [if_neg (fun h => h2 h.2)]
      clear hM V h1 h2
      go_enter Tryz.func71, Tryz.ntmps71
      go_wp2_with fail
      go_ret2
      exact ⟨rfl, HB0.out⟩
  · have f1 : ((x.kind : Int) != 1) = true := by simp; omega
    rw [if_neg (fun h => h1 h.1)]
    clear hM V h1
    go_enter Tryz.func71, Tryz.ntmps71
    go_wp2_with fail
    go_ret2
    exact ⟨rfl, HB0.out⟩
end
end
section
attribute [local go_sem ↓] shut_loadS shut_zeroS shut_buildS shut_storeS
attribute [local go_sem] run_zeroS run_build0
def gtV (T : Nat → Hdr) : Option Nat → Array Value
  | some E => hdC E (T E)
  | none => hd0
def gtE : Option Nat → Int
  | some _ => 0
  | none => 190
theorem gtV_ex (T : Nat → Hdr) (eo : Option Nat) : ∃ v0 v1 v2 v3 v4 : Int, gtV T eo = #[.int .u64 v0, .int .i64 v1, .int .u64 v2, .int .i64 v3, .int .i64 v4] := by
  cases eo with
  | none => exact ⟨_, _, _, _, _, rfl⟩
  | some E => exact ⟨_, _, _, _, _, rfl⟩
section
variable {X : Nat → Prop} {w0 w : World} {a cb bf k m n : Nat} {sts : List DSt}
set_option maxRecDepth 100000 in
set_option maxHeartbeats 16000000 in
theorem hget_any (h : SMidX X w0 w a cb bf k m n sts) {z : Nat} {o : Nat → Option Nat} {T : Nat → Hdr} (V : VwS n k (k + m) sts z o T) (hz : z < n) (hz2 : z < 2) :
    Calls Tryz.prog 16 #[.pointer (some ⟨a, 0, none⟩), .pointer (some ⟨cb, 0, none⟩), .int .i64 (z : Int)] w fun e w' => ∃ eo, BestE o k (k + m) eo ∧ e = .returned (.tuple #[.agg (gtV T eo), .int .i64 (gtE eo)]) ∧ Below w.heap.size w w' := by
  have A0 := BoxAt.new w #[.pointer (some ⟨a, 0, none⟩)] 27
  have b0 : Below w.heap.size w (w.alloc (.cells #[.pointer (some ⟨a, 0, none⟩)] 27)) := (Below.refl _ _).alloc (Nat.le_refl _) _
  have s0 := World.size_alloc w (.cells #[.pointer (some ⟨a, 0, none⟩)] 27)
  obtain ⟨w1, hw1⟩ : ∃ w1, w.alloc (.cells #[.pointer (some ⟨a, 0, none⟩)] 27) = w1 := ⟨_, rfl⟩
  rw [hw1] at A0 b0 s0
  have A1 := BoxAt.new w1 #[.pointer (some ⟨cb, 0, none⟩)] 28
  have b1 := b0.alloc b0.size (.cells #[.pointer (some ⟨cb, 0, none⟩)] 28)
  have s1 := World.size_alloc w1 (.cells #[.pointer (some ⟨cb, 0, none⟩)] 28)
  replace A0 := A0.alloc (.cells #[.pointer (some ⟨cb, 0, none⟩)] 28)
  obtain ⟨w2, hw2⟩ : ∃ w2, w1.alloc (.cells #[.pointer (some ⟨cb, 0, none⟩)] 28) = w2 := ⟨_, rfl⟩
  rw [hw2] at A0 A1 b1 s1
  have A2 := BoxAt.new w2 #[.int .i64 (z : Int)] 3
  have b2 := b1.alloc b1.size (.cells #[.int .i64 (z : Int)] 3)
  have s2 := World.size_alloc w2 (.cells #[.int .i64 (z : Int)] 3)
  replace A0 := A0.alloc (.cells #[.int .i64 (z : Int)] 3)
  replace A1 := A1.alloc (.cells #[.int .i64 (z : Int)] 3)
  obtain ⟨w3, hw3⟩ : ∃ w3, w2.alloc (.cells #[.int .i64 (z : Int)] 3) = w3 := ⟨_, rfl⟩
  rw [hw3] at A0 A1 A2 b2 s2
  have A3 := BoxAt.new w3 hd0 26
  have b3 := b2.alloc b2.size (.cells hd0 26)
  have s3 := World.size_alloc w3 (.cells hd0 26)
  replace A0 := A0.alloc (.cells hd0 26)
  replace A1 := A1.alloc (.cells hd0 26)
  replace A2 := A2.alloc (.cells hd0 26)
  obtain ⟨w4, hw4⟩ : ∃ w4, w3.alloc (.cells hd0 26) = w4 := ⟨_, rfl⟩
  rw [hw4] at A0 A1 A2 A3 b3 s3
  obtain ⟨bs, hbs⟩ : ∃ bs, w.heap.size = bs := ⟨_, rfl⟩
  have e1 : w1.heap.size = bs + 1 := by omega
  have e2 : w2.heap.size = bs + 1 + 1 := by omega
  have e3 : w3.heap.size = bs + 1 + 1 + 1 := by omega
  have HS := Lib.hid (show w.heap.size = bs ∧ w4.heap.size = bs + 4 by omega)
  rw [hbs] at A0
  rw [e1] at A1
  rw [e2] at A2
  rw [e3] at A3
  have BA := Lib.hid A0
  have BC := Lib.hid A1
  have BS := Lib.hid A2
  have BR := Lib.hid A3
  have HB4 := Lib.hid b3
  have hX4 := h.below' b3
  have HX4 := Lib.hid hX4
  obtain ⟨t1, t2, t3⟩ := Tells.smid hX4
  obtain ⟨y4, hy4⟩ := Later.refl0 w4
  have hk1 := hX4.mid.k1
  have hm1 := hX4.mid.m1
  have hkm := hX4.mid.km
  have hn6 := hX4.mid.n2
  have hrdy := hready_any t1 t2 (fun _ => t3) (z : Int) y4
  rw [hy4, show rdyE (k + m) (k + m) n (z : Int) = 0 from by unfold rdyE isS; rw [if_neg (by omega), if_neg (by rw [decide_eq_true (by omega : (0 : Int) ≤ (z : Int) ∧ (z : Int) < 2)]; simp; omega)]] at hrdy
  have HRDY := Lib.hid hrdy
  have k0 := A0.cell 0
  have k1 := A1.cell 0
  have k2 := A2.cell 0
  clear A0 A1 A2 A3 b0 b1 b2 b3 s0 s1 s2 s3 hX4 t1 t2 t3 hy4 hrdy
  unfold hd0 at hw4
  go_enter Tryz.func16, Tryz.ntmps16
  go_wp2_with fail
  refine HRDY.out.mono ?_
  clear HRDY hw1 hw2 hw3 hw4 e1 e2 e3 hbs k0 k1 k2
  rintro e w5 ⟨rfl, y, rfl⟩
  have hby : Below w4.heap.size w4 y.to := y.ok
  have bA5 := BA.out.below hby
  have bC5 := BC.out.below hby
  have bS5 := BS.out.below hby
  have bR5 := BR.out.below hby
  have hX5 := HX4.out.below' hby
  have hb5 : Below w.heap.size w y.to := HB4.out.trans (hby.mono HB4.out.size)
  obtain ⟨w5, hw5⟩ : ∃ w5, y.to = w5 := ⟨_, rfl⟩
  rw [hw5] at bA5 bC5 bS5 bR5 hX5 hb5 ⊢
  have k0 := bA5.cell 0
  have k2 := bS5.cell 0
  have hsh := fun w => shards_any (w := w) (va := .pointer (some ⟨a, 0, none⟩)) (z := (z : Int)) ⟨_, rfl⟩
  have BA5 := Lib.hid bA5
  have BC5 := Lib.hid bC5
  have BS5 := Lib.hid bS5
  have BR5 := Lib.hid bR5
  have HX5 := Lib.hid hX5
  have HB5 := Lib.hid hb5
  clear bA5 bC5 bS5 bR5 hX5 hb5 hw5 hby BA BC BS BR HX4 HB4
  go_wp2_with fail
  refine (hsh _).mono ?_
  rintro e w6 ⟨rfl, hw6⟩
  have Z0 := BoxAt.new w5 #[.pointer (some ⟨a, 0, none⟩)] 27
  have Z1 := BoxAt.new (w5.alloc (.cells #[.pointer (some ⟨a, 0, none⟩)] 27)) #[.int .i64 (z : Int)] 3
  replace Z0 := Z0.alloc (.cells #[.int .i64 (z : Int)] 3)
  rw [World.size_alloc] at Z1
  have hb56 : Below w5.heap.size w5 w6 := by rw [hw6]; exact ((Below.refl _ _).alloc (Nat.le_refl _) _).alloc (by rw [World.size_alloc]; omega) _
  rw [← hw6] at Z0 Z1
  obtain ⟨s5, hs5⟩ : ∃ s5, w5.heap.size = s5 := ⟨_, rfl⟩
  rw [hs5] at Z0 Z1 ⊢
  have bA6 := BA5.out.below hb56
  have bC6 := BC5.out.below hb56
  have bS6 := BS5.out.below hb56
  have hX6 := HX5.out.below' hb56
  have hgr : Calls Tryz.prog 73 #[.func (.func 147) #[] #[.pointer (some ⟨s5, 0, none⟩), .pointer (some ⟨s5 + 1, 0, none⟩)], .func (.func 71) #[] #[.pointer (some ⟨bs + 1 + 1, 0, none⟩), .pointer (some ⟨bs, 0, none⟩), .pointer (some ⟨bs + 1, 0, none⟩)]] w6 fun e w' => ∃ q : List ShK, q.map (·.1) = shL sts z ∧ e = .returned (.tuple #[.agg (shC (bstS (gbest (numH o k (k + m) z) q))), .bool (gbest (numH o k (k + m) z) q).isSome]) ∧ Below w6.heap.size w6 w' := by
    obtain ⟨h0, ⟨U, C, ⟨v, Fs, ps, hA⟩, hC, hU, hd, hx⟩, hl, h1, h3⟩ := id hX6
    exact greatS_any (Lib.hid hA) (by omega) (by omega) hz (Lib.hid (V.rd hz hn6 (by omega) (by omega))) Z0 Z1 (numH o k (k + m) z) (Lib.hid fun args w => rfl) (Lib.hid fun x W hW => hwhole_any hX6.mid V hz bS6 bA6 bC6 x W hW)
  have HGR := Lib.hid hgr
  have HB56 := Lib.hid hb56
  clear Z0 Z1 hb56 bA6 bC6 bS6 hX6 hgr hw6 hs5 hsh k0 k2
  go_wp2_with fail
  refine HGR.out.mono ?_
  clear HGR
  rintro e w7 ⟨qs, hqs, rfl, hb7⟩
  have hgh := gbest_head V hk1 hz hn6 (by omega) (by omega) hqs
  obtain ⟨gx, hgx⟩ : ∃ gx, gbest (numH o k (k + m) z) qs = gx := ⟨_, rfl⟩
  rw [hgx] at hgh
  rw [hgx]
  have hst := run_storeS (y := bstS gx) (BoxAt.new w7 (shC sh0) 130) sh0_ok.l (bstS_len gx)
  have bQ := shC_set (y := bstS gx) (BoxAt.new w7 (shC sh0) 130) sh0_ok.l (bstS_len gx)
  have hb57 := HB56.out.trans (hb7.mono HB56.out.size)
  have hb8 := setS_below (hb57.alloc hb57.size (.cells (shC sh0) 130)) (p := w7.heap.size) hb57.size (shV (bstS gx))
  obtain ⟨w8, hw8⟩ : ∃ W, (w7.alloc (.cells (shC sh0) 130)).setCells w7.heap.size 0 (shV (bstS gx)) = W := ⟨_, rfl⟩
  rw [hw8] at hst bQ hb8
  obtain ⟨q, hq⟩ : ∃ q, w7.heap.size = q := ⟨_, rfl⟩
  rw [hq] at hst bQ
  have bA8 := BA5.out.below hb8
  have bC8 := BC5.out.below hb8
  have bS8 := BS5.out.below hb8
  have bR8 := BR5.out.below hb8
  have hX8 := HX5.out.below' hb8
  have hw08 := HB5.out.trans (hb8.mono HB5.out.size)
  unfold hd0 at bR8
  have kA := bA8.cell 0
  have kC := bC8.cell 0
  have kS := bS8.cell 0
  have hle0 : w.heap.size ≤ bs + 1 + 1 + 1 := by have := HS.out; omega
  rcases hgh with ⟨E, hbE, hE, x, hgx2, hgen⟩ | ⟨hbE, hgx2⟩
  · subst hgx2
    have kG : w8.cell? ⟨q, 3, none⟩ = some (.int .u64 ((E * 1048576 : Nat) : Int)) := by rw [(bQ.cell 3).trans (shC_3 _)]; show some (Value.int .u64 (x.1.gen : Int)) = _; rw [hgen]
    have hrd := hread_any (E := E) hX8.mid V hz (by omega)
    have hle : k ≤ hasC o (k + m) E := hbE.1
    rw [decide_eq_true hle] at hrd
    have eV : hrdV true E (T E) = hdC E (T E) := rfl
    rw [eV] at hrd
    obtain ⟨G, hG⟩ : ∃ G, E * 1048576 = G := ⟨_, rfl⟩
    rw [hG] at kG hrd
    have HRD := Lib.hid hrd
    have HBE := Lib.hid hbE
    have HW8 := Lib.hid hw08
    have BR8 := Lib.hid bR8
    have k5 := bR8.cell 0
    clear hgen bQ hb8 bA8 bC8 bS8 bR8 hX8 hw08 hb57 hb7 hle hrd hbE eV hG hgx BA5 BC5 BS5 BR5 HX5
    go_wp2_with fail
    refine HRD.out.mono ?_
    clear HRD kA kC kS kG hst k5 hw8 hq
    rintro e w9 ⟨rfl, hb9⟩
    unfold hdC
    have bz := BoxAt.new w9 (hdC E (T E)) 26
    have hb10 : Below w8.heap.size w8 (w9.alloc (.cells (hdC E (T E)) 26)) := hb9.alloc hb9.size _
    unfold hdC at bz hb10
    obtain ⟨w10, hw10⟩ : ∃ w10, w9.alloc (.cells #[.int .u64 (E : Int), .int .i64 ((T E).p : Int), .int .u64 ((T E).g : Int), .int .i64 ((T E).ct : Int), .int .i64 ((T E).sz : Int)] 26) = w10 := ⟨_, rfl⟩
    obtain ⟨q12, hq12⟩ : ∃ q12, w9.heap.size = q12 := ⟨_, rfl⟩
    rw [hw10] at bz hb10
    rw [hq12] at bz
    have bR := BR8.out.below hb10
    have x0 := bz.cell 0
    have x1 := bz.cell 1
    have x2 := bz.cell 2
    have x3 := bz.cell 3
    have x4 := bz.cell 4
    have r0 := bR.cell 0
    have r1 := bR.cell 1
    have r2 := bR.cell 2
    have r3 := bR.cell 3
    have r4 := bR.cell 4
    have z0 := bR.frozen 0
    have z1 := bR.frozen 1
    have z2 := bR.frozen 2
    have z3 := bR.frozen 3
    have z4 := bR.frozen 4
    have HB10 := Lib.hid (HW8.out.trans (hb10.mono HW8.out.size))
    clear hb9 bz hb10 bR
    go_wp2_with fail
    refine bodyPost_ret (v := .tuple #[.agg #[.int .u64 (E : Int), .int .i64 ((T E).p : Int), .int .u64 ((T E).g : Int), .int .i64 ((T E).ct : Int), .int .i64 ((T E).sz : Int)], .int .i64 0]) (by simp [results, Tryz.results16, go_sem, *]) rfl ?_
    exact ⟨some E, HBE.out, rfl, ((((HB10.out.setCell (p := ⟨bs + 1 + 1 + 1, 0, none⟩) hle0 _).setCell (p := ⟨bs + 1 + 1 + 1, 1, none⟩) hle0 _).setCell (p := ⟨bs + 1 + 1 + 1, 2, none⟩) hle0 _).setCell (p := ⟨bs + 1 + 1 + 1, 3, none⟩) hle0 _).setCell (p := ⟨bs + 1 + 1 + 1, 4, none⟩) hle0 _⟩
  · subst hgx2
    have HBE := Lib.hid hbE
    have HW8 := Lib.hid hw08
    have r0 := bR8.cell 0
    have r1 := bR8.cell 1
    have r2 := bR8.cell 2
    have r3 := bR8.cell 3
    have r4 := bR8.cell 4
    have z0 := bR8.frozen 0
    have z1 := bR8.frozen 1
    have z2 := bR8.frozen 2
    have z3 := bR8.frozen 3
    have z4 := bR8.frozen 4
    clear bQ hb8 bA8 bC8 bS8 bR8 hX8 hw08 hb57 hb7 hbE hgx BA5 BC5 BS5 BR5 HX5
    go_wp2_with fail
    refine bodyPost_ret (v := .tuple #[.agg #[.int .u64 0, .int .i64 0, .int .u64 0, .int .i64 0, .int .i64 0], .int .i64 190]) (by simp [results, Tryz.results16, go_sem, *]) rfl ?_
    exact ⟨none, HBE.out, rfl, ((((HW8.out.setCell (p := ⟨bs + 1 + 1 + 1, 0, none⟩) hle0 _).setCell (p := ⟨bs + 1 + 1 + 1, 1, none⟩) hle0 _).setCell (p := ⟨bs + 1 + 1 + 1, 2, none⟩) hle0 _).setCell (p := ⟨bs + 1 + 1 + 1, 3, none⟩) hle0 _).setCell (p := ⟨bs + 1 + 1 + 1, 4, none⟩) hle0 _⟩
end
end
section
open Go.Shelf
attribute [local go_sem] Oper.semAt_some
theorem BestE.uniq {o : Nat → Option Nat} {k N : Nat} {e e' : Option Nat} (h : BestE o k N e) (h' : BestE o k N e') : e = e' := by
  cases e with
  | none =>
    cases e' with
    | none => rfl
    | some E' => exact absurd h'.1 (h E')
  | some E =>
    cases e' with
    | none => exact absurd h.1 (h' E)
    | some E' => exact congrArg some (Nat.le_antisymm (h'.2 E h.1) (h.2 E' h'.1))
/-- The best epoch of each slot. -/
abbrev Slot := { z : Nat // z < 2 }
def hdU (es : Nat → Option Nat) (i : Nat) : List Nat := (List.range i).filter fun z => (es z).isSome
theorem hdU_next (es : Nat → Option Nat) (i : Nat) : hdU es (i + 1) = hdU es i ++ (if (es i).isSome = true then [i] else []) := by
  unfold hdU
  rw [List.range_succ, List.filter_append, List.filter_cons]
  rfl
set_option maxRecDepth 100000 in
theorem headsf_any {w : World} {a cb : Nat} : Calls Tryz.prog 76 #[.pointer (some ⟨a, 0, none⟩), .pointer (some ⟨cb, 0, none⟩)] w fun e w' => e = .returned (.func (.func 150) #[] #[.pointer (some ⟨w.heap.size, 0, none⟩), .pointer (some ⟨w.heap.size + 1, 0, none⟩)]) ∧ w' = (w.alloc (.cells #[.pointer (some ⟨a, 0, none⟩)] 27)).alloc (.cells #[.pointer (some ⟨cb, 0, none⟩)] 28) := by
  go_enter Tryz.func76, Tryz.ntmps76
  go_wp2_with fail
  go_ret
  exact ⟨by simp, rfl⟩
/-- Both slots of a state, and which epoch is best in each. -/
structure Vw2 (n k N : Nat) (sts : List DSt) (es : Nat → Option Nat) (T : Nat → Nat → Hdr) : Prop where
  ex : ∀ z, z < 2 → ∃ o, VwS n k N sts z o (T z) ∧ BestE o k N (es z)
  n2 : 2 ≤ n
section
variable {X : Nat → Prop} {w0 w : World} {a cb bf k m n : Nat} {sts : List DSt} {es : Nat → Option Nat} {T : Nat → Nat → Hdr}
theorem hget2 (h : SMidX X w0 w a cb bf k m n sts) (V : Vw2 n k (k + m) sts es T) {z : Nat} (hz : z < 2) :
    Calls Tryz.prog 16 #[.pointer (some ⟨a, 0, none⟩), .pointer (some ⟨cb, 0, none⟩), .int .i64 (z : Int)] w fun e w' => e = .returned (.tuple #[.agg (gtV (T z) (es z)), .int .i64 (gtE (es z))]) ∧ Below w.heap.size w w' := by
  obtain ⟨o, v, hb⟩ := V.ex z hz
  refine (hget_any h v (by have := V.n2; omega) hz).mono ?_
  rintro e w' ⟨eo, hbe, rfl, hbw⟩
  obtain rfl := hbe.uniq hb
  exact ⟨rfl, hbw⟩
set_option maxRecDepth 100000 in
set_option maxHeartbeats 16000000 in
theorem heads1_in {F : Nat → Prop} {base : Nat} (h : Hid (SMidX X w0 w a cb bf k m n sts)) (V : Hid (Vw2 n k (k + m) sts es T)) {Ba Bc : Nat} (bA : BoxAt w Ba #[.pointer (some ⟨a, 0, none⟩)]) (bC : BoxAt w Bc #[.pointer (some ⟨cb, 0, none⟩)]) (hF : Hid (∀ j, F j → w.heap.size ≤ j)) (hbw : base = w.heap.size) (d l : Nat) (J Jx : List Slot → World → Prop)
    (hY : ∀ m pre (x : Slot) W, J pre W → pre.length < (hdU es 2).length → YieldAt Fence.wide m Tryz.prog l #[.int .i64 (x.1 : Int)] W fun e W' => (e = .returned (.bool true) ∧ J (pre ++ [x]) W' ∧ KpC F base W W') ∨ (e = .returned (.bool false) ∧ Jx (pre ++ [x]) W'))
    (hA : ∀ pre W W', J pre W → Below W.heap.size W W' → J pre W') (W : World) (hW : Below w.heap.size w W) (h0 : J [] W) :
    CallsIn Fence.wide d Tryz.prog 150 #[.func (.yield l) #[] #[], .pointer (some ⟨Ba, 0, none⟩), .pointer (some ⟨Bc, 0, none⟩)] W fun e W' => (∃ v, e = .returned v) ∧
      ((∃ q, q.map (·.1) = hdU es 2 ∧ J q W') ∨ (∃ q, q.map (·.1) <+: hdU es 2 ∧ Jx q W')) := by
  subst hbw
  have HY := Lib.hid hY
  have HA := Lib.hid hA
  have H0 := Lib.hid h0
  have HW := Lib.hid hW
  have BA := Lib.hid bA
  have BC := Lib.hid bC
  clear hY hA h0 hW bA bC
  refine callsIn_of_wp Tryz.func150 rfl trivial ?_ rfl
  simp only [Tryz.ntmps150, List.size_toArray, List.length_cons, List.length_nil, Nat.reduceAdd, Nat.reduceSub, Array.replicate_succ, Array.replicate_zero, List.push_toArray, List.append_toArray, List.nil_append, List.cons_append]
  gi_wp2
  try go_frame
  gi_loopg [7] 2 (fun g vi wr => ∃ (i : Nat) (pre : List Slot), i + g = 2 ∧ vi = .int .i64 i ∧ pre.map (·.1) = hdU es i ∧ Hid (J pre wr) ∧ Hid (Below w.heap.size w wr))
  case atStart => exact ⟨0, [], rfl, rfl, rfl, H0, HW⟩
  case round =>
    clear H0 HW
    obtain ⟨i, pre, hi, rfl, hpre, HJ, HB⟩ := hrel
    have p0 : (0 : Int) ≤ (i : Int) := Int.natCast_nonneg _
    by_cases hlt : i < 2
    · have p1 : (i : Int) < 2 := by omega
      have k0 := (BA.out.below HB.out).cell 0
      have k1 := (BC.out.below HB.out).cell 0
      have hget := hget2 (h.out.below' HB.out) V.out hlt
      have hnx0 := hdU_next es i
      have hmono : (hdU es (i + 1)).length ≤ (hdU es 2).length := by
        have : i = 0 ∨ i = 1 := by omega
        rcases this with rfl | rfl
        · show (hdU es 1).length ≤ (hdU es (1 + 1)).length
          rw [hdU_next es 1, List.length_append]; omega
        · exact Nat.le_refl _
      have hpfx : hdU es (i + 1) <+: hdU es 2 := by
        have : i = 0 ∨ i = 1 := by omega
        rcases this with rfl | rfl
        · rw [hdU_next es 1]; exact List.prefix_append _ _
        · exact List.prefix_rfl
      obtain ⟨v0, v1, v2, v3, v4, hv⟩ := gtV_ex (T i) (es i)
      rw [hv] at hget
      have HGET := Lib.hid hget
      have HNX := Lib.hid hnx0
      have HMO := Lib.hid hmono
      have HPF := Lib.hid hpfx
      have HPRE := Lib.hid hpre
      clear hget hnx0 hmono hpre hv hpfx
      cases he : es i with
      | none =>
        rw [he] at HGET HNX
        have e0 : gtE none = 190 := rfl
        rw [e0] at HGET
        have hn : hdU es (i + 1) = hdU es i := by have := HNX.out; simpa using this
        have HN := Lib.hid hn
        clear hn e0 he
        gi_wp2
        refine ⟨trivial, fun h => (by cases h), ?_⟩
        refine (callsIn_wide.2 HGET.out).mono ?_
        clear HGET k0 k1
        rintro e w3 ⟨rfl, hb3⟩
        have hb4 := hb3.alloc hb3.size (.cells #[.int .u64 v0, .int .i64 v1, .int .u64 v2, .int .i64 v3, .int .i64 v4] 26)
        obtain ⟨w4, hw4⟩ : ∃ w4, w3.alloc (.cells #[.int .u64 v0, .int .i64 v1, .int .u64 v2, .int .i64 v3, .int .i64 v4] 26) = w4 := ⟨_, rfl⟩
        rw [hw4] at hb4
        have HJ4 := Lib.hid (HA.out _ _ _ HJ.out hb4)
        have HB4 := Lib.hid (HB.out.trans (hb4.mono HB.out.size))
        clear hb3 hb4
        gi_wp2
        refine ⟨fun _ h => (by cases h), ?_⟩
        gi_wp2
        gi_roundg (2 - (i + 1))
        case measure => omega
        case rel => exact ⟨i + 1, pre, by omega, by go_num, by rw [HN.out]; exact HPRE.out, HJ4, HB4⟩
      | some E =>
        rw [he] at HGET HNX
        have e0 : gtE (some E) = 0 := rfl
        rw [e0] at HGET
        have hn : hdU es (i + 1) = hdU es i ++ [i] := by have := HNX.out; simpa using this
        have HN := Lib.hid hn
        have hpl : pre.length < (hdU es 2).length := by
          have h1 := HMO.out
          rw [hn, List.length_append] at h1
          have h2 : (pre.map (·.1)).length = pre.length := List.length_map _
          rw [HPRE.out] at h2
          simp at h1; omega
        have HPL := Lib.hid hpl
        clear hn e0 he hpl
        gi_wp2
        refine ⟨trivial, fun h => (by cases h), ?_⟩
        refine (callsIn_wide.2 HGET.out).mono ?_
        clear HGET k0 k1
        rintro e w3 ⟨rfl, hb3⟩
        have hb4 := hb3.alloc hb3.size (.cells #[.int .u64 v0, .int .i64 v1, .int .u64 v2, .int .i64 v3, .int .i64 v4] 26)
        obtain ⟨w4, hw4⟩ : ∃ w4, w3.alloc (.cells #[.int .u64 v0, .int .i64 v1, .int .u64 v2, .int .i64 v3, .int .i64 v4] 26) = w4 := ⟨_, rfl⟩
        rw [hw4] at hb4
        have hJ4 := HA.out _ _ _ HJ.out hb4
        have HB4 := Lib.hid (HB.out.trans (hb4.mono HB.out.size))
        have HI := Lib.hid hlt
        obtain ⟨fn, tmps, assign, body, hy, hR2⟩ := HY.out (d - 1) pre ⟨i, HI.out⟩ w4 hJ4 HPL.out
        dsimp only at hy
        have HRR := Lib.hid hR2
        clear hb3 hb4 hR2 hJ4
        gi_wp2
        refine ⟨fun h => (by cases h), ?_⟩
        refine HRR.out.mono ?_
        clear HRR
        rintro e W5 (⟨rfl, hJ5, hk5⟩ | ⟨rfl, hx5⟩)
        · have HJ5 := Lib.hid hJ5
          have HK5 := Lib.hid (HB4.out.trans hk5.bel)
          clear hJ5 hk5
          gi_wp2
          gi_roundg (2 - (i + 1))
          case measure => omega
          case rel => exact ⟨i + 1, pre ++ [⟨i, HI.out⟩], by omega, by go_num, by rw [HN.out, List.map_append, HPRE.out]; rfl, HJ5, HK5⟩
        · have HX5 := Lib.hid hx5
          clear hx5
          gi_wp2
          refine bodyPost_ret (results_none rfl _ _ _) rfl ?_
          refine ⟨⟨_, rfl⟩, .inr ⟨_, ?_, HX5.out⟩⟩
          rw [List.map_append, HPRE.out]
          show hdU es i ++ [i] <+: hdU es 2
          rw [← HN.out]
          exact HPF.out
    · have p1 : ¬ (i : Int) < 2 := by omega
      obtain rfl : i = 2 := by omega
      have HQ := Lib.hid hpre
      clear hpre
      gi_wp2
      go_end0
      exact ⟨⟨_, rfl⟩, .inl ⟨pre, HQ.out, HJ.out⟩⟩
end
end
end Go.Proofs.YtcliejdiaohamaaGreat
