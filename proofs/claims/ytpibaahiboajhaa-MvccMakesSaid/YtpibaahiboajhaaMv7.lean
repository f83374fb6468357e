/-
  A store's scan, a store's rows.
-/
import Derived.Test.YtpibaahiboajhaaMv6
import Derived.Test.YtpibaahiboajhaaFnd
set_option linter.unusedSimpArgs false
set_option linter.unusedVariables false
namespace Go.Proofs.Ytpibaahiboajhaa
open Go.RowKit Go.Cib
attribute [local go_sem] cell_set Later.cell Later.frozen Grw.cell Grw.frozen

/-- What is seen of rows at a stamp. -/
def fdE (at_ : Int) (e : Ent) : Option Fd := (valueL e.vers at_).map fun b => ⟨e.key, false, [], b.places, b.gen, b.size⟩
def fdsL (at_ : Int) (l : List Ent) : List Fd := l.filterMap (fdE at_)
theorem fdsL_snoc (at_ : Int) (l : List Ent) (y : Ent) : fdsL at_ (l ++ [y]) = fdsL at_ l ++ (fdE at_ y).toList := by
  unfold fdsL
  rw [List.filterMap_append]
  cases h : fdE at_ y <;> simp [List.filterMap, h]
theorem fdsL_len (at_ : Int) (l : List Ent) : (fdsL at_ l).length ≤ l.length := List.length_filterMap_le _ _
structure ScanJ (ob mb ab B : Nat) (most at_ : Int) (seen : List Ent) (v : Value) (W : World) : Prop where
  out : BoxAt W ob #[v]
  mst : BoxAt W mb #[.int .i64 most]
  att : BoxAt W ab #[.int .u64 at_]
  own : OwnL FdR 82 6 B (B ≤ ·) W v (fdsL at_ seen).length (fdsL at_ seen)
  len : ((fdsL at_ seen).length : Int) ≤ most ∨ fdsL at_ seen = []
  low : B ≤ W.heap.size
theorem ScanJ.below {W W' : World} {ob mb ab B : Nat} {most at_ : Int} {seen : List Ent} {v : Value} (h : ScanJ ob mb ab B most at_ seen v W) (hb : Below W.heap.size W W') : ScanJ ob mb ab B most at_ seen v W' :=
  ⟨h.out.below hb, h.mst.below hb, h.att.below hb, h.own.keep FdR.stable hb, h.len, Nat.le_trans h.low hb.size⟩
def ScanX (ob mb ab B : Nat) (most at_ : Int) (seen : List Ent) (v : Value) (W : World) : Prop := ∃ s0 y, seen = s0 ++ [y] ∧ ScanJ ob mb ab B most at_ s0 v W ∧ most ≤ ((fdsL at_ s0).length : Int)
set_option maxRecDepth 100000 in
set_option maxHeartbeats 4000000 in
theorem scan1_any {W : World} {ob mb ab B : Nat} {most at_ : Int} {seen : List Ent} {v : Value} {y : Ent} {VA : Option Addr} {vm vc : Nat} (h : Hid (ScanJ ob mb ab B most at_ seen v W)) (hd : ob ≠ mb ∧ ob ≠ ab) (hB : ob < B ∧ mb < B ∧ ab < B) (hlen : seen.length ≤ 1000000) (hy : vm ≤ 4194304 ∧ Small y.vers) (hV : Hid (RdL VerR 5 (fun _ => True) W VA vm y.vers)) :
    Calls Try.prog 76 #[.string y.key, .slice VA vm vc, .pointer (some ⟨ob, 0, none⟩), .pointer (some ⟨mb, 0, none⟩), .pointer (some ⟨ab, 0, none⟩)] W fun e W' => ∃ b v', e = .returned (.bool b) ∧ Keep (fun q => q = ob ∨ v.ownBlock = some q) W W' ∧
      (v'.ownBlock = v.ownBlock ∨ ∃ g, v'.ownBlock = some g ∧ W.heap.size ≤ g) ∧ (if b then ScanJ ob mb ab B most at_ (seen ++ [y]) v' W' else ScanX ob mb ab B most at_ (seen ++ [y]) v' W') := by
  obtain ⟨A, c, rfl, hc⟩ := OwnL.form h.out.own
  have o0 := h.out.out.cell 0
  have m0 := h.out.mst.cell 0
  have a0 := h.out.att.cell 0
  have hfl := fdsL_len at_ seen
  obtain ⟨n, hn⟩ : ∃ n, (fdsL at_ seen).length = n := ⟨_, rfl⟩
  rw [hn] at o0 hfl hc
  by_cases hmo : most ≤ (n : Int)
  · have q1 : decide (most ≤ (n : Int)) = true := decide_eq_true hmo
    have HX := Lib.hid (⟨seen, y, rfl, h.out, by rw [hn]; exact hmo⟩ : ScanX ob mb ab B most at_ (seen ++ [y]) (.slice A (fdsL at_ seen).length c) W)
    rw [hn] at HX
    go_enter Try.func76, Try.ntmps76
    go_wp2_with fail
    go_ret
    subst hn
    exact ⟨false, _, rfl, Keep.refl _ _, .inl rfl, by rw [if_neg (by decide)]; exact HX.out⟩
  · have q1 : decide (most ≤ (n : Int)) = false := decide_eq_false hmo
    have hval := value_any VA vm vc at_ W hy.1 hV hy.2
    go_enter Try.func76, Try.ntmps76
    go_wp2_with fail
    refine hval.mono ?_
    rintro e w1 ⟨bv, rfl, ⟨PA, pn, pc, rfl, hpc, hPR⟩, hb1⟩
    have HP := Lib.hid hPR
    have HB1 := Lib.hid hb1
    have H1 := Lib.hid (h.out.below hb1)
    clear hval hPR hb1
    have hbB : BoxAt w1 ob #[.slice A (fdsL at_ seen).length c] := H1.out.out
    have bx := BoxAt.new w1 #[.slice none 0 0, .int .u64 0, .int .i64 0] 75
    have hal : Below w1.heap.size w1 (w1.alloc (.cells #[.slice none 0 0, .int .u64 0, .int .i64 0] 75)) := (Below.refl _ _).alloc (Nat.le_refl _) _
    obtain ⟨vb, hvb⟩ : ∃ vb, w1.heap.size = vb := ⟨_, rfl⟩
    obtain ⟨w2, hw2⟩ : ∃ w2, w1.alloc (.cells #[.slice none 0 0, .int .u64 0, .int .i64 0] 75) = w2 := ⟨_, rfl⟩
    rw [hw2] at bx hal
    rw [hvb] at bx
    have k0 := bx.cell 0; have k1 := bx.cell 1; have k2 := bx.cell 2
    have f0 := bx.frozen 0; have f1 := bx.frozen 1; have f2 := bx.frozen 2
    have hvbx := bx.lt
    have hsz1 := HB1.out.size
    cases hvl : valueL y.vers at_ with
    | none =>
      have hfd : fdE at_ y = none := by unfold fdE; rw [hvl]; rfl
      have hb2 : Below w1.heap.size w1 (((w2.setCell ⟨vb, 0, none⟩ (.slice PA pn pc)).setCell ⟨vb, 1, none⟩ (.int .u64 0)).setCell ⟨vb, 2, none⟩ (.int .i64 0)) := ((hal.setCell (p := ⟨vb, 0, none⟩) (by show _ ≤ vb; omega) _).setCell (p := ⟨vb, 1, none⟩) (by show _ ≤ vb; omega) _).setCell (p := ⟨vb, 2, none⟩) (by show _ ≤ vb; omega) _
      have hJ := H1.out.below hb2
      have HJ := Lib.hid (⟨hJ.out, hJ.mst, hJ.att, by rw [fdsL_snoc, hfd]; simpa using hJ.own, by rw [fdsL_snoc, hfd]; simpa using hJ.len, hJ.low⟩ : ScanJ ob mb ab B most at_ (seen ++ [y]) _ _)
      have HK := Lib.hid (Keep.of_below (F := fun q => q = ob ∨ (Value.slice A (fdsL at_ seen).length c).ownBlock = some q) (HB1.out.trans (hb2.mono hsz1)))
      clear hb2 hJ bx hal
      go_wp2_with fail
      go_ret
      subst hn
      exact ⟨true, _, rfl, HK.out, .inl rfl, by rw [if_pos rfl]; exact HJ.out⟩
    | some bl =>
      rw [hvl] at HP
      have hfd : fdE at_ y = some ⟨y.key, false, [], bl.places, bl.gen, bl.size⟩ := by unfold fdE; rw [hvl]; rfl
      have hb2 : Below w1.heap.size w1 (((w2.setCell ⟨vb, 0, none⟩ (.slice PA pn pc)).setCell ⟨vb, 1, none⟩ (.int .u64 bl.gen)).setCell ⟨vb, 2, none⟩ (.int .i64 bl.size)) := ((hal.setCell (p := ⟨vb, 0, none⟩) (by show _ ≤ vb; omega) _).setCell (p := ⟨vb, 1, none⟩) (by show _ ≤ vb; omega) _).setCell (p := ⟨vb, 2, none⟩) (by show _ ≤ vb; omega) _
      have bx2 := ((bx.set 0 (.slice PA pn pc)).set 1 (.int .u64 bl.gen)).set 2 (.int .i64 bl.size)
      obtain ⟨w3, hw3⟩ : ∃ w3, ((w2.setCell ⟨vb, 0, none⟩ (.slice PA pn pc)).setCell ⟨vb, 1, none⟩ (.int .u64 bl.gen)).setCell ⟨vb, 2, none⟩ (.int .i64 bl.size) = w3 := ⟨_, rfl⟩
      rw [hw3] at hb2 bx2
      have m0' := bx2.cell 0; have m1' := bx2.cell 1; have m2' := bx2.cell 2
      have HJ3 := Lib.hid (H1.out.below hb2)
      have p0 := HJ3.out.out.cell 0
      have pf := HJ3.out.out.frozen 0
      rw [hn] at p0
      have hob3 := HJ3.out.out.lt
      have HB3 := Lib.hid (HB1.out.trans (hb2.mono hsz1))
      have hsz3 := hb2.size
      have hP3 := Lib.hid (HP.out.below IntR.stable hb2)
      have HO3 := Lib.hid (by have := HJ3.out.own; rwa [hn] at this : OwnL FdR 82 6 B (B ≤ ·) w3 (.slice A n c) n (fdsL at_ seen))
      have hown0 : (Value.slice A n c).ownBlock ≠ some ob := fun e => by have := (OwnL.lt HO3.out ob e).1; omega
      have hlow := h.out.low
      have hR9 : RdL IntR 1 (Go.Cib.Rest (fun b => B ≤ b) (.slice A n c)) w3 PA pn bl.places := hP3.out.weaken IntR.stable (fun b hb => ⟨Nat.le_trans hlow hb, fun e => by
        have h1 := (OwnL.lt (by have := h.out.own; rwa [hn] at this : OwnL FdR 82 6 B (B ≤ ·) W (.slice A n c) n (fdsL at_ seen)) b e.symm).2
        have hb' : W.heap.size ≤ b := hb
        omega⟩)
      have HR9 := Lib.hid hR9
      have HFD := Lib.hid hfd
      have HVB := Lib.hid bx2
      clear hR9 hb2 bx bx2 hal hP3 hfd hvl HP
      go_wp2_with (at_builtin; refine wpList_push1 FdR.stable FdR.one sl_fd rfl rfl (by exact rfl) (by exact rfl) HO3.out (y := ⟨y.key, false, [], bl.places, bl.gen, bl.size⟩) rfl ⟨none, 0, 0, PA, pn, pc, rfl, RdL.nil, HR9.out⟩ (by unfold maxLen; omega) (by omega) (by omega) ?_; intro A7 c7 u hc7 hown7 hus hub hat; have p7 := (u.cell (b := ob) (o := 0) hob3 (fun e => hown0 e.symm)).trans p0; have pf7 := (u.frozen (b := ob) (o := 0) hob3 (fun e => hown0 e.symm)).trans pf)
      go_ret
      have hu := u.ok
      have hkt : Keep (fun q => q = ob) u.to (u.to.setCell ⟨ob, 0, none⟩ (.slice A7 (n + 1) c7)) := setCell_keep u.to ob 0 _ rfl
      have hbx : ∀ {b : Nat} {cs : Array Value}, BoxAt w3 b cs → b < B → BoxAt u.to b cs := fun hb hlt => hb.grw hu (fun e => by have := (OwnL.lt HO3.out _ e.symm).1; omega)
      have hnB := h.out.low
      subst hn
      refine ⟨true, .slice A7 ((fdsL at_ seen).length + 1) c7, rfl, ?_, hat.imp id (fun e => ⟨_, e, by have := HB3.out.size; omega⟩), ?_⟩
      · exact ((Keep.of_below HB3.out).trans (Keep.of_grown hu) (fun q e _ => .inr e.symm)).trans hkt (fun q e _ => .inl e)
      · rw [if_pos rfl]
        have hl2 : fdsL at_ (seen ++ [y]) = fdsL at_ seen ++ [⟨y.key, false, [], bl.places, bl.gen, bl.size⟩] := by rw [fdsL_snoc, HFD.out]; rfl
        refine ⟨?_, (hbx HJ3.out.mst hB.2.1).keeps hkt (fun e => hd.1 e.symm), (hbx HJ3.out.att hB.2.2).keeps hkt (fun e => hd.2 e.symm), ?_, .inl ?_, ?_⟩
        · have := (hbx HJ3.out.out hB.1).set 0 (.slice A7 ((fdsL at_ seen).length + 1) c7)
          simpa using this
        · rw [hl2, List.length_append]
          exact OwnL.keepF FdR.stable hown7 hkt (fun g hg e => by have := (OwnL.lt hown7 g hg).1; have := hB.1; omega) (fun b hb _ => ⟨hb, fun e => by have hb' : B ≤ b := hb; have := hB.1; omega⟩)
        · rw [hl2, List.length_append]; simp only [List.length_singleton]; omega
        · have := hkt.size; have := HB3.out.size; omega
end Go.Proofs.Ytpibaahiboajhaa
