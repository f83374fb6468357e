/-
  super.greatest of the slots.
  super.Find.
  super.Seen.
  What a crash leaves of two stripes, one flushed and one not: plain; rows of bools that are laid one by one.
  Heads: what a put that is flushed, torn or mended leaves in each slot.
  super.Put.
  The page's example of layer 19.
  super.Put and Find where there is no head; SuperNone, walked.
  Layer 19's law: fits, kept.
  SuperTorn: which head is found behind a crash (plain).
  SuperAgain: which head is found, try by try (plain).
  An operation of a drawn region taken first, its slot said (for slots far behind).
-/
import Derived.Test.YtcliejdiaohamaaGreatUa14
import Derived.Test.YtcliejdiaohamaaGreatUa12
import Derived.Test.YtcliejdiaohamaaGreatUa13
set_option linter.unusedSimpArgs false
set_option linter.unusedVariables false
namespace Go.Proofs.YtcliejdiaohamaaGreat
open Go.RowKit Go.Cib
attribute [local go_sem] cell_set Later.cell Later.frozen Grw.cell Grw.frozen
section
open Go.Shelf
attribute [local go_sem] Oper.semAt_some
def bstI (b : Option Slot) : Nat := match b with | some x => x.1 | none => 0
structure GrJ (num : Slot → Nat × Bool) (w : World) (bs : Nat) (fv : Value) (pre : List Slot) (W : World) : Prop where
  low : Below w.heap.size w W
  fn : BoxAt W bs #[fv]
  best : BoxAt W (bs + 1) #[.int .i64 (bstI (gbest num pre) : Int)]
  most : BoxAt W (bs + 2) #[.int .u64 (bstN num (gbest num pre) : Int)]
  fnd : BoxAt W (bs + 3) #[.bool (gbest num pre).isSome]
theorem GrJ.grown {num : Slot → Nat × Bool} {w W W' : World} {bs : Nat} {fv : Value} {pre : List Slot} {row : Option Nat} (h : GrJ num w bs fv pre W) (hg : W.grownBy W' row) (hr : ∀ r, row = some r → w.heap.size ≤ r ∧ ∃ o : Obj, W.heap[r]? = some o ∧ o.isCells = false) : GrJ num w bs fv pre W' :=
  ⟨h.low.grown hg h.low.size (fun k e => (hr k e).1), BoxAt.grownS h.fn hg (fun r e => (hr r e).2), BoxAt.grownS h.best hg (fun r e => (hr r e).2), BoxAt.grownS h.most hg (fun r e => (hr r e).2), BoxAt.grownS h.fnd hg (fun r e => (hr r e).2)⟩
theorem GrJ.below {num : Slot → Nat × Bool} {w W W' : World} {bs : Nat} {fv : Value} {pre : List Slot} (h : GrJ num w bs fv pre W) (hb : Below W.heap.size W W') : GrJ num w bs fv pre W' :=
  h.grown (row := none) ⟨hb.os, hb.tape, hb.output, hb.size, fun k hk _ => hb.block k hk⟩ (fun r e => by cases e)
section
variable {X : Nat → Prop} {w0 w : World} {a cb bf k m n : Nat} {sts : List DSt} {es : Nat → Option Nat} {T : Nat → Nat → Hdr}
set_option maxRecDepth 100000 in
set_option maxHeartbeats 16000000 in
theorem greatI_any (h : Hid (SMidX X w0 w a cb bf k m n sts)) (V : Hid (Vw2 n k (k + m) sts es T)) {Ba Bc : Nat} (bA : BoxAt w Ba #[.pointer (some ⟨a, 0, none⟩)]) (bC : BoxAt w Bc #[.pointer (some ⟨cb, 0, none⟩)]) {gf : FuncId} {lb : Array Value} (num : Slot → Nat × Bool)
    (hgf : Hid (∀ args w, (callFunc gf args).run Tryz.prog w = .ok (.enter gf args) w))
    (hnum : Hid (∀ (x : Slot) W, Below w.heap.size w W → Calls Tryz.prog gf (#[.int .i64 (x.1 : Int)] ++ lb) W fun e W' => e = .returned (.tuple #[.int .u64 ((num x).1 : Int), .bool (num x).2]) ∧ Below W.heap.size W W')) :
    Calls Tryz.prog 75 #[.func (.func 150) #[] #[.pointer (some ⟨Ba, 0, none⟩), .pointer (some ⟨Bc, 0, none⟩)], .func (.func gf) #[] lb] w fun e w' => ∃ q : List Slot, q.map (·.1) = hdU es 2 ∧ e = .returned (.tuple #[.int .i64 (bstI (gbest num q) : Int), .bool (gbest num q).isSome]) ∧ Below w.heap.size w w' := by
  refine (callsIn_wide (n := 8)).1 ?_
  refine callsIn_of_wp_marks Tryz.func75 rfl trivial ?_ rfl
  simp only [Tryz.ntmps75, List.size_toArray, List.length_cons, List.length_nil, Nat.reduceAdd, Nat.reduceSub, Array.replicate_succ, Array.replicate_zero, List.push_toArray, List.append_toArray, List.nil_append, List.cons_append]
  have B0 := BoxAt.new w #[.func (.func gf) #[] lb] 144
  have b0 : Below w.heap.size w (w.alloc (.cells #[.func (.func gf) #[] lb] 144)) := (Below.refl _ _).alloc (Nat.le_refl _) _
  have s0 := World.size_alloc w (.cells #[.func (.func gf) #[] lb] 144)
  obtain ⟨w1, hw1⟩ : ∃ w1, w.alloc (.cells #[.func (.func gf) #[] lb] 144) = w1 := ⟨_, rfl⟩
  rw [hw1] at B0 b0 s0
  have B2 := BoxAt.new w1 #[.int .i64 0] 3
  have b2 := b0.alloc b0.size (.cells #[.int .i64 0] 3)
  have s2 := World.size_alloc w1 (.cells #[.int .i64 0] 3)
  replace B0 := B0.alloc (.cells #[.int .i64 0] 3)
  obtain ⟨w3, hw3⟩ : ∃ w3, w1.alloc (.cells #[.int .i64 0] 3) = w3 := ⟨_, rfl⟩
  rw [hw3] at B0 B2 b2 s2
  have B3 := BoxAt.new w3 #[.int .u64 0] 22
  have b3 := b2.alloc b2.size (.cells #[.int .u64 0] 22)
  have s3 := World.size_alloc w3 (.cells #[.int .u64 0] 22)
  replace B0 := B0.alloc (.cells #[.int .u64 0] 22)
  replace B2 := B2.alloc (.cells #[.int .u64 0] 22)
  obtain ⟨w4, hw4⟩ : ∃ w4, w3.alloc (.cells #[.int .u64 0] 22) = w4 := ⟨_, rfl⟩
  rw [hw4] at B0 B2 B3 b3 s3
  have B4 := BoxAt.new w4 #[.bool false] 4
  have b4 := b3.alloc b3.size (.cells #[.bool false] 4)
  have s4 := World.size_alloc w4 (.cells #[.bool false] 4)
  replace B0 := B0.alloc (.cells #[.bool false] 4)
  replace B2 := B2.alloc (.cells #[.bool false] 4)
  replace B3 := B3.alloc (.cells #[.bool false] 4)
  obtain ⟨w5, hw5⟩ : ∃ w5, w4.alloc (.cells #[.bool false] 4) = w5 := ⟨_, rfl⟩
  rw [hw5] at B0 B2 B3 B4 b4 s4
  obtain ⟨bs, hbs⟩ : ∃ bs, w.heap.size = bs := ⟨_, rfl⟩
  have e1 : w1.heap.size = bs + 1 := by omega
  have e3 : w3.heap.size = bs + 1 + 1 := by omega
  have e4 : w4.heap.size = bs + 1 + 1 + 1 := by omega
  rw [hbs] at B0
  rw [e1] at B2
  rw [e3] at B3
  rw [e4] at B4
  have k3 := B3.cell 0
  have k4 := B4.cell 0
  have f3 := B3.frozen 0
  have f4 := B4.frozen 0
  have C0 := (B0.set_other (p := ⟨bs + 1 + 1, 0, none⟩) (show bs ≠ bs + 1 + 1 by omega) (.int .u64 0)).set_other (p := ⟨bs + 1 + 1 + 1, 0, none⟩) (show bs ≠ bs + 1 + 1 + 1 by omega) (.bool false)
  have C2 := (B2.set_other (p := ⟨bs + 1 + 1, 0, none⟩) (show bs + 1 ≠ bs + 1 + 1 by omega) (.int .u64 0)).set_other (p := ⟨bs + 1 + 1 + 1, 0, none⟩) (show bs + 1 ≠ bs + 1 + 1 + 1 by omega) (.bool false)
  have C3 := (B3.set 0 (.int .u64 0)).set_other (p := ⟨bs + 1 + 1 + 1, 0, none⟩) (show bs + 1 + 1 ≠ bs + 1 + 1 + 1 by omega) (.bool false)
  have C4 := (B4.set_other (p := ⟨bs + 1 + 1, 0, none⟩) (show bs + 1 + 1 + 1 ≠ bs + 1 + 1 by omega) (.int .u64 0)).set 0 (.bool false)
  have c5 := (b4.setCell (p := ⟨bs + 1 + 1, 0, none⟩) (show w.heap.size ≤ bs + 1 + 1 by omega) (.int .u64 0)).setCell (p := ⟨bs + 1 + 1 + 1, 0, none⟩) (show w.heap.size ≤ bs + 1 + 1 + 1 by omega) (.bool false)
  obtain ⟨w6, hw6⟩ : ∃ w6, (w5.setCell ⟨bs + 1 + 1, 0, none⟩ (.int .u64 0)).setCell ⟨bs + 1 + 1 + 1, 0, none⟩ (.bool false) = w6 := ⟨_, rfl⟩
  have s6 : w6.heap.size = bs + 4 := by rw [← hw6, World.size_setCell, World.size_setCell]; omega
  rw [hw6] at C0 C2 C3 C4 c5
  have HS := Lib.hid (show w.heap.size = bs ∧ w6.heap.size = bs + 4 from ⟨hbs, s6⟩)
  have HI0 : Hid (GrJ num w bs (.func (.func gf) #[] lb) [] w6) := Lib.hid ⟨c5, C0, C2, C3, C4⟩
  have HB6 := Lib.hid c5
  clear C0 C2 C3 C4 c5 s6 B0 B2 B3 B4 b0 b2 b3 b4 s0 s2 s3 s4
  gi_wp2
  clear hw1 hw3 hw4 hw5 k3 k4 f3 f4 hw6 e1 e3 e4 hbs
  have hsz : w.heap.size ≤ w6.heap.size := HB6.out.size
  have hseq : SeqStopsK Fence.wide (8 - 1) Tryz.prog 150 #[.pointer (some ⟨Ba, 0, none⟩), .pointer (some ⟨Bc, 0, none⟩)] (fun x : Slot => #[.int .i64 (x.1 : Int)]) (KpC (fun j => j = bs + 1 ∨ j = bs + 2 ∨ j = bs + 3) w.heap.size) (fun q => q.map (·.1) = hdU es 2) (fun q => q.map (·.1) <+: hdU es 2) (hdU es 2).length w6 :=
    fun lp J Jx W hW hJ hJx hY h0 => heads1_in (w := w) h V bA bC (Lib.hid (fun j hj => by have := HS.out; omega)) rfl _ lp J Jx (fun m pre x W1 h1 h2 => YieldAt.anyDepth2 rfl m (hY pre x W1 h1 h2))
      (fun pre W1 W2 h1 h2 => hJ pre W1 W2 none h1 ⟨h2.os, h2.tape, h2.output, h2.size, fun k hk _ => h2.block k hk⟩ (fun r e => by cases e)) W (HB6.out.trans (hW.mono hsz)) h0
  refine wpIn_rangeFunc_ownH (α := Slot) rfl (by omega) (gf := 150) (lb := #[.pointer (some ⟨Ba, 0, none⟩), .pointer (some ⟨Bc, 0, none⟩)]) rfl trivial (enters_of Tryz.func150 (by kernel_rfl) rfl)
    hseq
    KpC.trans (KpC.loop hsz) (Below.refl _ _) (fun _ => rfl)
    (GrJ num w bs (.func (.func gf) #[] lb)) (fun _ _ _ => False)
    (fun s W W' row hs hg hr => hs.grown hg (fun r e => ⟨Nat.le_trans hsz (hr r e).1, (hr r e).2⟩))
    (fun c s W W' row hs hg hr => hs)
    HI0.out
    (fun x a' W => a' = { tmps := #[.func (.func 150) #[] #[.pointer (some ⟨Ba, 0, none⟩), .pointer (some ⟨Bc, 0, none⟩)], .func (.func gf) #[] lb, undef, .pointer (some ⟨bs, 0, none⟩), .int .i64 0, .bool false, .pointer (some ⟨bs + 1, 0, none⟩), .pointer (some ⟨bs + 1 + 1, 0, none⟩), .pointer (some ⟨bs + 1 + 1 + 1, 0, none⟩), .int .i64 (x.1 : Int), undef, undef, .func (.func 150) #[] #[.pointer (some ⟨Ba, 0, none⟩), .pointer (some ⟨Bc, 0, none⟩)], .int .i64 (x.1 : Int), undef, undef, undef, undef, undef, undef, undef, undef, undef, undef, undef, undef, undef, undef, undef, undef, undef, undef, undef, undef], defers := [] })
    (fun x a' s W W' row h hg hr => h)
    ?assign ?body ?done ?stop
  case assign =>
    rintro lp pre x W K hI hK
    have HI1 := Lib.hid hI
    clear hI hseq
    gi_wp2
    exact hK _ _ (KeepsFrom.refl _ _) (KpC.refl _ _ _) HI1.out rfl
  case body =>
    rintro lp pre x a' W hl hr hI rfl hlt
    have c0 := hI.fn.cell 0
    have hlow := hI.low
    have hcall := hnum.out x W hlow
    have g1 := hgf.out
    have HI1 := Lib.hid hI
    obtain ⟨b, hb⟩ : ∃ b, gbest num pre = b := ⟨_, rfl⟩
    have HBE := Lib.hid hb
    obtain ⟨nx, hnx⟩ : ∃ nx, num x = nx := ⟨_, rfl⟩
    have HNX := Lib.hid hnx
    rw [hnx] at hcall
    obtain ⟨nv, nb⟩ := nx
    have HCALL := Lib.hid hcall
    clear hI hlt hr hb hnx hcall hseq
    gi_wp2
    refine ⟨trivial, ?_⟩
    refine (CallsIn.inRound lp (callsIn_wide.2 HCALL.out)).mono ?_
    clear HCALL
    rintro e W2 ⟨rfl, hb2⟩
    have hI2 := HI1.out.below hb2
    have hbe := hI2.best
    have hmo := hI2.most
    have hfo := hI2.fnd
    rw [HBE.out] at hbe hmo hfo
    have k2 : W2.cell? ⟨bs + 1, 0, none⟩ = some (.int .i64 (bstI b : Int)) := hbe.cell 0
    have k3 : W2.cell? ⟨bs + 1 + 1, 0, none⟩ = some (.int .u64 (bstN num b : Int)) := hmo.cell 0
    have k4 : W2.cell? ⟨bs + 1 + 1 + 1, 0, none⟩ = some (.bool b.isSome) := hfo.cell 0
    have hsn := gbest_snoc num pre x
    rw [HBE.out] at hsn
    have hlow2 := hI2.low.size
    by_cases hyes : nb = true ∧ (b = none ∨ bstN num b < nv)
    · obtain ⟨rfl, hor⟩ := hyes
      rw [gstep_yes (by rw [HNX.out]) (by rw [HNX.out]; exact hor)] at hsn
      have HSN := Lib.hid hsn
      have f2 := hbe.frozen 0
      have f3 := hmo.frozen 0
      have f4 := hfo.frozen 0
      have C0 := ((hI2.fn.set_other (p := ⟨bs + 1, 0, none⟩) (show bs ≠ bs + 1 by omega) (.int .i64 (x.1 : Int))).set_other (p := ⟨bs + 1 + 1, 0, none⟩) (show bs ≠ bs + 1 + 1 by omega) (.int .u64 (nv : Int))).set_other (p := ⟨bs + 1 + 1 + 1, 0, none⟩) (show bs ≠ bs + 1 + 1 + 1 by omega) (.bool true)
      have C2 := ((hbe.set 0 (.int .i64 (x.1 : Int))).set_other (p := ⟨bs + 1 + 1, 0, none⟩) (show bs + 1 ≠ bs + 1 + 1 by omega) (.int .u64 (nv : Int))).set_other (p := ⟨bs + 1 + 1 + 1, 0, none⟩) (show bs + 1 ≠ bs + 1 + 1 + 1 by omega) (.bool true)
      have C3 := ((hmo.set_other (p := ⟨bs + 1, 0, none⟩) (show bs + 2 ≠ bs + 1 by omega) (.int .i64 (x.1 : Int))).set 0 (.int .u64 (nv : Int))).set_other (p := ⟨bs + 1 + 1 + 1, 0, none⟩) (show bs + 2 ≠ bs + 1 + 1 + 1 by omega) (.bool true)
      have C4 := ((hfo.set_other (p := ⟨bs + 1, 0, none⟩) (show bs + 3 ≠ bs + 1 by omega) (.int .i64 (x.1 : Int))).set_other (p := ⟨bs + 1 + 1, 0, none⟩) (show bs + 3 ≠ bs + 1 + 1 by omega) (.int .u64 (nv : Int))).set 0 (.bool true)
      have hbsw : w.heap.size = bs := HS.out.1
      have L := ((hI2.low.setCell (p := ⟨bs + 1, 0, none⟩) (show w.heap.size ≤ bs + 1 by omega) (.int .i64 (x.1 : Int))).setCell (p := ⟨bs + 1 + 1, 0, none⟩) (show w.heap.size ≤ bs + 1 + 1 by omega) (.int .u64 (nv : Int))).setCell (p := ⟨bs + 1 + 1 + 1, 0, none⟩) (show w.heap.size ≤ bs + 1 + 1 + 1 by omega) (.bool true)
      have kp := ((((KpC.of_below (F := fun j => j = bs + 1 ∨ j = bs + 2 ∨ j = bs + 3) hb2 hlow.size)).set (p := ⟨bs + 1, 0, none⟩) (.inl rfl) (show w.heap.size ≤ bs + 1 by omega) (.int .i64 (x.1 : Int))).set (p := ⟨bs + 1 + 1, 0, none⟩) (.inr (.inl rfl)) (show w.heap.size ≤ bs + 1 + 1 by omega) (.int .u64 (nv : Int))).set (p := ⟨bs + 1 + 1 + 1, 0, none⟩) (.inr (.inr rfl)) (show w.heap.size ≤ bs + 1 + 1 + 1 by omega) (.bool true)
      have kf := (kf_below (B := w6.heap.size) hb2).trans ((((KeepsOthers.setCell W2 ⟨bs + 1, 0, none⟩ (.int .i64 (x.1 : Int))).trans (KeepsOthers.setCell _ ⟨bs + 1 + 1, 0, none⟩ (.int .u64 (nv : Int)))).trans (KeepsOthers.setCell _ ⟨bs + 1 + 1 + 1, 0, none⟩ (.bool true))).from _)
      obtain ⟨W5, hW5⟩ : ∃ W5, ((W2.setCell ⟨bs + 1, 0, none⟩ (.int .i64 (x.1 : Int))).setCell ⟨bs + 1 + 1, 0, none⟩ (.int .u64 (nv : Int))).setCell ⟨bs + 1 + 1 + 1, 0, none⟩ (.bool true) = W5 := ⟨_, rfl⟩
      rw [hW5] at C0 C2 C3 C4 L kp kf
      have hE : GrJ num w bs (.func (.func gf) #[] lb) (pre ++ [x]) W5 := ⟨L, C0, by rw [HSN.out]; exact C2, by rw [HSN.out, show bstN num (some x) = nv from by show (num x).1 = nv; rw [HNX.out]]; exact C3, by rw [HSN.out]; exact C4⟩
      have HE := Lib.hid hE
      have HKP := Lib.hid kp
      have HKF := Lib.hid kf
      clear C0 C2 C3 C4 L hE kp kf hI2 hbe hmo hfo hsn hb2
      rcases hor with rfl | hlt2
      · gi_wp2
        exact ⟨HKF.out, HKP.out, HE.out⟩
      · cases b with
        | none =>
          gi_wp2
          exact ⟨HKF.out, HKP.out, HE.out⟩
        | some y =>
          have g2 : decide ((nv : Int) > (bstN num (some y) : Int)) = true := decide_eq_true (by omega)
          have g4 : decide (bstN num (some y) < nv) = true := decide_eq_true hlt2
          obtain ⟨mo, hmoe⟩ : ∃ mo, bstN num (some y) = mo := ⟨_, rfl⟩
          rw [hmoe] at k3 g2 g4 hlt2
          have k4' : W2.cell? ⟨bs + 1 + 1 + 1, 0, none⟩ = some (.bool true) := k4
          clear k4 hmoe
          gi_wp2
          exact ⟨HKF.out, HKP.out, HE.out⟩
    · rw [gstep_no (by rw [HNX.out]; exact hyes)] at hsn
      have hE : GrJ num w bs (.func (.func gf) #[] lb) (pre ++ [x]) W2 := ⟨hI2.low, hI2.fn, by rw [hsn]; exact hbe, by rw [hsn]; exact hmo, by rw [hsn]; exact hfo⟩
      have HE := Lib.hid hE
      have HB2 := Lib.hid hb2
      have hlW := hlow.size
      cases nb with
      | false =>
        clear hI2 hbe hmo hfo hsn hE hb2 hyes
        gi_wp2
        exact ⟨kf_below HB2.out, KpC.of_below HB2.out hlW, HE.out⟩
      | true =>
        obtain ⟨y, rfl⟩ : ∃ y, b = some y := by
          cases b with
          | none => exact absurd ⟨rfl, .inl rfl⟩ hyes
          | some y => exact ⟨y, rfl⟩
        have g2 : decide ((nv : Int) > (bstN num (some y) : Int)) = false := decide_eq_false (fun h => hyes ⟨rfl, .inr (by omega)⟩)
        obtain ⟨mo, hmoe⟩ : ∃ mo, bstN num (some y) = mo := ⟨_, rfl⟩
        have g3 : ¬ bstN num (some y) < nv := fun h => hyes ⟨rfl, .inr h⟩
        have g4 : decide (bstN num (some y) < nv) = false := decide_eq_false g3
        rw [hmoe] at k3 g2 g3 g4
        have k4' : W2.cell? ⟨bs + 1 + 1 + 1, 0, none⟩ = some (.bool true) := k4
        clear hI2 hbe hmo hfo hsn hE hb2 hyes k4 hmoe
        gi_wp2
        exact ⟨kf_below HB2.out, KpC.of_below HB2.out hlW, HE.out⟩
  case done =>
    rintro D q W hD hS hI hK
    have hmixed : Tryz.prog.follows .mixedOrders = true := by kernel_rfl
    have hbe : BoxAt W.drew (bs + 1) _ := hI.best.keep rfl
    have hfo : BoxAt W.drew (bs + 3) _ := hI.fnd.keep rfl
    have k2 : W.drew.cell? ⟨bs + 1, 0, none⟩ = some (.int .i64 (bstI (gbest num q) : Int)) := hbe.cell 0
    have k4 : W.drew.cell? ⟨bs + 1 + 1 + 1, 0, none⟩ = some (.bool (gbest num q).isSome) := hfo.cell 0
    have hlow := hI.low
    have HLOW := Lib.hid hlow.drew
    have HSQ := Lib.hid hS
    have HK1 := Lib.hid (show W.drew.heap[D]? = some (.deferred (some [])) from hK)
    have hDw : w.heap.size ≤ D := Nat.le_trans hsz hD
    obtain ⟨b, hb⟩ : ∃ b, gbest num q = b := ⟨_, rfl⟩
    have HBE := Lib.hid hb
    rw [hb] at k2 k4
    clear hI hS hbe hfo hlow hK hseq hb
    gi_wp2
    refine wpIn_mono ?_ NoP.le
    gi_region_with_o (fail)
    all_goals refine NoP.normal ?_
    all_goals gi_wp2
    all_goals refine ⟨by simp, .inl ⟨_, _, rfl, run_takeDeferred HK1.out, ?_⟩⟩
    all_goals
      refine ⟨.tuple #[.int .i64 (bstI b : Int), .bool b.isSome], by simp [results, Tryz.results75, go_sem], q, HSQ.out, by rw [HBE.out], ?_⟩
      exact HLOW.out.trans (belowK_b (w := w) (Nat.le_refl _) W.drew D _ _ hDw HK1.out rfl rfl)
  case stop =>
    rintro D c pre W hD _ h _
    exact h.elim
end
end
section
def numF (es : Nat → Option Nat) (x : Slot) : Nat × Bool := ((es x.1).getD 0, (es x.1).isSome)
def findS (es : Nat → Option Nat) : Option Nat := match es 0, es 1 with
  | none, none => none
  | some _, none => some 0
  | none, some _ => some 1
  | some a, some b => if a < b then some 1 else some 0
theorem gbest_find {es : Nat → Option Nat} {q : List Slot} (hq : q.map (·.1) = hdU es 2) : (gbest (numF es) q).map (·.1) = findS es := by
  have h2 : hdU es 2 = (if (es 0).isSome = true then [0] else []) ++ (if (es 1).isSome = true then [1] else []) := by
    rw [show hdU es 2 = hdU es (1 + 1) from rfl, hdU_next, show hdU es 1 = hdU es (0 + 1) from rfl, hdU_next]
    rfl
  rw [h2] at hq
  unfold findS
  cases h0 : es 0 with
  | none =>
    cases h1 : es 1 with
    | none =>
      rw [h0, h1] at hq
      obtain rfl := List.map_eq_nil_iff.1 (show List.map _ q = [] from hq)
      rfl
    | some b =>
      rw [h0, h1] at hq
      obtain ⟨x, l, rfl, hx, hl⟩ := List.map_eq_cons_iff.1 (show List.map _ q = [1] from hq)
      obtain rfl := List.map_eq_nil_iff.1 hl
      have : numF es x = (b, true) := by unfold numF; rw [hx, h1]; rfl
      have hg : gbest (numF es) [x] = some x := gstep_yes (b := none) (by rw [this]) (.inl rfl)
      rw [hg]
      exact congrArg some hx
  | some a =>
    cases h1 : es 1 with
    | none =>
      rw [h0, h1] at hq
      obtain ⟨x, l, rfl, hx, hl⟩ := List.map_eq_cons_iff.1 (show List.map _ q = [0] from hq)
      obtain rfl := List.map_eq_nil_iff.1 hl
      have : numF es x = (a, true) := by unfold numF; rw [hx, h0]; rfl
      have hg : gbest (numF es) [x] = some x := gstep_yes (b := none) (by rw [this]) (.inl rfl)
      rw [hg]
      exact congrArg some hx
    | some b =>
      rw [h0, h1] at hq
      obtain ⟨x, l, rfl, hx, hl⟩ := List.map_eq_cons_iff.1 (show List.map _ q = [0, 1] from hq)
      obtain ⟨y, l2, rfl, hy, hl2⟩ := List.map_eq_cons_iff.1 hl
      obtain rfl := List.map_eq_nil_iff.1 hl2
      have e1 : numF es x = (a, true) := by unfold numF; rw [hx, h0]; rfl
      have e2 : numF es y = (b, true) := by unfold numF; rw [hy, h1]; rfl
      have hg : gbest (numF es) [x, y] = gstep (numF es) (some x) y := by
        show gstep (numF es) (gstep (numF es) none x) y = _
        rw [gstep_yes (b := none) (by rw [e1]) (.inl rfl)]
      have hn : bstN (numF es) (some x) = a := by show (numF es x).1 = a; rw [e1]
      rw [hg]
      by_cases hab : a < b
      · rw [gstep_yes (by rw [e2]) (.inr (by rw [hn, e2]; exact hab))]
        simp only [if_pos hab]
        exact congrArg some hy
      · rw [gstep_no (by rw [hn, e2]; rintro ⟨_, h | h⟩; cases h; exact hab h)]
        simp only [if_neg hab]
        exact congrArg some hx
section
variable {X : Nat → Prop} {w0 w : World} {a cb bf k m n : Nat} {sts : List DSt} {es : Nat → Option Nat} {T : Nat → Nat → Hdr}
set_option maxRecDepth 100000 in
set_option maxHeartbeats 8000000 in
theorem hfind1_any (h : SMidX X w0 w a cb bf k m n sts) (V : Vw2 n k (k + m) sts es T) {Ba Bc : Nat} (bA : BoxAt w Ba #[.pointer (some ⟨a, 0, none⟩)]) (bC : BoxAt w Bc #[.pointer (some ⟨cb, 0, none⟩)]) (x : Slot) (W : World) (hW : Below w.heap.size w W) :
    Calls Tryz.prog 77 #[.int .i64 (x.1 : Int), .pointer (some ⟨Ba, 0, none⟩), .pointer (some ⟨Bc, 0, none⟩)] W fun e W' => e = .returned (.tuple #[.int .u64 ((numF es x).1 : Int), .bool (numF es x).2]) ∧ Below W.heap.size W W' := by
  have k0 := (bA.below hW).cell 0
  have k1 := (bC.below hW).cell 0
  have hg := hget2 (h.below' hW) V x.2
  obtain ⟨z, hz⟩ := x
  dsimp only at hg ⊢
  have HG := Lib.hid hg
  unfold numF
  dsimp only
  clear h V bA bC hW hg
  cases he : es z with
  | none =>
    rw [he] at HG
    have e1 : gtV (T z) none = #[.int .u64 0, .int .i64 0, .int .u64 0, .int .i64 0, .int .i64 0] := rfl
    have e2 : gtE none = 190 := rfl
    rw [e1, e2] at HG
    have e3 : (((none : Option Nat).getD 0 : Nat) : Int) = 0 := rfl
    rw [e3]
    clear e1 e2 e3
    go_enter Tryz.func77, Tryz.ntmps77
    go_wp2_with fail
    refine HG.out.mono ?_
    clear HG k0 k1
    rintro e w2 ⟨rfl, hb2⟩
    have bz := BoxAt.new w2 #[.int .u64 0, .int .i64 0, .int .u64 0, .int .i64 0, .int .i64 0] 26
    have hb3 := hb2.alloc hb2.size (.cells #[.int .u64 0, .int .i64 0, .int .u64 0, .int .i64 0, .int .i64 0] 26)
    obtain ⟨w3, hw3⟩ : ∃ w3, w2.alloc (.cells #[.int .u64 0, .int .i64 0, .int .u64 0, .int .i64 0, .int .i64 0] 26) = w3 := ⟨_, rfl⟩
    obtain ⟨q, hq⟩ : ∃ q, w2.heap.size = q := ⟨_, rfl⟩
    rw [hw3] at bz hb3
    rw [hq] at bz
    have c0 := bz.cell 0
    have c1 := bz.cell 1
    have c2 := bz.cell 2
    have c3 := bz.cell 3
    have c4 := bz.cell 4
    have f0 := bz.frozen 0
    have f1 := bz.frozen 1
    have f2 := bz.frozen 2
    have f3 := bz.frozen 3
    have f4 := bz.frozen 4
    have HB3 := Lib.hid hb3
    have hle : W.heap.size ≤ q := by have := hb2.size; omega
    clear hb2 hb3 bz
    go_wp2_with fail
    go_ret2
    exact ⟨rfl, ((((HB3.out.setCell (p := ⟨q, 0, none⟩) hle _).setCell (p := ⟨q, 1, none⟩) hle _).setCell (p := ⟨q, 2, none⟩) hle _).setCell (p := ⟨q, 3, none⟩) hle _).setCell (p := ⟨q, 4, none⟩) hle _⟩
  | some E =>
    rw [he] at HG
    have e2 : gtE (some E) = 0 := rfl
    have e1 : gtV (T z) (some E) = #[.int .u64 (E : Int), .int .i64 ((T z E).p : Int), .int .u64 ((T z E).g : Int), .int .i64 ((T z E).ct : Int), .int .i64 ((T z E).sz : Int)] := rfl
    rw [e1, e2] at HG
    have e3 : (((some E : Option Nat).getD 0 : Nat) : Int) = (E : Int) := rfl
    rw [e3]
    clear e1 e2 e3
    go_enter Tryz.func77, Tryz.ntmps77
    go_wp2_with fail
    refine HG.out.mono ?_
    clear HG k0 k1
    rintro e w2 ⟨rfl, hb2⟩
    have bz := BoxAt.new w2 #[.int .u64 (E : Int), .int .i64 ((T z E).p : Int), .int .u64 ((T z E).g : Int), .int .i64 ((T z E).ct : Int), .int .i64 ((T z E).sz : Int)] 26
    have hb3 := hb2.alloc hb2.size (.cells #[.int .u64 (E : Int), .int .i64 ((T z E).p : Int), .int .u64 ((T z E).g : Int), .int .i64 ((T z E).ct : Int), .int .i64 ((T z E).sz : Int)] 26)
    obtain ⟨w3, hw3⟩ : ∃ w3, w2.alloc (.cells #[.int .u64 (E : Int), .int .i64 ((T z E).p : Int), .int .u64 ((T z E).g : Int), .int .i64 ((T z E).ct : Int), .int .i64 ((T z E).sz : Int)] 26) = w3 := ⟨_, rfl⟩
    obtain ⟨q, hq⟩ : ∃ q, w2.heap.size = q := ⟨_, rfl⟩
    rw [hw3] at bz hb3
    rw [hq] at bz
    have c0 := bz.cell 0
    have HB3 := Lib.hid hb3
    clear hb2 hb3 bz
    go_wp2_with fail
    go_ret2
    exact ⟨rfl, HB3.out⟩
def fdV (es : Nat → Option Nat) (T : Nat → Nat → Hdr) : Array Value := match findS es with | some s => gtV (T s) (es s) | none => hd0
def fdS (es : Nat → Option Nat) : Nat := (findS es).getD 0
def fdE (es : Nat → Option Nat) : Int := if (findS es).isSome = true then 0 else 190
theorem findS_some {es : Nat → Option Nat} {s : Nat} (h : findS es = some s) : s < 2 ∧ (es s).isSome = true := by
  unfold findS at h
  cases h0 : es 0 <;> cases h1 : es 1 <;> simp only [h0, h1] at h
  · cases h
  · cases h; exact ⟨by decide, by rw [h1]; rfl⟩
  · cases h; exact ⟨by decide, by rw [h0]; rfl⟩
  · split at h
    · cases h; exact ⟨by decide, by rw [h1]; rfl⟩
    · cases h; exact ⟨by decide, by rw [h0]; rfl⟩
set_option maxRecDepth 100000 in
set_option maxHeartbeats 16000000 in
theorem hfind_any (h : SMidX X w0 w a cb bf k m n sts) (V : Vw2 n k (k + m) sts es T) :
    Calls Tryz.prog 17 #[.pointer (some ⟨a, 0, none⟩), .pointer (some ⟨cb, 0, none⟩)] w fun e w' => e = .returned (.tuple #[.agg (fdV es T), .int .i64 (fdS es : Int), .int .i64 (fdE es)]) ∧ Below w.heap.size w w' := by
  have A0 := BoxAt.new w #[.pointer (some ⟨a, 0, none⟩)] 27
  have b0 : Below w.heap.size w (w.alloc (.cells #[.pointer (some ⟨a, 0, none⟩)] 27)) := (Below.refl _ _).alloc (Nat.le_refl _) _
  have s0 := World.size_alloc w (.cells #[.pointer (some ⟨a, 0, none⟩)] 27)
  obtain ⟨w1, hw1⟩ : ∃ w1, w.alloc (.cells #[.pointer (some ⟨a, 0, none⟩)] 27) = w1 := ⟨_, rfl⟩
  rw [hw1] at A0 b0 s0
  have A1 := BoxAt.new w1 #[.pointer (some ⟨cb, 0, none⟩)] 28
  have b1 := b0.alloc b0.size (.cells #[.pointer (some ⟨cb, 0, none⟩)] 28)
  have s1 := World.size_alloc w1 (.cells #[.pointer (some ⟨cb, 0, none⟩)] 28)
  replace A0 := A0.alloc (.cells #[.pointer (some ⟨cb, 0, none⟩)] 28)
  obtain ⟨w2, hw2⟩ : ∃ w2, w1.alloc (.cells #[.pointer (some ⟨cb, 0, none⟩)] 28) = w2 := ⟨_, rfl⟩
  rw [hw2] at A0 A1 b1 s1
  have A3 := BoxAt.new w2 hd0 26
  have b3 := b1.alloc b1.size (.cells hd0 26)
  have s3 := World.size_alloc w2 (.cells hd0 26)
  replace A0 := A0.alloc (.cells hd0 26)
  replace A1 := A1.alloc (.cells hd0 26)
  obtain ⟨w4, hw4⟩ : ∃ w4, w2.alloc (.cells hd0 26) = w4 := ⟨_, rfl⟩
  rw [hw4] at A0 A1 A3 b3 s3
  obtain ⟨bs, hbs⟩ : ∃ bs, w.heap.size = bs := ⟨_, rfl⟩
  have e1 : w1.heap.size = bs + 1 := by omega
  have e2 : w2.heap.size = bs + 1 + 1 := by omega
  have HS := Lib.hid (show w.heap.size = bs by omega)
  rw [hbs] at A0
  rw [e1] at A1
  rw [e2] at A3
  have BA := Lib.hid A0
  have BC := Lib.hid A1
  have BR := Lib.hid A3
  have HB4 := Lib.hid b3
  have hX4 := h.below' b3
  have HX4 := Lib.hid hX4
  obtain ⟨t1, t2, t3⟩ := Tells.smid hX4
  obtain ⟨y4, hy4⟩ := Later.refl0 w4
  have hk1 := hX4.mid.k1
  have hn2 := V.n2
  have hrdy := hready_any t1 t2 (fun _ => t3) 1 y4
  rw [hy4, show rdyE (k + m) (k + m) n 1 = 0 from by unfold rdyE isS; rw [if_neg (by omega), if_neg (by rw [decide_eq_true (by omega : (0 : Int) ≤ 1 ∧ (1 : Int) < 2)]; simp; omega)]] at hrdy
  have HRDY := Lib.hid hrdy
  have k0 := A0.cell 0
  have k1 := A1.cell 0
  have HV := Lib.hid V
  clear A0 A1 A3 b0 b1 b3 s0 s1 s3 hX4 t1 t2 t3 hy4 hrdy V h
  unfold hd0 at hw4
  go_enter Tryz.func17, Tryz.ntmps17
  go_wp2_with fail
  refine HRDY.out.mono ?_
  clear HRDY hw1 hw2 hw4 e1 e2 hbs k0 k1
  rintro e w5 ⟨rfl, y, rfl⟩
  have hby : Below w4.heap.size w4 y.to := y.ok
  have bA5 := BA.out.below hby
  have bC5 := BC.out.below hby
  have bR5 := BR.out.below hby
  have hX5 := HX4.out.below' hby
  have hb5 : Below w.heap.size w y.to := HB4.out.trans (hby.mono HB4.out.size)
  obtain ⟨w5, hw5⟩ : ∃ w5, y.to = w5 := ⟨_, rfl⟩
  rw [hw5] at bA5 bC5 bR5 hX5 hb5 ⊢
  have k0 := bA5.cell 0
  have k1 := bC5.cell 0
  have hsh := fun w => headsf_any (w := w) (a := a) (cb := cb)
  have BA5 := Lib.hid bA5
  have BC5 := Lib.hid bC5
  have BR5 := Lib.hid bR5
  have HX5 := Lib.hid hX5
  have HB5 := Lib.hid hb5
  clear bA5 bC5 bR5 hX5 hb5 hw5 hby BA BC BR HX4 HB4
  go_wp2_with fail
  refine (hsh _).mono ?_
  rintro e w6 ⟨rfl, hw6⟩
  have Z0 := BoxAt.new w5 #[.pointer (some ⟨a, 0, none⟩)] 27
  have Z1 := BoxAt.new (w5.alloc (.cells #[.pointer (some ⟨a, 0, none⟩)] 27)) #[.pointer (some ⟨cb, 0, none⟩)] 28
  replace Z0 := Z0.alloc (.cells #[.pointer (some ⟨cb, 0, none⟩)] 28)
  rw [World.size_alloc] at Z1
  have hb56 : Below w5.heap.size w5 w6 := by rw [hw6]; exact ((Below.refl _ _).alloc (Nat.le_refl _) _).alloc (by rw [World.size_alloc]; omega) _
  rw [← hw6] at Z0 Z1
  obtain ⟨s5, hs5⟩ : ∃ s5, w5.heap.size = s5 := ⟨_, rfl⟩
  rw [hs5] at Z0 Z1 ⊢
  have bA6 := BA5.out.below hb56
  have bC6 := BC5.out.below hb56
  have hX6 := HX5.out.below' hb56
  have hgr := greatI_any (Lib.hid hX6) HV Z0 Z1 (gf := 77) (lb := #[.pointer (some ⟨bs, 0, none⟩), .pointer (some ⟨bs + 1, 0, none⟩)]) (numF es) (Lib.hid fun args w => rfl) (Lib.hid fun x W hW => hfind1_any hX6 HV.out bA6 bC6 x W hW)
  have HGR := Lib.hid hgr
  have HB56 := Lib.hid hb56
  clear Z0 Z1 hb56 bA6 bC6 hX6 hgr hw6 hs5 hsh k0 k1
  go_wp2_with fail
  refine HGR.out.mono ?_
  clear HGR
  rintro e w7 ⟨qs, hqs, rfl, hb7⟩
  have hgf := gbest_find hqs
  obtain ⟨gx, hgx⟩ : ∃ gx, gbest (numF es) qs = gx := ⟨_, rfl⟩
  rw [hgx] at hgf ⊢
  have hb57 := HB56.out.trans (hb7.mono HB56.out.size)
  have bA8 := BA5.out.below hb57
  have bC8 := BC5.out.below hb57
  have bR8 := BR5.out.below hb57
  have hX8 := HX5.out.below' hb57
  have hw08 := HB5.out.trans (hb57.mono HB5.out.size)
  unfold hd0 at bR8
  have kA := bA8.cell 0
  have kC := bC8.cell 0
  have hle0 : w.heap.size ≤ bs + 1 + 1 := by have := HS.out; omega
  cases gx with
  | none =>
    have hf : findS es = none := hgf.symm
    have e1 : fdV es T = #[.int .u64 0, .int .i64 0, .int .u64 0, .int .i64 0, .int .i64 0] := by unfold fdV; rw [hf]; rfl
    have e2 : (fdS es : Int) = 0 := by unfold fdS; rw [hf]; rfl
    have e3 : fdE es = 190 := by unfold fdE; rw [hf]; rfl
    have HE := Lib.hid (And.intro e1 (And.intro e2 e3))
    have HW8 := Lib.hid hw08
    have r0 := bR8.cell 0
    have r1 := bR8.cell 1
    have r2 := bR8.cell 2
    have r3 := bR8.cell 3
    have r4 := bR8.cell 4
    have z0 := bR8.frozen 0
    have z1 := bR8.frozen 1
    have z2 := bR8.frozen 2
    have z3 := bR8.frozen 3
    have z4 := bR8.frozen 4
    clear bA8 bC8 bR8 hX8 hw08 hb57 hb7 hgx hgf hf e1 e2 e3 BA5 BC5 BR5 HX5 kA kC
    go_wp2_with fail
    refine bodyPost_ret (v := .tuple #[.agg #[.int .u64 0, .int .i64 0, .int .u64 0, .int .i64 0, .int .i64 0], .int .i64 0, .int .i64 190]) (by simp [results, Tryz.results17, go_sem, *]) rfl ?_
    exact ⟨by rw [HE.out.1, HE.out.2.1, HE.out.2.2], ((((HW8.out.setCell (p := ⟨bs + 1 + 1, 0, none⟩) hle0 _).setCell (p := ⟨bs + 1 + 1, 1, none⟩) hle0 _).setCell (p := ⟨bs + 1 + 1, 2, none⟩) hle0 _).setCell (p := ⟨bs + 1 + 1, 3, none⟩) hle0 _).setCell (p := ⟨bs + 1 + 1, 4, none⟩) hle0 _⟩
  | some s =>
    obtain ⟨s, hs2⟩ := s
    have hf : findS es = some s := hgf.symm
    obtain ⟨_, hsm⟩ := findS_some hf
    obtain ⟨E, hE⟩ : ∃ E, es s = some E := Option.isSome_iff_exists.1 hsm
    have hg := hget2 hX8 HV.out hs2
    rw [hE] at hg
    have e1 : fdV es T = gtV (T s) (some E) := by unfold fdV; rw [hf]; show gtV (T s) (es s) = _; rw [hE]
    have e2 : fdS es = s := by unfold fdS; rw [hf]; rfl
    have e3 : fdE es = 0 := by unfold fdE; rw [hf]; rfl
    have e4 : bstI (some (⟨s, hs2⟩ : Slot)) = s := rfl
    rw [e4]
    have e5 : gtV (T s) (some E) = #[.int .u64 (E : Int), .int .i64 ((T s E).p : Int), .int .u64 ((T s E).g : Int), .int .i64 ((T s E).ct : Int), .int .i64 ((T s E).sz : Int)] := rfl
    have e6 : gtE (some E) = 0 := rfl
    rw [e5, e6] at hg
    rw [e5] at e1
    obtain ⟨hh, hhe⟩ : ∃ hh, T s E = hh := ⟨_, rfl⟩
    rw [hhe] at hg e1
    have HE := Lib.hid (And.intro e1 (And.intro e2 e3))
    have HG := Lib.hid hg
    have HW8 := Lib.hid hw08
    have BR8 := Lib.hid bR8
    have k5 := bR8.cell 0
    clear bA8 bC8 bR8 hX8 hw08 hb57 hb7 hgx hgf hf hsm hE hg e1 e2 e3 e4 e5 e6 hhe BA5 BC5 BR5 HX5
    go_wp2_with fail
    refine HG.out.mono ?_
    clear HG kA kC k5
    rintro e w9 ⟨rfl, hb9⟩
    have bz := BoxAt.new w9 #[.int .u64 (E : Int), .int .i64 (hh.p : Int), .int .u64 (hh.g : Int), .int .i64 (hh.ct : Int), .int .i64 (hh.sz : Int)] 26
    have hb10 := hb9.alloc hb9.size (.cells #[.int .u64 (E : Int), .int .i64 (hh.p : Int), .int .u64 (hh.g : Int), .int .i64 (hh.ct : Int), .int .i64 (hh.sz : Int)] 26)
    obtain ⟨w10, hw10⟩ : ∃ w10, w9.alloc (.cells #[.int .u64 (E : Int), .int .i64 (hh.p : Int), .int .u64 (hh.g : Int), .int .i64 (hh.ct : Int), .int .i64 (hh.sz : Int)] 26) = w10 := ⟨_, rfl⟩
    obtain ⟨q12, hq12⟩ : ∃ q12, w9.heap.size = q12 := ⟨_, rfl⟩
    rw [hw10] at bz hb10
    rw [hq12] at bz
    have bR := BR8.out.below hb10
    have x0 := bz.cell 0
    have x1 := bz.cell 1
    have x2 := bz.cell 2
    have x3 := bz.cell 3
    have x4 := bz.cell 4
    have r0 := bR.cell 0
    have r1 := bR.cell 1
    have r2 := bR.cell 2
    have r3 := bR.cell 3
    have r4 := bR.cell 4
    have z0 := bR.frozen 0
    have z1 := bR.frozen 1
    have z2 := bR.frozen 2
    have z3 := bR.frozen 3
    have z4 := bR.frozen 4
    have HB10 := Lib.hid (HW8.out.trans (hb10.mono HW8.out.size))
    clear hb9 bz hb10 bR
    go_wp2_with fail
    refine bodyPost_ret (v := .tuple #[.agg #[.int .u64 (E : Int), .int .i64 (hh.p : Int), .int .u64 (hh.g : Int), .int .i64 (hh.ct : Int), .int .i64 (hh.sz : Int)], .int .i64 (s : Int), .int .i64 0]) (by simp [results, Tryz.results17, go_sem, *]) rfl ?_
    exact ⟨by rw [HE.out.1, HE.out.2.1, HE.out.2.2], ((((HB10.out.setCell (p := ⟨bs + 1 + 1, 0, none⟩) hle0 _).setCell (p := ⟨bs + 1 + 1, 1, none⟩) hle0 _).setCell (p := ⟨bs + 1 + 1, 2, none⟩) hle0 _).setCell (p := ⟨bs + 1 + 1, 3, none⟩) hle0 _).setCell (p := ⟨bs + 1 + 1, 4, none⟩) hle0 _⟩
end
end
section
attribute [local go_sem ↓] shut_loadS shut_zeroS shut_buildS shut_storeS run_max_b2
attribute [local go_sem] run_zeroS run_build0
def numG (x : ShK) : Nat × Bool := (x.1.gen, true)
set_option maxRecDepth 100000 in
theorem hgen_any {w : World} (x : ShK) : Calls Tryz.prog 79 #[.agg (shC x.1)] w fun e w' => e = .returned (.tuple #[.int .u64 (x.1.gen : Int), .bool true]) ∧ Below w.heap.size w w' := by
  have b0 := BoxAt.new w (shC x.1) 130
  have hb0 : Below w.heap.size w (w.alloc (.cells (shC x.1) 130)) := (Below.refl _ _).alloc (Nat.le_refl _) _
  obtain ⟨w1, hw1⟩ : ∃ w1, w.alloc (.cells (shC x.1) 130) = w1 := ⟨_, rfl⟩
  obtain ⟨q, hq⟩ : ∃ q, w.heap.size = q := ⟨_, rfl⟩
  rw [hw1] at b0 hb0
  rw [hq] at b0
  have k3 : w1.cell? ⟨q, 3, none⟩ = some (.int .u64 (x.1.gen : Int)) := (b0.cell 3).trans (shC_3 x.1)
  have HB0 := Lib.hid hb0
  clear b0 hb0
  go_enter Tryz.func79, Tryz.ntmps79
  go_wp2_with fail
  go_ret2
  exact ⟨rfl, HB0.out⟩
def SeenE (sts : List DSt) (n mx : Nat) : Prop := (∀ z, z < n → ∀ x ∈ shL sts z, x.gen / 1048576 ≤ mx) ∧ (mx = 0 ∨ ∃ z, z < n ∧ ∃ x ∈ shL sts z, x.gen / 1048576 = mx)
def epO (b : Option ShK) : Nat := match b with | some x => x.1.gen / 1048576 | none => 0
theorem SeenE.next {sts : List DSt} {i mx : Nat} (h : SeenE sts i mx) {q : List ShK} (hq : q.map (·.1) = shL sts i) : SeenE sts (i + 1) (max mx (epO (gbest numG q))) := by
  have hb : (∀ x ∈ shL sts i, x.gen / 1048576 ≤ epO (gbest numG q)) ∧ (epO (gbest numG q) = 0 ∨ ∃ x ∈ shL sts i, x.gen / 1048576 = epO (gbest numG q)) := by
    cases hg : gbest numG q with
    | none =>
      refine ⟨fun x hx => ?_, .inl rfl⟩
      rw [← hq] at hx
      obtain ⟨y, hy, rfl⟩ := List.mem_map.1 hx
      have := gbest_none hg y hy
      cases this
    | some y =>
      obtain ⟨h1, _, h3⟩ := gbest_some hg
      refine ⟨fun x hx => ?_, .inr ⟨y.1, by rw [← hq]; exact List.mem_map_of_mem h1, rfl⟩⟩
      rw [← hq] at hx
      obtain ⟨u, hu, rfl⟩ := List.mem_map.1 hx
      have h4 : u.1.gen ≤ y.1.gen := h3 u hu rfl
      exact Nat.div_le_div_right h4
  refine ⟨fun z hz x hx => ?_, ?_⟩
  · by_cases hzi : z < i
    · have := h.1 z hzi x hx; omega
    · obtain rfl : z = i := by omega
      have := hb.1 x hx; omega
  · rcases Nat.le_total mx (epO (gbest numG q)) with hm | hm
    · rw [Nat.max_eq_right hm]
      rcases hb.2 with h1 | ⟨x, hx, he⟩
      · exact .inl h1
      · exact .inr ⟨i, by omega, x, hx, he⟩
    · rw [Nat.max_eq_left hm]
      rcases h.2 with h1 | ⟨z, hz, x, hx, he⟩
      · exact .inl h1
      · exact .inr ⟨z, by omega, x, hx, he⟩
section
variable {X : Nat → Prop} {w0 w : World} {a cb bf k m n : Nat} {sts : List DSt}
set_option maxRecDepth 100000 in
set_option maxHeartbeats 16000000 in
theorem hseen_any (h : SMidX X w0 w a cb bf k m n sts) (hR : Hid (∀ z, z < n → RdOk sts z)) :
    Calls Tryz.prog 18 #[.pointer (some ⟨a, 0, none⟩)] w fun e w' => ∃ mx : Nat, SeenE sts n mx ∧ e = .returned (.int .u64 (mx : Int)) ∧ Below w.heap.size w w' := by
  obtain ⟨t1, t2, t3⟩ := Tells.smid h
  obtain ⟨y0, hy0⟩ := Later.refl0 w
  have hsec := t3 y0
  rw [hy0] at hsec
  have hk1 := h.mid.k1
  have hkm := h.mid.km
  have hn6 := h.mid.n2
  have HX := Lib.hid h
  have HSEC := Lib.hid hsec
  clear h t1 t2 t3 hy0 hsec
  go_enter Tryz.func18, Tryz.ntmps18
  go_wp2_with fail
  refine HSEC.out.mono ?_
  clear HSEC
  rintro e w1 ⟨rfl, y, rfl⟩
  have HB1 := Lib.hid y.ok
  obtain ⟨w1, hw1⟩ : ∃ w1, y.to = w1 := ⟨_, rfl⟩
  rw [hw1] at HB1 ⊢
  clear hw1
  go_wp2_with fail
  go_loopw [3, 9] (fun vm vi wr => ∃ i mx : Nat, i ≤ n ∧ vi = .int .i64 i ∧ vm = .int .u64 mx ∧ Hid (SeenE sts i mx) ∧ Hid (Below w.heap.size w wr)) (fun _ vi _ => n - (intOf vi).toNat)
  case atStart => exact ⟨0, 0, Nat.zero_le _, rfl, rfl, Lib.hid ⟨fun z hz => absurd hz (by omega), .inl rfl⟩, HB1⟩
  case round =>
    clear HB1
    obtain ⟨i, mx, hi, rfl, rfl, HS, HB⟩ := hrel
    have p0 : (0 : Int) ≤ (i : Int) := Int.natCast_nonneg _
    by_cases hlt : i < n
    · have p1 : (i : Int) < (n : Int) := by omega
      have hsh := fun w => shards_any (w := w) (va := .pointer (some ⟨a, 0, none⟩)) (z := (i : Int)) ⟨_, rfl⟩
      go_wp2_with fail
      refine (hsh _).mono ?_
      rintro e w6 ⟨rfl, hw6⟩
      have Z0 := BoxAt.new wr #[.pointer (some ⟨a, 0, none⟩)] 27
      have Z1 := BoxAt.new (wr.alloc (.cells #[.pointer (some ⟨a, 0, none⟩)] 27)) #[.int .i64 (i : Int)] 3
      replace Z0 := Z0.alloc (.cells #[.int .i64 (i : Int)] 3)
      rw [World.size_alloc] at Z1
      have hb56 : Below wr.heap.size wr w6 := by rw [hw6]; exact ((Below.refl _ _).alloc (Nat.le_refl _) _).alloc (by rw [World.size_alloc]; omega) _
      rw [← hw6] at Z0 Z1
      obtain ⟨s5, hs5⟩ : ∃ s5, wr.heap.size = s5 := ⟨_, rfl⟩
      rw [hs5] at Z0 Z1 ⊢
      have hb6 := HB.out.trans (hb56.mono HB.out.size)
      have hX6 := HX.out.below' hb6
      have hgr : Calls Tryz.prog 73 #[.func (.func 147) #[] #[.pointer (some ⟨s5, 0, none⟩), .pointer (some ⟨s5 + 1, 0, none⟩)], .func (.func 79) #[] #[]] w6 fun e w' => ∃ q : List ShK, q.map (·.1) = shL sts i ∧ e = .returned (.tuple #[.agg (shC (bstS (gbest numG q))), .bool (gbest numG q).isSome]) ∧ Below w6.heap.size w6 w' := by
        obtain ⟨h0, ⟨U, C, ⟨v, Fs, ps, hA⟩, hC, hU, hd, hx⟩, hl, h1, h3⟩ := id hX6
        exact greatS_any (Lib.hid hA) (by omega) (by omega) hlt (Lib.hid (hR.out i hlt)) Z0 Z1 numG (Lib.hid fun args w => rfl) (Lib.hid fun x W hW => hgen_any x)
      have HGR := Lib.hid hgr
      have HB6 := Lib.hid hb6
      clear Z0 Z1 hb56 hb6 hX6 hgr hw6 hs5 hsh
      go_wp2_with fail
      refine HGR.out.mono ?_
      clear HGR
      rintro e w7 ⟨qs, hqs, rfl, hb7⟩
      have hnx := HS.out.next hqs
      obtain ⟨gx, hgx⟩ : ∃ gx, gbest numG qs = gx := ⟨_, rfl⟩
      rw [hgx] at hnx ⊢
      have hst := run_storeS (y := bstS gx) (BoxAt.new w7 (shC sh0) 130) sh0_ok.l (bstS_len gx)
      have bQ := shC_set (y := bstS gx) (BoxAt.new w7 (shC sh0) 130) sh0_ok.l (bstS_len gx)
      have hb57 := HB6.out.trans (hb7.mono HB6.out.size)
      have hb8 := setS_below (hb57.alloc hb57.size (.cells (shC sh0) 130)) (p := w7.heap.size) hb57.size (shV (bstS gx))
      obtain ⟨w8, hw8⟩ : ∃ W, (w7.alloc (.cells (shC sh0) 130)).setCells w7.heap.size 0 (shV (bstS gx)) = W := ⟨_, rfl⟩
      rw [hw8] at hst bQ hb8
      obtain ⟨q, hq⟩ : ∃ q, w7.heap.size = q := ⟨_, rfl⟩
      rw [hq] at hst bQ
      have HB8 := Lib.hid hb8
      have HNX := Lib.hid hnx
      cases gx with
      | none =>
        have e0 : max mx (epO none) = mx := Nat.max_eq_left (Nat.zero_le _)
        rw [e0] at HNX
        clear bQ hb8 hb57 hb7 hnx hgx e0
        go_wp2_with fail
        exact ⟨⟨i + 1, mx, by omega, by go_num, rfl, HNX, HB8⟩, by simp [intOf]; omega⟩
      | some x =>
        have k3 : w8.cell? ⟨q, 3, none⟩ = some (.int .u64 (x.1.gen : Int)) := (bQ.cell 3).trans (shC_3 _)
        have hep := fun w => epoch_any (w := w) (g := x.1.gen)
        have e0 : epO (some x) = x.1.gen / 1048576 := rfl
        rw [e0] at HNX
        obtain ⟨G, hG⟩ : ∃ G, x.1.gen = G := ⟨_, rfl⟩
        rw [hG] at k3 hep HNX
        obtain ⟨E, hE⟩ : ∃ E, G / 1048576 = E := ⟨_, rfl⟩
        rw [hE] at hep HNX
        clear bQ hb8 hb57 hb7 hnx hgx e0 hG hE
        go_wp2_with (go_at_call 80; refine (hep _).mono ?_; rintro e w9 ⟨rfl, hw9⟩; rw [hw9]; clear hw9)
        exact ⟨⟨i + 1, max mx E, by omega, by go_num, by rw [show ((max mx E : Nat) : Int) = if mx < E then (E : Int) else (mx : Int) by split <;> omega], HNX, HB8⟩, by simp [intOf]; omega⟩
    · obtain rfl : i = n := by omega
      have p1 : ¬ (i : Int) < (i : Int) := by omega
      go_wp2_with fail
      go_ret
      exact ⟨mx, HS.out, rfl, HB.out⟩
end
end
section
theorem kept_seen {st : DSt} {n p z : Nat} {x : List Int} {on : Bool} (hc : st.cache = []) (hok : st.ok n) (hz : z < n) : ((st.write (p : Int) x).settle (keepOf [on])).seen z = if on = true ∧ p = z then x else st.seen z := by
  rw [DSt.seen_settle, DSt.seen_nil hc]
  have e : (st.write (p : Int) x).cache = [((p : Int), x)] := by show st.cache ++ _ = _; rw [hc]; rfl
  rw [e]
  show ((if keepOf [on] 0 then st.stored.set ((p : Int)).toNat x else st.stored)[z]?).getD [] = _
  have e2 : keepOf [on] 0 = on := by cases on <;> rfl
  rw [e2, Int.toNat_natCast]
  cases on with
  | false => rw [if_neg (by decide), if_neg (by simp)]
  | true =>
    rw [if_pos rfl]
    by_cases h : p = z
    · subst h
      rw [if_pos ⟨rfl, rfl⟩, List.getElem?_set_self (by rw [hok.sl]; exact hz)]; rfl
    · rw [if_neg (fun h2 => h h2.2), List.getElem?_set_ne h]
/-! ### Rows of bools, laid one by one -/
def rb (rows : List (List Bool)) (i : Nat) : List Bool := rows.getD i []
structure OutB (w : World) (base g n : Nat) (rows : List (List Bool)) : Prop where
  cur : ∃ cur : Array Value, BoxAt w g cur ∧ n ≤ cur.size ∧ ∀ i, i < n → ∃ A m c, cur[i]? = some (.slice A m c) ∧ RdL BoolR 1 (fun k => base ≤ k ∧ k ≠ g) w A m (rb rows i)
  len : rows.length = n
  hg : base ≤ g
section
variable {w w' : World} {base g n : Nat} {rows : List (List Bool)}
theorem OutB.below (h : OutB w base g n rows) (hb : Below w.heap.size w w') : OutB w' base g n rows := by
  obtain ⟨cur, h1, h2, h3⟩ := h.cur
  refine ⟨⟨cur, h1.below hb, h2, fun i hi => ?_⟩, h.len, h.hg⟩
  obtain ⟨A, m, c, e1, e3⟩ := h3 i hi
  exact ⟨A, m, c, e1, e3.below BoolR.stable hb⟩
theorem OutB.lt (h : OutB w base g n rows) : g < w.heap.size := by
  obtain ⟨cur, h1, _⟩ := h.cur
  exact h1.lt
theorem OutB.cellx (h : OutB w base g n rows) {i : Nat} (hi : i < n) : (∃ v, w.cell? ⟨g, i, none⟩ = some v) ∧ w.frozen? ⟨g, i, none⟩ = false := by
  obtain ⟨cur, h1, h2, h3⟩ := h.cur
  obtain ⟨A, m, c, e1, _⟩ := h3 i hi
  exact ⟨⟨_, (h1.cell i).trans e1⟩, h1.frozen i⟩
theorem OutB.set (h : OutB w base g n rows) {i m c : Nat} {A : Option Addr} {r : List Bool} (hi : i < n) (hr : RdL BoolR 1 (fun k => base ≤ k ∧ k ≠ g) w A m r) :
    OutB (w.setCell ⟨g, i, none⟩ (.slice A m c)) base g n (rows.set i r) := by
  obtain ⟨cur, h1, h2, h3⟩ := h.cur
  refine ⟨⟨_, h1.set i _, by rw [Array.size_setIfInBounds]; exact h2, fun k hk => ?_⟩, by rw [List.length_set, h.len], h.hg⟩
  by_cases e : k = i
  · subst e
    have e1 : rb (rows.set k r) k = r := by unfold rb; rw [List.getD_eq_getElem?_getD, List.getElem?_set_self (by rw [h.len]; exact hk)]; rfl
    rw [e1, set_eq (by omega)]
    exact ⟨A, m, c, rfl, hr.setCell BoolR.stable (fun h => h.2 rfl) _⟩
  · have e1 : rb (rows.set i r) k = rb rows k := by unfold rb; rw [List.getD_eq_getElem?_getD, List.getElem?_set_ne (fun h => e h.symm), ← List.getD_eq_getElem?_getD]
    rw [e1, set_ne (fun h => e h.symm)]
    obtain ⟨A1, m1, c1, e1, e3⟩ := h3 k hk
    exact ⟨A1, m1, c1, e1, e3.setCell BoolR.stable (fun h => h.2 rfl) _⟩
theorem OutB.rd (h : OutB w base g n rows) : RdL BoolsR 1 (fun k => base ≤ k) w (some ⟨g, 0, none⟩) n rows := by
  obtain ⟨cur, h1, h2, h3⟩ := h.cur
  refine ⟨h.len, fun _ => ⟨g, 0, rfl, h.hg, h1.lt, fun i x hx => ?_⟩⟩
  have hi : i < n := by rw [← h.len]; exact (List.getElem?_eq_some_iff.1 hx).1
  obtain ⟨A, m, c, e1, e3⟩ := h3 i hi
  have ex : rb rows i = x := by unfold rb; rw [List.getD_eq_getElem?_getD, hx]; rfl
  rw [ex] at e3
  refine ⟨[.slice A m c], rfl, ⟨A, m, c, rfl, e3.weaken BoolR.stable fun k hk => hk.1⟩, fun j v hj => ?_⟩
  rcases j with _ | j
  · simp at hj; subst hj
    rw [show 0 + i * 1 + 0 = i by omega]
    exact (h1.cell i).trans e1
  · simp at hj
theorem OutB.made (w : World) (n : Nat) (t : TypeId) : OutB (w.alloc (.cells (Array.replicate n (.slice none 0 0)) t)) w.heap.size w.heap.size n (List.replicate n []) := by
  refine ⟨⟨_, BoxAt.new _ _ _, by simp, fun i hi => ⟨none, 0, 0, by rw [Array.getElem?_replicate, if_pos hi], ?_⟩⟩, by simp, Nat.le_refl _⟩
  have ex : rb (List.replicate n []) i = [] := by unfold rb; rw [List.getD_eq_getElem?_getD, List.getElem?_replicate]; split <;> rfl
  rw [ex]
  exact RdL.nil
end
def onK (l : List Bool) (d : Nat) : Bool := l.getD d false
theorem cntP_next {on : Nat → Bool} {i : Nat} : cntP on (i + 1) = cntP on i + if on i = true then 1 else 0 := by
  unfold cntP
  rw [List.range_succ, List.filter_append, List.length_append]
  cases h : on i with
  | true => rw [List.filter_cons_of_pos h]; rfl
  | false => rw [List.filter_cons_of_neg (by rw [h]; decide)]; rfl
end
section
structure Cal (n k N : Nat) (sts : List DSt) (o : Nat → Nat → Option Nat) (T : Nat → Nat → Hdr) : Prop where
  v : ∀ z, z < 2 → VwS n k N sts z (o z) (T z)
  cl : ∀ st ∈ sts, st.dead = false ∧ st.ok n ∧ st.cache = []
  rest : ∀ z, 2 ≤ z → z < n → ∀ st ∈ sts, st.seen z = rep 0
def hz0 : Hdr := ⟨0, 0, 0, 0⟩
theorem hz0_ok : hz0.ok := ⟨by decide, Lib.hid (by decide), by decide, Lib.hid (by decide)⟩
theorem Cal.new (n k N : Nat) (hn : 2 ≤ n) : Cal n k N (newS n N) (fun _ _ => none) (fun _ _ => hz0) := by
  have hs : ∀ z, z < n → ∀ st ∈ newS n N, st.seen z = rep 0 := fun z hz st hst => by
    obtain ⟨d, hd, rfl⟩ := List.mem_iff_getElem.1 hst
    rw [(newS_at (List.getElem?_eq_getElem hd)).1]; exact DSt.seen_new hz
  refine ⟨fun z hz => ⟨by unfold newS; simp, fun d st hst E h => by (cases h), fun d st hst _ => ?_, fun d E _ h => by (cases h), fun _ => hz0_ok⟩, fun st hst => ?_, fun z h2 hz => hs z hz⟩
  · have := hs z (by omega) st (List.mem_of_getElem? hst)
    exact ⟨by rw [this]; exact goodV_zero, .inr this⟩
  · obtain ⟨d, hd, rfl⟩ := List.mem_iff_getElem.1 hst
    rw [(newS_at (List.getElem?_eq_getElem hd)).1]
    exact ⟨rfl, DSt.ok.new n, rfl⟩
def updT (T : Nat → Nat → Hdr) (z E : Nat) (hd : Hdr) : Nat → Nat → Hdr := fun z' E' => if z' = z ∧ E' = E then hd else T z' E'
def tearO (o : Nat → Nat → Option Nat) (z E : Nat) (on : Nat → Bool) : Nat → Nat → Option Nat := fun z' d => if z' = z ∧ on d = true then some E else o z' d
/-- A step after which each drive has, in one slot, the new head's shard, or what it had. -/
theorem Cal.step {n k N : Nat} {sts sts' : List DSt} {o : Nat → Nat → Option Nat} {T : Nat → Nat → Hdr} (h : Cal n k N sts o T) {z E : Nat} {hd : Hdr} {on : Nat → Bool} (hz : z < 2) (hn2 : 2 ≤ n) (hE : E < 1099511627776) (hok : hd.ok)
    (hnew : ∀ d, d < N → o z d ≠ some E ∨ T z E = hd) (hl : sts'.length = sts.length)
    (hs : ∀ d s1 st, sts[d]? = some s1 → sts'[d]? = some st → st.dead = false ∧ st.ok n ∧ st.cache = [] ∧ ∀ z', z' < n → st.seen z' = if on d = true ∧ z = z' then wrI (putX k N (hRef z E) (hdT hd) d) else s1.seen z') :
    Cal n k N sts' (tearO o z E on) (updT T z E hd) := by
  have hlen := (h.v z hz).len
  have old : ∀ d st, sts'[d]? = some st → ∃ s1, sts[d]? = some s1 := fun d st hst => by
    have := (List.getElem?_eq_some_iff.1 hst).1
    exact ⟨_, List.getElem?_eq_getElem (by omega)⟩
  refine ⟨fun z' hz' => ⟨by rw [hl]; exact hlen, fun d st hst E' hE' => ?_, fun d st hst hno => ?_, fun d E' hd' hE' => ?_, fun E' => ?_⟩, fun st hst => ?_, fun z' h2 hz' st hst => ?_⟩
  · obtain ⟨s1, h1⟩ := old d st hst
    obtain ⟨a1, a2, a3, a4⟩ := hs d s1 st h1 hst
    have hdN : d < N := by rw [← hlen]; exact (List.getElem?_eq_some_iff.1 h1).1
    refine ⟨a1, ?_⟩
    show st.seen z' = _
    rw [a4 z' (by omega)]
    unfold tearO at hE'
    by_cases hc : z' = z ∧ on d = true
    · rw [if_pos hc] at hE'
      cases hE'
      rw [if_pos ⟨hc.2, hc.1.symm⟩, hc.1]
      unfold updT
      rw [if_pos ⟨rfl, rfl⟩]
    · rw [if_neg hc] at hE'
      rw [if_neg (fun h => hc ⟨h.2.symm, h.1⟩)]
      have hh := (h.v z' hz').has d s1 h1 E' hE'
      have hT : updT T z E hd z' E' = T z' E' := by
        unfold updT
        by_cases hc2 : z' = z ∧ E' = E
        · obtain ⟨rfl, rfl⟩ := hc2
          rw [if_pos ⟨rfl, rfl⟩]
          rcases hnew d hdN with h9 | h9
          · exact absurd hE' h9
          · exact h9.symm
        · rw [if_neg hc2]
      rw [hT]
      exact hh.2
  · obtain ⟨s1, h1⟩ := old d st hst
    obtain ⟨a1, a2, a3, a4⟩ := hs d s1 st h1 hst
    unfold tearO at hno
    by_cases hc : z' = z ∧ on d = true
    · rw [if_pos hc] at hno; cases hno
    · rw [if_neg hc] at hno
      have e : st.seen z' = s1.seen z' := by rw [a4 z' (by omega), if_neg (fun h => hc ⟨h.2.symm, h.1⟩)]
      obtain ⟨g1, g2⟩ := (h.v z' hz').non d s1 h1 hno
      rw [e]
      refine ⟨g1, .inr ?_⟩
      rcases g2 with g2 | g2
      · rw [(h.cl s1 (List.mem_of_getElem? h1)).1] at g2; cases g2
      · exact g2
  · unfold tearO at hE'
    by_cases hc : z' = z ∧ on d = true
    · rw [if_pos hc] at hE'
      cases hE'; exact hE
    · rw [if_neg hc] at hE'
      exact (h.v z' hz').ep d E' hd' hE'
  · unfold updT
    split
    · exact hok
    · exact (h.v z' hz').ok E'
  · obtain ⟨d, hd, rfl⟩ := List.mem_iff_getElem.1 hst
    obtain ⟨s1, h1⟩ := old d _ (List.getElem?_eq_getElem hd)
    obtain ⟨a1, a2, a3, _⟩ := hs d s1 _ h1 (List.getElem?_eq_getElem hd)
    exact ⟨a1, a2, a3⟩
  · obtain ⟨d, hd, rfl⟩ := List.mem_iff_getElem.1 hst
    obtain ⟨s1, h1⟩ := old d _ (List.getElem?_eq_getElem hd)
    obtain ⟨_, _, _, a4⟩ := hs d s1 _ h1 (List.getElem?_eq_getElem hd)
    rw [a4 z' hz', if_neg (by omega)]
    exact h.rest z' h2 hz' s1 (List.mem_of_getElem? h1)
theorem put_settle {st : DSt} {n k N d z E : Nat} {hd : Hdr} (hz : z < n) (hdead : st.dead = false) (hok : st.ok n) (hc : st.cache = []) (on : Bool) :
    ((putQ n k N (hRef z E) (hdT hd) d st).settle (keepOf [on])).dead = false ∧ ((putQ n k N (hRef z E) (hdT hd) d st).settle (keepOf [on])).ok n ∧ ((putQ n k N (hRef z E) (hdT hd) d st).settle (keepOf [on])).cache = [] ∧ ∀ z', z' < n → ((putQ n k N (hRef z E) (hdT hd) d st).settle (keepOf [on])).seen z' = if on = true ∧ z = z' then wrI (putX k N (hRef z E) (hdT hd) d) else st.seen z' := by
  rw [putQ_live (n := n) (hRef_ok (E := E) hz) (hdT_byt hd) hdead]
  refine ⟨hdead, ?_, rfl, fun z' hz' => ?_⟩
  · refine (hok.write ?_ ?_).settle _
    · exact wrI_len (row44 (hdT_byt hd) _ _).1
    · exact ⟨Int.natCast_nonneg _, by show ((z : Nat) : Int) < n; omega⟩
  · exact kept_seen (p := z) hc hok hz'
section
variable {n k N : Nat} {sts : List DSt} {o : Nat → Nat → Option Nat} {T : Nat → Nat → Hdr} {z E : Nat} {hd : Hdr} {on : Nat → Bool}
theorem Cal.tear (h : Cal n k N sts o T) (hz : z < 2) (hn2 : 2 ≤ n) (hE : E < 1099511627776) (hok : hd.ok) (hnew : ∀ d, d < N → o z d ≠ some E) {ks : List (List Bool)} (hk : ∀ d, d < N → kAt ks d = [on d]) :
    Cal n k N ((sts.mapIdx (putQ n k N (hRef z E) (hdT hd))).mapIdx (crashG ks)) (tearO o z E on) (updT T z E hd) := by
  refine h.step hz hn2 hE hok (fun d hd => .inl (hnew d hd)) (by simp) fun d s1 st h1 hst => ?_
  obtain ⟨s2, h2, rfl⟩ := mapIdx_at hst
  obtain ⟨s3, h3, rfl⟩ := mapIdx_at h2
  rw [h1] at h3; cases h3
  obtain ⟨c1, c2, c3⟩ := h.cl s1 (List.mem_of_getElem? h1)
  have hdN : d < N := by rw [← (h.v z hz).len]; exact (List.getElem?_eq_some_iff.1 h1).1
  unfold crashG
  rw [hk d hdN]
  exact put_settle (by omega) c1 c2 c3 (on d)
theorem settle_true {st : DSt} (hc : st.cache = []) (p : Int) (x : List Int) : (st.write p x).settle (fun _ => true) = (st.write p x).settle (keepOf [true]) := by
  unfold DSt.settle DSt.write
  rw [hc]
  rfl
theorem Cal.putf (h : Cal n k N sts o T) (hz : z < 2) (hn2 : 2 ≤ n) (hE : E < 1099511627776) (hok : hd.ok) (hnew : ∀ d, d < N → o z d ≠ some E) :
    Cal n k N ((sts.mapIdx (putQ n k N (hRef z E) (hdT hd))).map flushG) (tearO o z E (fun _ => true)) (updT T z E hd) := by
  refine h.step hz hn2 hE hok (fun d hd => .inl (hnew d hd)) (by simp) fun d s1 st h1 hst => ?_
  rw [List.getElem?_map] at hst
  cases h2 : (sts.mapIdx (putQ n k N (hRef z E) (hdT hd)))[d]? with
  | none => rw [h2] at hst; cases hst
  | some s2 =>
    rw [h2] at hst
    obtain rfl := Option.some.inj hst
    obtain ⟨s3, h3, rfl⟩ := mapIdx_at h2
    rw [h1] at h3; cases h3
    obtain ⟨c1, c2, c3⟩ := h.cl s1 (List.mem_of_getElem? h1)
    have hp := putQ_live (n := n) (k := k) (N := N) (d := d) (hRef_ok (E := E) (show z < n by omega)) (hdT_byt hd) c1
    have e : flushG (putQ n k N (hRef z E) (hdT hd) d s1) = (putQ n k N (hRef z E) (hdT hd) d s1).settle (keepOf [true]) := by
      unfold flushG
      rw [hp, if_pos (show (s1.write _ _).dead = false from c1)]
      exact settle_true c3 _ _
    show _ ∧ _
    rw [e]
    exact put_settle (by omega) c1 c2 c3 true
/-- Mended: whoever lacked the head's shard has it. -/
theorem Cal.mend (h : Cal n k N sts o T) (hz : z < 2) (hn2 : 2 ≤ n) (hE : E < 1099511627776) :
    Cal n k N ((sts.mapIdx (mendQ (fun d => decide (o z d = some E)) n k N (hRef z E) (hdT (T z E)))).map flushG) (tearO o z E (fun _ => true)) (updT T z E (T z E)) := by
  refine h.step hz hn2 hE ((h.v z hz).ok E) (fun d hd => .inr rfl) (by simp) fun d s1 st h1 hst => ?_
  rw [List.getElem?_map] at hst
  cases h2 : (sts.mapIdx (mendQ (fun d => decide (o z d = some E)) n k N (hRef z E) (hdT (T z E))))[d]? with
  | none => rw [h2] at hst; cases hst
  | some s2 =>
    rw [h2] at hst
    obtain rfl := Option.some.inj hst
    obtain ⟨s3, h3, rfl⟩ := mapIdx_at h2
    rw [h1] at h3; cases h3
    obtain ⟨c1, c2, c3⟩ := h.cl s1 (List.mem_of_getElem? h1)
    unfold mendQ
    by_cases ho : o z d = some E
    · rw [if_pos (decide_eq_true ho)]
      have e : flushG s1 = s1.settle (fun _ => true) := by unfold flushG; rw [if_pos c1]
      show _ ∧ _
      rw [e]
      refine ⟨c1, c2.settle _, rfl, fun z' hz' => ?_⟩
      rw [c2.seen_flush hz']
      by_cases hzz : z = z'
      · subst hzz
        rw [if_pos ⟨rfl, rfl⟩]
        exact ((h.v z hz).has d s1 h1 E ho).2
      · rw [if_neg (fun h => hzz h.2)]
    · rw [if_neg (by simpa using ho)]
      have hp := putQ_live (n := n) (k := k) (N := N) (d := d) (hRef_ok (E := E) (show z < n by omega)) (hdT_byt (T z E)) c1
      have e : flushG (putQ n k N (hRef z E) (hdT (T z E)) d s1) = (putQ n k N (hRef z E) (hdT (T z E)) d s1).settle (keepOf [true]) := by
        unfold flushG
        rw [hp, if_pos (show (s1.write _ _).dead = false from c1)]
        exact settle_true c3 _ _
      show _ ∧ _
      rw [e]
      exact put_settle (by omega) c1 c2 c3 true
theorem Cal.cache (h : Cal n k N sts o T) : ∀ st ∈ sts, st.cache.length < 900000 := fun st hst => by rw [(h.cl st hst).2.2]; decide
theorem Cal.rd (h : Cal n k N sts o T) (hn : n ≤ 600) (hN : 1 ≤ N) (hN2 : N ≤ 255) : ∀ z, z < n → RdOk sts z := fun z hz => by
  by_cases h2 : z < 2
  · exact (h.v z h2).rd hz hn hN hN2
  · exact rdOk_of fun st hst => by rw [h.rest z (by omega) hz st hst]; exact goodV_zero
/-- Drives that failed. -/
theorem VwS.gone {z : Nat} {o : Nat → Option Nat} {T : Nat → Hdr} (h : VwS n k N sts z o T) (hz : z < n) (D : List Int) : VwS n k N (sts.mapIdx (goneS n D)) z (fun d => if (d : Int) ∈ D then none else o d) T := by
  refine ⟨by simp [h.len], fun d st hst E hE => ?_, fun d st hst hno => ?_, fun d E hd hE => ?_, h.ok⟩
  · rcases goneS_at hst with ⟨h1, rfl⟩ | ⟨h1, h2⟩
    · rw [if_pos h1] at hE; cases hE
    · rw [if_neg h1] at hE
      exact h.has d st h2 E hE
  · rcases goneS_at hst with ⟨h1, rfl⟩ | ⟨h1, h2⟩
    · exact ⟨by rw [gone_seen hz]; exact goodV_zero, .inl rfl⟩
    · rw [if_neg h1] at hno
      exact h.non d st h2 hno
  · split at hE
    · cases hE
    · exact h.ep d E hd hE
theorem seen_zero_none {sts : List DSt} {z : Nat} (h : ∀ st ∈ sts, st.seen z = rep 0) : shL sts z = [] := by
  unfold shL
  rw [List.filterMap_eq_nil_iff]
  intro st hst
  unfold decd
  split
  · rfl
  · have hs : secN st z = List.replicate 64 0 := by unfold secN; rw [h st hst]; rfl
    rw [hs, if_neg (fun h => absurd h.2 (by decide))]
/-- What epochs are seen, where the slots are as told and nothing else stands anywhere. -/
theorem seen_of {sts : List DSt} {o : Nat → Nat → Option Nat} {T : Nat → Nat → Hdr} {mx : Nat} (hv : ∀ z, z < 2 → VwS n k N sts z (o z) (T z)) (hr : ∀ z, 2 ≤ z → z < n → ∀ st ∈ sts, st.seen z = rep 0) (hn2 : 2 ≤ n) (hn : n ≤ 600) (hN : 1 ≤ N) (hN2 : N ≤ 255) (h : SeenE sts n mx) :
    (∀ z d E, z < 2 → d < N → o z d = some E → E ≤ mx) ∧ (mx = 0 ∨ ∃ z d, z < 2 ∧ d < N ∧ o z d = some mx) := by
  have hg : ∀ z E d, (putX k N (hRef z E) (hdT (T z E)) d).gen / 1048576 = E := fun z E d => by show E * 1048576 / 1048576 = E; omega
  refine ⟨fun z d E hz hd ho => ?_, ?_⟩
  · have := h.1 z (by omega) _ (((hv z hz).mem (by omega) hn hN hN2).2 ⟨d, E, hd, ho, rfl⟩)
    rw [hg] at this
    exact this
  · rcases h.2 with h1 | ⟨z, hz, x, hx, he⟩
    · exact .inl h1
    · by_cases h2 : z < 2
      · obtain ⟨d, E, hd, ho, rfl⟩ := ((hv z h2).mem hz hn hN hN2).1 hx
        rw [hg] at he
        subst he
        exact .inr ⟨z, d, h2, hd, ho⟩
      · rw [seen_zero_none (hr z (by omega) hz)] at hx
        cases hx
end
end
section
section
variable {X : Nat → Prop} {w0 w : World} {a cb bf k m n : Nat} {sts : List DSt}
set_option maxRecDepth 100000 in
set_option maxHeartbeats 16000000 in
theorem hput_any (h : SMidX X w0 w a cb bf k m n sts) {z E : Nat} {hd : Hdr} (hz : z < n) (hz2 : z < 2) (hE : E < 1099511627776) (hok : hd.ok) (hcl : ∀ st ∈ sts, st.cache.length < 900000) :
    Calls Tryz.prog 15 #[.pointer (some ⟨a, 0, none⟩), .pointer (some ⟨cb, 0, none⟩), .int .i64 (z : Int), .agg (hdC E hd)] w fun e w' => e = .returned (.int .i64 0) ∧ SMidX X w0 w' a cb bf k m n (sts.mapIdx (putQ n k (k + m) (hRef z E) (hdT hd))) ∧ KpX X w w' := by
  have A0 := BoxAt.new w (hdC E hd) 26
  have b0 : Below w.heap.size w (w.alloc (.cells (hdC E hd) 26)) := (Below.refl _ _).alloc (Nat.le_refl _) _
  have s0 := World.size_alloc w (.cells (hdC E hd) 26)
  obtain ⟨w1, hw1⟩ : ∃ w1, w.alloc (.cells (hdC E hd) 26) = w1 := ⟨_, rfl⟩
  obtain ⟨q, hq⟩ : ∃ q, w.heap.size = q := ⟨_, rfl⟩
  rw [hw1] at A0 b0 s0
  rw [hq] at A0
  have hX1 := h.below' b0
  obtain ⟨t1, t2, t3⟩ := Tells.smid hX1
  obtain ⟨y1, hy1⟩ := Later.refl0 w1
  have hk1 := h.mid.k1
  have hrdy := hready_any t1 t2 (fun _ => t3) (z : Int) y1
  rw [hy1, show rdyE (k + m) (k + m) n (z : Int) = 0 from by unfold rdyE isS; rw [if_neg (by omega), if_neg (by rw [decide_eq_true (by omega : (0 : Int) ≤ (z : Int) ∧ (z : Int) < 2)]; simp; omega)]] at hrdy
  have HRDY := Lib.hid hrdy
  have BA := Lib.hid A0
  have HB1 := Lib.hid b0
  have HX := Lib.hid h
  clear A0 b0 s0 hX1 t1 t2 t3 hy1 hrdy h
  unfold hdC at hw1 BA ⊢
  go_enter Tryz.func15, Tryz.ntmps15
  go_wp2_with fail
  refine HRDY.out.mono ?_
  clear HRDY hw1
  rintro e w2 ⟨rfl, y, rfl⟩
  have hby : Below w1.heap.size w1 y.to := y.ok
  have bA2 := BA.out.below hby
  have hb2 := HB1.out.trans (hby.mono HB1.out.size)
  obtain ⟨w2, hw2⟩ : ∃ w2, y.to = w2 := ⟨_, rfl⟩
  rw [hw2] at bA2 hb2 ⊢
  have BA2 := Lib.hid bA2
  have HB2 := Lib.hid hb2
  have k0 := bA2.cell 0
  have hrf := href_any (w := w2) (slot := (z : Int)) (ep := E)
  rw [show supC (z : Int) E = #[.int .u8 1, .int .i64 (z : Int), .int .u64 ((E * 1048576 : Nat) : Int)] from if_pos ⟨decide_eq_true (by omega), hE⟩] at hrf
  have HRF := Lib.hid hrf
  clear bA2 hb2 hby hw2 BA HB1 hrf
  go_wp2_with fail
  refine HRF.out.mono ?_
  clear HRF k0
  rintro e w3 ⟨rfl, hb3⟩
  have bR := BoxAt.new w3 #[.int .u8 1, .int .i64 (z : Int), .int .u64 ((E * 1048576 : Nat) : Int)] 41
  have hb4 := (HB2.out.trans (hb3.mono HB2.out.size)).alloc (HB2.out.trans (hb3.mono HB2.out.size)).size (.cells #[.int .u8 1, .int .i64 (z : Int), .int .u64 ((E * 1048576 : Nat) : Int)] 41)
  have hb24 : Below w2.heap.size w2 (w3.alloc (.cells #[.int .u8 1, .int .i64 (z : Int), .int .u64 ((E * 1048576 : Nat) : Int)] 41)) := hb3.alloc hb3.size _
  obtain ⟨G, hG⟩ : ∃ G, E * 1048576 = G := ⟨_, rfl⟩
  rw [hG] at bR hb4 hb24 ⊢
  obtain ⟨w4, hw4⟩ : ∃ w4, w3.alloc (.cells #[.int .u8 1, .int .i64 (z : Int), .int .u64 (G : Int)] 41) = w4 := ⟨_, rfl⟩
  obtain ⟨q10, hq10⟩ : ∃ q10, w3.heap.size = q10 := ⟨_, rfl⟩
  have hq4 : w4.heap.size = q10 + 1 := by rw [← hw4, World.size_alloc, hq10]
  rw [hw4] at bR hb4 hb24
  rw [hq10] at bR
  have bA4 := BA2.out.below hb24
  have hX4 := HX.out.below hb4
  have hqq : q < w4.heap.size ∧ w.heap.size ≤ q ∧ w.heap.size ≤ q10 := ⟨bA4.lt, by omega, by have := HB2.out.size; have := hb3.size; omega⟩
  have HK : Hid (∀ w', KpX (fun j => X j ∨ w.heap.size ≤ j ∧ j < w4.heap.size) w4 w' → (w'.cell? ⟨q10, 0, none⟩ = some (.int .u8 1) ∧ w'.cell? ⟨q10, 1, none⟩ = some (.int .i64 (z : Int)) ∧ w'.cell? ⟨q10, 2, none⟩ = some (.int .u64 (G : Int))) ∧ (w'.cell? ⟨q, 1, none⟩ = some (.int .i64 (hd.p : Int)) ∧ w'.cell? ⟨q, 2, none⟩ = some (.int .u64 (hd.g : Int)) ∧ w'.cell? ⟨q, 3, none⟩ = some (.int .i64 (hd.ct : Int)) ∧ w'.cell? ⟨q, 4, none⟩ = some (.int .i64 (hd.sz : Int)))) := Lib.hid fun w' hk => by
    have b1 := hk.box bR (.inr ⟨hqq.2.2, by omega⟩)
    have b2 := hk.box bA4 (.inr ⟨hqq.2.1, hqq.1⟩)
    exact ⟨⟨b1.cell 0, b1.cell 1, b1.cell 2⟩, b2.cell 1, b2.cell 2, b2.cell 3, b2.cell 4⟩
  have hsd := HK.out w4.drew ⟨fun j _ => rfl, Nat.le_refl _⟩
  have c0 := bR.cell 0
  have c1 := bR.cell 1
  have c2 := bR.cell 2
  have HX4 := Lib.hid hX4
  have HB4 := Lib.hid hb4
  have HGe := Lib.hid hG
  clear bR hb4 hb24 bA4 hX4 hb3 hG
  go_wp2_with fail
  clear hw4 hq10 hq
  refine wp_region_held_drew (S := fun w' => (w'.cell? ⟨q10, 0, none⟩ = some (.int .u8 1) ∧ w'.cell? ⟨q10, 1, none⟩ = some (.int .i64 (z : Int)) ∧ w'.cell? ⟨q10, 2, none⟩ = some (.int .u64 (G : Int))) ∧ (w'.cell? ⟨q, 1, none⟩ = some (.int .i64 (hd.p : Int)) ∧ w'.cell? ⟨q, 2, none⟩ = some (.int .u64 (hd.g : Int)) ∧ w'.cell? ⟨q, 3, none⟩ = some (.int .i64 (hd.ct : Int)) ∧ w'.cell? ⟨q, 4, none⟩ = some (.int .i64 (hd.sz : Int)))) (by kernel_rfl) (by with_reducible first | exact hsd | exact HK.out _ hk5 | exact HK.out _ hk6) (fun hHeld => ?_)
  refine wpAnyH_take (i := 0) (v := ?_) rfl (by kernel_rfl) (by kernel_rfl) (by kernel_rfl) (fun _ _ _ h => h) (Or.inl ⟨by first | kernel_rfl | rfl, ?_⟩) (by assumption) ?_
  rotate_left
  · (intro wq hSw; (try dsimp only at hSw); (try simp (maxSteps := 2000000) only [zz1, zz2, zz3]); go_simp); try with_reducible rfl
  try simp (maxSteps := 2000000) only [zz1, zz2, zz3, Act.put, zz4, zz5, zz6]
  refine wpAnyH_take (i := 1) (v := ?_) rfl (by kernel_rfl) (by kernel_rfl) (by kernel_rfl) (fun _ _ _ h => h) (Or.inl ⟨by first | kernel_rfl | rfl, ?_⟩) (by assumption) ?_
  rotate_left
  · (intro wq hSw; (try dsimp only at hSw); (try simp (maxSteps := 2000000) only [zz1, zz2, zz3]); go_simp); try with_reducible rfl
  try simp (maxSteps := 2000000) only [zz1, zz2, zz3, Act.put, zz4, zz5, zz6]
  refine wpAnyH_take (i := 2) (v := ?_) rfl (by kernel_rfl) (by kernel_rfl) (by kernel_rfl) (fun _ _ _ h => h) (Or.inl ⟨by first | kernel_rfl | rfl, ?_⟩) (by assumption) ?_
  rotate_left
  · (intro wq hSw; (try dsimp only at hSw); (try simp (maxSteps := 2000000) only [zz1, zz2, zz3]); go_simp); try with_reducible rfl
  try simp (maxSteps := 2000000) only [zz1, zz2, zz3, Act.put, zz4, zz5, zz6]
  refine wpAnyH_take (i := 3) (v := ?_) rfl (by kernel_rfl) (by kernel_rfl) (by kernel_rfl) (fun _ _ _ h => h) (Or.inl ⟨by first | kernel_rfl | rfl, ?_⟩) (by assumption) ?_
  rotate_left
  · (intro wq hSw; (try dsimp only at hSw); (try simp (maxSteps := 2000000) only [zz1, zz2, zz3]); go_simp); try with_reducible rfl
  try simp (maxSteps := 2000000) only [zz1, zz2, zz3, Act.put, zz4, zz5, zz6]
  refine wpAnyH_take (i := 4) (v := ?_) rfl (by kernel_rfl) (by kernel_rfl) (by kernel_rfl) (fun _ _ _ h => h) (Or.inl ⟨by first | kernel_rfl | rfl, ?_⟩) (by assumption) ?_
  rotate_left
  · (intro wq hSw; (try dsimp only at hSw); (try simp (maxSteps := 2000000) only [zz1, zz2, zz3]); go_simp); try with_reducible rfl
  try simp (maxSteps := 2000000) only [zz1, zz2, zz3, Act.put, zz4, zz5, zz6]
  refine wpAnyH_ready (rs := [5]) (by kernel_rfl) (by simp) ?_
  refine AllReadyH.cons rfl (fun K hK => ?_) AllReadyH.nil
  try simp (maxSteps := 2000000) only [zz1, zz2, zz3]
  go_simp
  go_at_call 48
  have hpb := spb_any (w := w4.drew) (c := 0) (p := (hd.p : Int)) (ct := (hd.ct : Int)) (sz := (hd.sz : Int)) (g := hd.g) (xs := []) (RdL.nil (A := none) (S := fun _ => True)) (by omega) hok.g
  unfold scC at hpb
  refine hpb.mono ?_
  clear hpb
  rintro e w5 ⟨A5, c5, rfl, hc5, hr5, hb5⟩
  have hb45 : Below w4.heap.size w4 w5 := (Below.refl w4.heap.size w4).drew.trans (show Below w4.heap.size w4.drew w5 from hb5)
  have hk5 := KpX.of_below hb45 (fun j hj => (show X j ∨ w.heap.size ≤ j ∧ j < w4.heap.size from hj).elim (fun h => HX4.out.lt (.inl h)) (fun h => h.2))
  have HX5 := Lib.hid (HX4.out.below' hb45)
  have HR5 := Lib.hid hr5
  have HC5 := Lib.hid hc5
  clear hb5 hr5 hc5
  try (go_wp2_with fail)
  refine hK.out _ _ (by with_reducible first | exact hsd | exact HK.out _ hk5 | exact HK.out _ hk6) (fun hHeld => ?_)
  clear hK K
  try simp (maxSteps := 2000000) only [zz1, zz2, zz3, Act.put, zz4, zz5, zz6]
  refine wpAnyH_ready (rs := [6]) (by kernel_rfl) (by simp) ?_
  refine AllReadyH.cons rfl (fun K hK => ?_) AllReadyH.nil
  try simp (maxSteps := 2000000) only [zz1, zz2, zz3]
  go_simp
  go_at_call 70
  have hpt := put_x (r := hRef z E) (xs := hdT hd) HX5.out (hRef_ok hz) (hRef_g (by omega)) hcl (by have h := HR5.out; rw [List.nil_append, Nat.zero_add] at h; exact h) (by have := HC5.out; omega) (by omega)
  have e9 : refC (hRef z E) = #[.int .u8 1, .int .i64 (z : Int), .int .u64 (G : Int)] := by rw [← HGe.out]; rfl
  rw [e9] at hpt
  clear e9
  refine hpt.mono ?_
  clear hpt
  rintro e w6 ⟨rfl, hX6, hkk⟩
  have hk6 := hk5.trans hkk
  have HX6 := Lib.hid hX6
  have HK6 := Lib.hid hk6
  clear hX6 hkk
  try (go_wp2_with fail)
  refine hK.out _ _ (by with_reducible first | exact hsd | exact HK.out _ hk5 | exact HK.out _ hk6) (fun hHeld => ?_)
  clear hK K
  try simp (maxSteps := 2000000) only [zz1, zz2, zz3, Act.put, zz4, zz5, zz6]
  refine wpAnyH_take (i := 7) (v := ?_) rfl (by kernel_rfl) (by kernel_rfl) (by kernel_rfl) (fun _ _ _ h => h) (Or.inl ⟨by first | kernel_rfl | rfl, ?_⟩) (by assumption) ?_
  rotate_left
  · (intro wq hSw; (try dsimp only at hSw); (try simp (maxSteps := 2000000) only [zz1, zz2, zz3]); go_simp); try with_reducible rfl
  try simp (maxSteps := 2000000) only [zz1, zz2, zz3, Act.put, zz4, zz5, zz6]
  refine wpAnyH_take (i := 8) (v := ?_) rfl (by kernel_rfl) (by kernel_rfl) (by kernel_rfl) (fun _ _ _ h => h) (Or.inl ⟨by first | kernel_rfl | rfl, ?_⟩) (by assumption) ?_
  rotate_left
  · (intro wq hSw; (try dsimp only at hSw); (try simp (maxSteps := 2000000) only [zz1, zz2, zz3]); go_simp); try with_reducible rfl
  try simp (maxSteps := 2000000) only [zz1, zz2, zz3, Act.put, zz4, zz5, zz6]
  refine wpAnyH_take (i := 9) (v := ?_) rfl (by kernel_rfl) (by kernel_rfl) (by kernel_rfl) (fun _ _ _ h => h) (Or.inl ⟨by first | kernel_rfl | rfl, ?_⟩) (by assumption) ?_
  rotate_left
  · (intro wq hSw; (try dsimp only at hSw); (try simp (maxSteps := 2000000) only [zz1, zz2, zz3]); go_simp); try with_reducible rfl
  try simp (maxSteps := 2000000) only [zz1, zz2, zz3, Act.put, zz4, zz5, zz6]
  refine wpAnyH_take (i := 10) (v := ?_) rfl (by kernel_rfl) (by kernel_rfl) (by kernel_rfl) (fun _ _ _ h => h) (Or.inl ⟨by first | kernel_rfl | rfl, ?_⟩) (by assumption) ?_
  rotate_left
  · (intro wq hSw; (try dsimp only at hSw); (try simp (maxSteps := 2000000) only [zz1, zz2, zz3]); go_simp); try with_reducible rfl
  try simp (maxSteps := 2000000) only [zz1, zz2, zz3, Act.put, zz4, zz5, zz6]
  refine wpAnyH_take (i := 11) (v := ?_) rfl (by kernel_rfl) (by kernel_rfl) (by kernel_rfl) (fun _ _ _ h => h) (Or.inl ⟨by first | kernel_rfl | rfl, ?_⟩) (by assumption) ?_
  rotate_left
  · (intro wq hSw; (try dsimp only at hSw); (try simp (maxSteps := 2000000) only [zz1, zz2, zz3]); go_simp); try with_reducible rfl
  try simp (maxSteps := 2000000) only [zz1, zz2, zz3, Act.put, zz4, zz5, zz6]
  refine wpAnyH_done (by kernel_rfl) ?_ _
  clear hHeld
  go_wp2_with fail
  go_ret
  exact ⟨rfl, HX6.out.sub (fun j hj => .inl hj), (KpX.of_below HB4.out (fun j hj => HX.out.lt hj)).trans (HK6.out.mono fun j hj => .inl hj)⟩
end
end
section
section
variable {n k N z : Nat} {sts : List DSt} {E : Nat} {hd : Hdr}
/-- Put, not flushed: the slot's view. -/
theorem VwS.put_same (hz : z < n) (hl : sts.length = N) (hlive : ∀ st ∈ sts, st.dead = false) (hE : E < 1099511627776) (hok : hd.ok) : VwS n k N (sts.mapIdx (putQ n k N (hRef z E) (hdT hd))) z (fun _ => some E) (fun _ => hd) := by
  refine ⟨by simp [hl], fun d st hst E' hE' => ?_, fun d st hst h => by (cases h), fun d E' _ hE' => by cases hE'; exact hE, fun _ => hok⟩
  obtain ⟨s1, h1, rfl⟩ := mapIdx_at hst
  cases hE'
  exact has_put (hRef_ok hz) (hdT_byt hd) (hlive s1 (List.mem_of_getElem? h1))
theorem VwS.put_other {z' : Nat} {o : Nat → Option Nat} {T : Nat → Hdr} (h : VwS n k N sts z' o T) (hz : z < n) (hne : z ≠ z') (hlive : ∀ st ∈ sts, st.dead = false) : VwS n k N (sts.mapIdx (putQ n k N (hRef z E) (hdT hd))) z' o T := by
  have hs : ∀ (d : Nat) (st : DSt), (sts.mapIdx (putQ n k N (hRef z E) (hdT hd)))[d]? = some st → ∃ s1 : DSt, sts[d]? = some s1 ∧ st.dead = s1.dead ∧ st.seen z' = s1.seen z' := fun d st hst => by
    obtain ⟨s1, h1, rfl⟩ := mapIdx_at hst
    have hp := putQ_live (n := n) (k := k) (N := N) (d := d) (hRef_ok (E := E) hz) (hdT_byt hd) (hlive s1 (List.mem_of_getElem? h1))
    refine ⟨s1, h1, by rw [hp]; rfl, ?_⟩
    rw [hp]
    show (s1.write ((z : Nat) : Int) _).seen z' = _
    rw [DSt.seen_write, if_neg (by omega)]
  refine ⟨by simp [h.len], fun d st hst E' hE' => ?_, fun d st hst hno => ?_, h.ep, h.ok⟩
  · obtain ⟨s1, h1, h2, h3⟩ := hs d st hst
    obtain ⟨g1, g2⟩ := h.has d s1 h1 E' hE'
    exact ⟨by rw [h2]; exact g1, by show st.seen z' = _; rw [h3]; exact g2⟩
  · obtain ⟨s1, h1, h2, h3⟩ := hs d st hst
    rw [h2, h3]
    exact h.non d s1 h1 hno
theorem hput_alive (hz : z < n) (hlive : ∀ st ∈ sts, st.dead = false) : ∀ st ∈ sts.mapIdx (putQ n k N (hRef z E) (hdT hd)), st.dead = false := fun st hst => by
  obtain ⟨d, hd', rfl⟩ := List.mem_iff_getElem.1 hst
  obtain ⟨s1, h1, he⟩ := mapIdx_at (List.getElem?_eq_getElem hd')
  rw [he, putQ_live (n := n) (hRef_ok (E := E) hz) (hdT_byt hd) (hlive s1 (List.mem_of_getElem? h1))]
  exact hlive s1 (List.mem_of_getElem? h1)
theorem best_const (hk : 1 ≤ k) (hkN : k ≤ N) : BestE (fun _ => some E) k N (some E) := by
  refine ⟨?_, fun E' hE' => ?_⟩
  · unfold hasC
    rw [cntP_congr (q := fun _ => true) (fun d _ => by simp), cntP_all]; exact hkN
  · obtain ⟨d, _, ho⟩ := hasC_pos hk hE'
    cases ho
    exact Nat.le_refl _
theorem best_none (hk : 1 ≤ k) : BestE (fun _ => none) k N none := fun E' hE' => by
  obtain ⟨d, _, ho⟩ := hasC_pos hk hE'
  cases ho
end
theorem live_newS (n N : Nat) : ∀ st ∈ newS n N, st.dead = false := fun st hst => by
  obtain ⟨d, hd, rfl⟩ := List.mem_iff_getElem.1 hst
  rw [(newS_at (List.getElem?_eq_getElem hd)).1]; rfl
def hA4 : Hdr := ⟨2, 9, 1, 7⟩
theorem hA4_ok : hA4.ok := ⟨by decide, Lib.hid (by decide), by decide, Lib.hid (by decide)⟩
def st1 : List DSt := (newS 3 3).mapIdx (putQ 3 2 3 (hRef 0 4) (hdT hA4))
def st2 : List DSt := st1.mapIdx (putQ 3 2 3 (hRef 1 5) (hdT hz0))
theorem new_vw : Vw2 3 2 3 (newS 3 3) (fun _ => none) (fun _ _ => hz0) := ⟨fun z hz => ⟨_, (Cal.new 3 2 3 (by decide)).v z hz, best_none (by decide)⟩, by decide⟩
theorem st1_live : ∀ st ∈ st1, st.dead = false := hput_alive (by decide) (live_newS 3 3)
theorem st2_v0 : VwS 3 2 3 st2 0 (fun _ => some 4) (fun _ => hA4) := (VwS.put_same (by decide) (by decide) (live_newS 3 3) (by decide) hA4_ok).put_other (by decide) (by decide) st1_live
theorem st2_v1 : VwS 3 2 3 st2 1 (fun _ => some 5) (fun _ => hz0) := VwS.put_same (by decide) (by decide +kernel) st1_live (by decide) hz0_ok
def e45 (z : Nat) : Option Nat := if z = 0 then some 4 else some 5
def t45 (z _ : Nat) : Hdr := if z = 0 then hA4 else hz0
theorem st2_vw : Vw2 3 2 3 st2 e45 t45 := ⟨fun z hz => by
  have : z = 0 ∨ z = 1 := by omega
  rcases this with rfl | rfl
  · exact ⟨_, st2_v0, best_const (by decide) (by decide)⟩
  · exact ⟨_, st2_v1, best_const (by decide) (by decide)⟩, by decide⟩
theorem st2_rest : ∀ z, 2 ≤ z → z < 3 → ∀ st ∈ st2, st.seen z = rep 0 := fun z h1 h2 st hst => by
  obtain rfl : z = 2 := by omega
  obtain ⟨d, hd, rfl⟩ := List.mem_iff_getElem.1 hst
  obtain ⟨s1, e1, he⟩ := mapIdx_at (List.getElem?_eq_getElem hd)
  obtain ⟨s0, e0, hf⟩ := mapIdx_at (show st1[d]? = some s1 from e1)
  have l0 := live_newS 3 3 s0 (List.mem_of_getElem? e0)
  have l1 := st1_live s1 (List.mem_of_getElem? e1)
  rw [he, putQ_live (n := 3) (hRef_ok (E := 5) (by decide)) (hdT_byt hz0) l1]
  show (s1.write ((1 : Nat) : Int) _).seen 2 = _
  rw [DSt.seen_write, if_neg (by decide), hf, putQ_live (n := 3) (hRef_ok (E := 4) (by decide)) (hdT_byt hA4) l0]
  show (s0.write ((0 : Nat) : Int) _).seen 2 = _
  rw [DSt.seen_write, if_neg (by decide), (newS_at e0).1]
  exact DSt.seen_new (by decide)
theorem st2_seen {mx : Nat} (h : SeenE st2 3 mx) : mx = 5 := by
  have hv : ∀ z, z < 2 → VwS 3 2 3 st2 z ((fun z _ => e45 z) z) (t45 z) := fun z hz => by
    have : z = 0 ∨ z = 1 := by omega
    rcases this with rfl | rfl
    · exact st2_v0
    · exact st2_v1
  obtain ⟨h1, h2⟩ := seen_of hv st2_rest (by decide) (by decide) (by decide) (by decide) h
  have h3 := h1 1 0 5 (by decide) (by decide) rfl
  rcases h2 with h2 | ⟨z, d, hz, _, ho⟩
  · omega
  · have : z = 0 ∨ z = 1 := by omega
    rcases this with rfl | rfl
    · have h4 : some 4 = some mx := ho
      cases h4; omega
    · have h4 : some 5 = some mx := ho
      cases h4; rfl
theorem st2_rd : ∀ z, z < 3 → RdOk st2 z := fun z hz => by
  have : z = 0 ∨ z = 1 ∨ z = 2 := by omega
  rcases this with rfl | rfl | rfl
  · exact st2_v0.rd (by decide) (by decide) (by decide) (by decide)
  · exact st2_v1.rd (by decide) (by decide) (by decide) (by decide)
  · exact rdOk_of fun st hst => by rw [st2_rest 2 (by decide) (by decide) st hst]; exact goodV_zero
theorem cache_mapIdx {n k N z E : Nat} {hd : Hdr} {sts : List DSt} {c : Nat} (h : ∀ st ∈ sts, st.cache.length < c) : ∀ st ∈ sts.mapIdx (putQ n k N (hRef z E) (hdT hd)), st.cache.length < c + 1 := fun st hst => by
  obtain ⟨d, hd', rfl⟩ := List.mem_iff_getElem.1 hst
  obtain ⟨s1, h1, he⟩ := mapIdx_at (List.getElem?_eq_getElem hd')
  rw [he]
  have := h s1 (List.mem_of_getElem? h1)
  have := putQ_cache (n := n) (k := k) (N := N) (d := d) (r := hRef z E) (xs := hdT hd) (st := s1)
  omega
theorem cache_new1 : ∀ st ∈ newS 3 3, st.cache.length < 1 := fun st hst => by
  obtain ⟨d, hd, rfl⟩ := List.mem_iff_getElem.1 hst
  rw [(newS_at (List.getElem?_eq_getElem hd)).1]; decide
set_option maxRecDepth 100000 in
set_option maxHeartbeats 16000000 in
theorem heads_any {w : World} : Calls Tryz.prog 20 #[] w fun e w' => e = .returned (.bool true) ∧ Below w.heap.size w w' := by
  have hmd := made_law (w0 := w) (w := w) (k := 2) (m := 1) (n := 3) (Below.refl _ _) (by omega) (by omega) (by omega) (by omega) (by omega)
  have e0 : geoC ((2 : Nat) : Int) ((1 : Nat) : Int) ((3 : Nat) : Int) = #[.int .i64 2, .int .i64 1, .int .i64 3] := rfl
  rw [e0] at hmd
  clear e0
  go_enter Tryz.func20, Tryz.ntmps20
  go_wp2_with fail
  refine hmd.mono ?_
  clear hmd
  rintro e w1 ⟨a, cb, bf, rfl, hM, hb1⟩
  have HM1 := Lib.hid (SMid.x0 (show SMid w w1 a cb bf 2 1 3 (newS 3 3) from hM))
  clear hM hb1
  have hf := hfind_any HM1.out new_vw
  rw [show fdV (fun _ => none) (fun _ _ => hz0) = #[.int .u64 0, .int .i64 0, .int .u64 0, .int .i64 0, .int .i64 0] from rfl, show (fdS (fun _ => none) : Int) = 0 from rfl, show fdE (fun _ => none) = 190 from rfl] at hf
  go_wp2_with fail
  refine hf.mono ?_
  clear hf
  rintro e w2 ⟨rfl, hb2⟩
  have hb3 := hb2.alloc hb2.size (.cells #[.int .u64 0, .int .i64 0, .int .u64 0, .int .i64 0, .int .i64 0] 26)
  have BZ := Lib.hid (BoxAt.new w2 #[.int .u64 0, .int .i64 0, .int .u64 0, .int .i64 0, .int .i64 0] 26)
  have hlw := hb2.size
  obtain ⟨w3, hw3⟩ : ∃ w3, w2.alloc (.cells #[.int .u64 0, .int .i64 0, .int .u64 0, .int .i64 0, .int .i64 0] 26) = w3 := ⟨_, rfl⟩
  obtain ⟨q, hq⟩ : ∃ q, w2.heap.size = q := ⟨_, rfl⟩
  rw [hw3] at hb3 BZ
  rw [hq] at BZ hlw
  have HB3 := Lib.hid hb3
  have c0 := BZ.out.cell 0
  have c1 := BZ.out.cell 1
  have c2 := BZ.out.cell 2
  have c3 := BZ.out.cell 3
  have c4 := BZ.out.cell 4
  have f0 := BZ.out.frozen 0
  have f1 := BZ.out.frozen 1
  have f2 := BZ.out.frozen 2
  have f3 := BZ.out.frozen 3
  have f4 := BZ.out.frozen 4
  clear hb2 hb3
  go_wp2_with fail
  obtain ⟨w4, hw4⟩ : ∃ w4, ((((w3.setCell ⟨q, 0, none⟩ (.int .u64 0)).setCell ⟨q, 1, none⟩ (.int .i64 0)).setCell ⟨q, 2, none⟩ (.int .u64 0)).setCell ⟨q, 3, none⟩ (.int .i64 0)).setCell ⟨q, 4, none⟩ (.int .i64 0) = w4 := ⟨_, rfl⟩
  have hb4 : Below w1.heap.size w1 w4 := by
    rw [← hw4]
    exact ((((HB3.out.setCell (p := ⟨q, 0, none⟩) hlw _).setCell (p := ⟨q, 1, none⟩) hlw _).setCell (p := ⟨q, 2, none⟩) hlw _).setCell (p := ⟨q, 3, none⟩) hlw _).setCell (p := ⟨q, 4, none⟩) hlw _
  have hp := hput_any (z := 0) (E := 4) (hd := hA4) (HM1.out.below' hb4) (by decide) (by decide) (by decide) hA4_ok cache_new
  rw [show hdC 4 hA4 = #[.int .u64 4, .int .i64 2, .int .u64 9, .int .i64 1, .int .i64 7] from rfl, show ((0 : Nat) : Int) = 0 from rfl] at hp
  have HP := Lib.hid hp
  clear hb4 hp
  go_wp2_with fail
  rw [hw4]
  refine HP.out.mono ?_
  clear HP hw4 hw3 hq c0 c1 c2 c3 c4 f0 f1 f2 f3 f4 HB3 BZ
  rintro e w5 ⟨rfl, hM5, _⟩
  have HM5 := Lib.hid (show SMidX (fun j => j < w.heap.size) w w5 a cb bf 2 1 3 st1 from hM5)
  have hp := hput_any (z := 1) (E := 5) (hd := hz0) HM5.out (by decide) (by decide) (by decide) hz0_ok (fun st hst => Nat.lt_of_lt_of_le (cache_mapIdx cache_new1 st hst) (by decide))
  rw [show hdC 5 hz0 = #[.int .u64 5, .int .i64 0, .int .u64 0, .int .i64 0, .int .i64 0] from rfl, show ((1 : Nat) : Int) = 1 from rfl] at hp
  have HP := Lib.hid hp
  clear hM5 hp HM1
  go_wp2_with fail
  refine HP.out.mono ?_
  clear HP HM5
  rintro e w6 ⟨rfl, hM6, _⟩
  have HM6 := Lib.hid (show SMidX (fun j => j < w.heap.size) w w6 a cb bf 2 1 3 st2 from hM6)
  have hf := hfind_any HM6.out st2_vw
  rw [show fdV e45 t45 = #[.int .u64 5, .int .i64 0, .int .u64 0, .int .i64 0, .int .i64 0] from rfl, show (fdS e45 : Int) = 1 from rfl, show fdE e45 = 0 from rfl] at hf
  clear hM6
  go_wp2_with fail
  refine hf.mono ?_
  clear hf
  rintro e w7 ⟨rfl, hb7⟩
  have hb8 := hb7.alloc hb7.size (.cells #[.int .u64 5, .int .i64 0, .int .u64 0, .int .i64 0, .int .i64 0] 26)
  have b8 := BoxAt.new w7 #[.int .u64 5, .int .i64 0, .int .u64 0, .int .i64 0, .int .i64 0] 26
  obtain ⟨w8, hw8⟩ : ∃ w8, w7.alloc (.cells #[.int .u64 5, .int .i64 0, .int .u64 0, .int .i64 0, .int .i64 0] 26) = w8 := ⟨_, rfl⟩
  obtain ⟨q8, hq8⟩ : ∃ q8, w7.heap.size = q8 := ⟨_, rfl⟩
  rw [hw8] at hb8 b8
  rw [hq8] at b8
  have HM8 := Lib.hid (HM6.out.below' hb8)
  have B8 := Lib.hid b8
  have hg := hget2 HM8.out st2_vw (z := 0) (by decide)
  rw [show gtV (t45 0) (e45 0) = #[.int .u64 4, .int .i64 2, .int .u64 9, .int .i64 1, .int .i64 7] from rfl, show gtE (e45 0) = 0 from rfl, show ((0 : Nat) : Int) = 0 from rfl] at hg
  have HW8 := Lib.hid hw8
  clear hb7 hb8 b8 HM6 hw8
  go_wp2_with fail
  rw [HW8.out]
  refine hg.mono ?_
  clear hg HW8 hq8
  rintro e w9 ⟨rfl, hb9⟩
  have hb10 := hb9.alloc hb9.size (.cells #[.int .u64 4, .int .i64 2, .int .u64 9, .int .i64 1, .int .i64 7] 26)
  have b10 := BoxAt.new w9 #[.int .u64 4, .int .i64 2, .int .u64 9, .int .i64 1, .int .i64 7] 26
  obtain ⟨w10, hw10⟩ : ∃ w10, w9.alloc (.cells #[.int .u64 4, .int .i64 2, .int .u64 9, .int .i64 1, .int .i64 7] 26) = w10 := ⟨_, rfl⟩
  obtain ⟨q10, hq10⟩ : ∃ q10, w9.heap.size = q10 := ⟨_, rfl⟩
  rw [hw10] at hb10 b10
  rw [hq10] at b10
  have HM10 := Lib.hid (HM8.out.below' hb10)
  have b810 := B8.out.below hb10
  have c8 : w10.cell? ⟨q8, 0, none⟩ = some (.int .u64 5) := b810.cell 0
  have c10 : w10.cell? ⟨q10, 0, none⟩ = some (.int .u64 4) := b10.cell 0
  have c14 : w10.cell? ⟨q10, 4, none⟩ = some (.int .i64 7) := b10.cell 4
  have hs := hseen_any HM10.out (Lib.hid st2_rd)
  have HS := Lib.hid hs
  clear hb9 hb10 b10 b810 HM8 B8 hs
  go_wp2_with fail
  refine HS.out.mono ?_
  clear HS c8 c10 c14 hw10 hq10
  rintro e w11 ⟨mx, hmx, rfl, hb11⟩
  obtain rfl := st2_seen hmx
  have hrf := href_any (w := w11) (slot := 1) (ep := 5)
  rw [show supC 1 5 = #[.int .u8 1, .int .i64 1, .int .u64 5242880] from rfl] at hrf
  rw [show ((5 : Nat) : Int) = 5 from rfl] at hrf ⊢
  have HB11 := Lib.hid (HM10.out.bel.trans (hb11.mono HM10.out.bel.size))
  clear hb11 hmx
  go_wp2_with fail
  refine hrf.mono ?_
  clear hrf
  rintro e w12 ⟨rfl, hb12⟩
  have HB12 := Lib.hid (HB11.out.trans (hb12.mono HB11.out.size))
  clear hb12
  go_wp2_with fail
  go_ret
  exact ⟨rfl, HB12.out⟩
end
section
section
variable {X : Nat → Prop} {w0 w : World} {a cb bf k m n : Nat} {sts : List DSt}
end
end
section
set_option maxRecDepth 100000 in
set_option maxHeartbeats 8000000 in
theorem hfits_any {w : World} {p g ct sz : Int} : Calls Tryz.prog 22 #[.agg #[.int .i64 p, .int .u64 g, .int .i64 ct, .int .i64 sz]] w fun e w' => e = .returned (.bool (fitB p ct sz)) ∧ Below w.heap.size w w' := by
  have hb0 : Below w.heap.size w (w.alloc (.cells #[.int .i64 p, .int .u64 g, .int .i64 ct, .int .i64 sz] 24)) := (Below.refl _ _).alloc (Nat.le_refl _) _
  have alt : (fitB p ct sz = true ∧ decide (p ≥ 0) = true ∧ decide (p < 65536) = true ∧ decide (ct ≥ 0) = true ∧ decide (ct < 65536) = true ∧ decide (sz ≥ 0) = true ∧ decide (sz < 4294967296) = true) ∨ (fitB p ct sz = false ∧ (decide (p ≥ 0) && (decide (p < 65536) && (decide (ct ≥ 0) && (decide (ct < 65536) && (decide (sz ≥ 0) && decide (sz < 4294967296)))))) = false) := by
    by_cases h : 0 ≤ p ∧ p < 65536 ∧ 0 ≤ ct ∧ ct < 65536 ∧ 0 ≤ sz ∧ sz < 4294967296
    · exact .inl ⟨decide_eq_true h, decide_eq_true (by omega), decide_eq_true (by omega), decide_eq_true (by omega), decide_eq_true (by omega), decide_eq_true (by omega), decide_eq_true (by omega)⟩
    · refine .inr ⟨decide_eq_false h, ?_⟩
      simp only [Bool.and_eq_false_iff, decide_eq_false_iff_not]
      omega
  have bcs : ∀ b : Bool, b = true ∨ b = false := fun b => by cases b <;> simp
  rcases alt with ⟨hf, d1, d2, d3, d4, d5, d6⟩ | ⟨hf, hF⟩
  · rw [hf]
    clear bcs hf
    go_enter Tryz.func22, Tryz.ntmps22
    go_wp2_with fail
    go_ret
    exact ⟨rfl, hb0⟩
  · rw [hf]
    have HF := Lib.hid hF
    clear hF hf
    rcases bcs (decide (p ≥ 0)) with d1 | d1
    rotate_left
    · go_enter Tryz.func22, Tryz.ntmps22
      go_wp2_with fail
      go_ret
      exact ⟨rfl, hb0⟩
    rcases bcs (decide (p < 65536)) with d2 | d2
    rotate_left
    · go_enter Tryz.func22, Tryz.ntmps22
      go_wp2_with fail
      go_ret
      exact ⟨rfl, hb0⟩
    rcases bcs (decide (ct ≥ 0)) with d3 | d3
    rotate_left
    · go_enter Tryz.func22, Tryz.ntmps22
      go_wp2_with fail
      go_ret
      exact ⟨rfl, hb0⟩
    rcases bcs (decide (ct < 65536)) with d4 | d4
    rotate_left
    · go_enter Tryz.func22, Tryz.ntmps22
      go_wp2_with fail
      go_ret
      exact ⟨rfl, hb0⟩
    rcases bcs (decide (sz ≥ 0)) with d5 | d5
    rotate_left
    · go_enter Tryz.func22, Tryz.ntmps22
      go_wp2_with fail
      go_ret
      exact ⟨rfl, hb0⟩
    have d6 : decide (sz < 4294967296) = false := by
      have h := HF.out
      rw [d1, d2, d3, d4, d5] at h
      exact h
    go_enter Tryz.func22, Tryz.ntmps22
    go_wp2_with fail
    go_ret
    exact ⟨rfl, hb0⟩
theorem sl_bools : SlTy Tryz.prog 49 45 (.slice none 0 0) 1 24 := ⟨by kernel_rfl, by kernel_rfl, by kernel_rfl, by omega⟩
def keepR (on : Nat → Bool) (i : Nat) : List (List Bool) := (List.range i).map fun d => [on d]
theorem keepR_next (on : Nat → Bool) (i : Nat) : keepR on (i + 1) = keepR on i ++ [[on i]] := by unfold keepR; rw [List.range_succ, List.map_append]; rfl
theorem keepR_at {on : Nat → Bool} {N d : Nat} (h : d < N) : kAt (keepR on N) d = [on d] := by
  unfold kAt keepR
  rw [List.getD_eq_getElem?_getD, List.getElem?_map, List.getElem?_range h]; rfl
theorem onK_no {l : List Bool} {d : Nat} (h : ¬ d < l.length) : onK l d = false := by unfold onK; rw [List.getD_eq_getElem?_getD, List.getElem?_eq_none (by omega)]; rfl
theorem onK_yes {l : List Bool} {d : Nat} {x : Bool} (h : l[d]? = some x) : onK l d = x := by unfold onK; rw [List.getD_eq_getElem?_getD, h]; rfl
set_option maxRecDepth 100000 in
set_option maxHeartbeats 16000000 in
theorem hkept_any {w : World} {A : Option Addr} {n c N : Nat} {S : Nat → Prop} {keep : List Bool} (R : Hid (RdL BoolR 1 S w A n keep)) (hN : N ≤ 1000) :
    Calls Tryz.prog 24 #[.slice A n c, .int .i64 (N : Int)] w fun e w' => ∃ A' c', e = .returned (.tuple #[.slice A' N c', .int .i64 (cntP (onK keep) N : Int)]) ∧ RdL BoolsR 1 (fun j => w.heap.size ≤ j) w' A' N (keepR (onK keep) N) ∧ Below w.heap.size w w' := by
  have hnl := R.out.1
  have HO : Hid (OwnL BoolsR 45 1 w.heap.size (fun j => w.heap.size ≤ j) w (.slice none 0 0) 0 []) := Lib.hid OwnL.nil_
  have HB0 := Lib.hid (Below.refl w.heap.size w)
  have qN : (N : Int) ≤ 1000 := by omega
  go_enter Tryz.func24, Tryz.ntmps24
  go_wp2_with fail
  go_loopw [6, 7, 8] (fun va vm vd wr => ∃ (i : Nat) (AO : Option Addr) (cO : Nat), i ≤ N ∧ vd = .int .i64 i ∧ vm = .int .i64 (cntP (onK keep) i : Int) ∧ va = .slice AO i cO ∧ Hid (OwnL BoolsR 45 1 w.heap.size (fun j => w.heap.size ≤ j) wr (.slice AO i cO) i (keepR (onK keep) i)) ∧ Hid (Below w.heap.size w wr)) (fun _ _ vd _ => N - (intOf vd).toNat)
  case atStart => exact ⟨0, none, 0, Nat.zero_le _, rfl, rfl, rfl, HO, HB0⟩
  case round =>
    clear HO HB0
    obtain ⟨i, AO, cO, hi, rfl, rfl, rfl, HO, HB⟩ := hrel
    have p0 : (0 : Int) ≤ (i : Int) := Int.natCast_nonneg _
    have pn : (0 : Int) ≤ (n : Int) := Int.natCast_nonneg _
    have hcl : cntP (onK keep) i ≤ i := by unfold cntP; have := List.length_filter_le (onK keep) (List.range i); rw [List.length_range] at this; exact this
    by_cases hlt : i < N
    · have p1 : (i : Int) < (N : Int) := by omega
      have hnx := keepR_next (onK keep) i
      have hcn := cntP_next (on := onK keep) (i := i)
      obtain ⟨on, hon⟩ : ∃ on, onK keep i = on := ⟨_, rfl⟩
      rw [hon] at hnx hcn
      have hal : Below wr.heap.size wr (wr.alloc (.cells #[.bool on] 4)) := (Below.refl _ _).alloc (Nat.le_refl _) _
      have hown := HO.out.keep BoolsR.stable hal
      have hrd : RdL BoolR 1 (Go.Cib.Rest (fun j => w.heap.size ≤ j) (.slice AO i cO)) (wr.alloc (.cells #[.bool on] 4)) (some ⟨wr.heap.size, 0, none⟩) 1 [on] := by
        have h1 := RdL.one BoolR.stable (E := 4) (s := 1) (S := fun _ => True) (W := wr) (cs := #[.bool on]) (y := on) rfl rfl
        refine ⟨h1.1, fun _ => ?_⟩
        obtain ⟨b, o, e, _, hl, hc⟩ := h1.2 (by omega)
        have e2 : b = wr.heap.size := by injection e with e; injection e with e1; exact e1.symm
        exact ⟨b, o, e, ⟨by show w.heap.size ≤ b; rw [e2]; exact HB.out.size, fun h => by have := (HO.out.lt b h.symm).2; omega⟩, hl, hc⟩
      have hbw := HB.out.trans (hal.mono HB.out.size)
      obtain ⟨w2, hw2⟩ : ∃ w2, wr.alloc (.cells #[.bool on] 4) = w2 := ⟨_, rfl⟩
      obtain ⟨q2, hq2⟩ : ∃ q2, wr.heap.size = q2 := ⟨_, rfl⟩
      rw [hw2] at hown hrd hbw
      rw [hq2] at hrd
      have HOW := Lib.hid hown
      have HRD := Lib.hid hrd
      have HBW := Lib.hid hbw
      have hs2 : w.heap.size ≤ w2.heap.size := hbw.size
      have HNX := Lib.hid hnx
      have HCN := Lib.hid hcn
      have qi : (i : Int) < 1000 := by omega
      have qc : (cntP (onK keep) i : Int) ≤ 1000 := by omega
      obtain ⟨ct, hct⟩ : ∃ ct, cntP (onK keep) i = ct := ⟨_, rfl⟩
      have HCT := Lib.hid hct
      have hct0 : (0 : Int) ≤ (ct : Int) := Int.natCast_nonneg _
      rw [hct] at HCN qc ⊢
      clear hnx hcn hal hown hrd hbw hcl hct
      by_cases hk : i < n
      · obtain ⟨kb, ko, x, rfl, hx, v⟩ := bool_at R.out hk
        have p2 : (i : Int) < (n : Int) := by omega
        have hxo := onK_yes hx
        rw [hon] at hxo
        subst hxo
        have hlt2 : kb < w.heap.size := by obtain ⟨b', o', e, _, hl⟩ := R.out.addr hk; injection e with e; injection e with e1; omega
        have v2 := (HB.out.cell (p := ⟨kb, ko + i, none⟩) hlt2).trans v
        clear hx v hlt2
        cases on with
        | true =>
          rw [if_pos rfl] at HCN
          go_wp2_with (at_builtin; go_must (refine wpList_push1 BoolsR.stable BoolsR.one sl_bools (by rfl) (by rfl) (base := w.heap.size) (S := fun j => w.heap.size ≤ j) (cs := #[.slice (some ⟨q2, 0, none⟩) 1 1]) (y := [true]) (by rfl) (by rfl) HOW.out (by rfl) ⟨_, 1, 1, rfl, HRD.out⟩ (by unfold maxLen; omega) (by omega) hs2 ?_); intro A8 c8 ug hc8 own9 hlt8 hb8 hat8; rw [← HNX.out] at own9; have HO9 := Lib.hid own9; have HB9 := Lib.hid (HBW.out.trans hb8); clear own9 hb8 hlt8 hat8)
          exact ⟨⟨i + 1, A8, c8, by omega, by go_num, by rw [HCN.out]; go_num, rfl, HO9, HB9⟩, by simp [intOf]; omega⟩
        | false =>
          rw [if_neg (by decide)] at HCN
          go_wp2_with (at_builtin; go_must (refine wpList_push1 BoolsR.stable BoolsR.one sl_bools (by rfl) (by rfl) (base := w.heap.size) (S := fun j => w.heap.size ≤ j) (cs := #[.slice (some ⟨q2, 0, none⟩) 1 1]) (y := [false]) (by rfl) (by rfl) HOW.out (by rfl) ⟨_, 1, 1, rfl, HRD.out⟩ (by unfold maxLen; omega) (by omega) hs2 ?_); intro A8 c8 ug hc8 own9 hlt8 hb8 hat8; rw [← HNX.out] at own9; have HO9 := Lib.hid own9; have HB9 := Lib.hid (HBW.out.trans hb8); clear own9 hb8 hlt8 hat8)
          exact ⟨⟨i + 1, A8, c8, by omega, by go_num, by rw [HCN.out]; rfl, rfl, HO9, HB9⟩, by simp [intOf]; omega⟩
      · have p2 : ¬ (i : Int) < (n : Int) := by omega
        have hxo := onK_no (l := keep) (d := i) (by omega)
        rw [hon] at hxo
        subst hxo
        rw [if_neg (by decide)] at HCN
        go_wp2_with (at_builtin; go_must (refine wpList_push1 BoolsR.stable BoolsR.one sl_bools (by rfl) (by rfl) (base := w.heap.size) (S := fun j => w.heap.size ≤ j) (cs := #[.slice (some ⟨q2, 0, none⟩) 1 1]) (y := [false]) (by rfl) (by rfl) HOW.out (by rfl) ⟨_, 1, 1, rfl, HRD.out⟩ (by unfold maxLen; omega) (by omega) hs2 ?_); intro A8 c8 ug hc8 own9 hlt8 hb8 hat8; rw [← HNX.out] at own9; have HO9 := Lib.hid own9; have HB9 := Lib.hid (HBW.out.trans hb8); clear own9 hb8 hlt8 hat8)
        exact ⟨⟨i + 1, A8, c8, by omega, by go_num, by rw [HCN.out]; rfl, rfl, HO9, HB9⟩, by simp [intOf]; omega⟩
    · have p1 : ¬ (i : Int) < (N : Int) := by omega
      obtain rfl : i = N := by omega
      obtain ⟨A', c', e, hc', hr⟩ := HO.out.rd (S' := fun j => w.heap.size ≤ j) (fun j hj => hj) (fun cs x hx => BoolsR.stable _ _ _ _ _ _ hx fun b hb _ => ⟨hb.1, rfl⟩)
      injection e with e1 _ e2
      subst e1; subst e2
      have HR := Lib.hid hr
      clear hr
      go_wp2_with fail
      go_ret2
      exact ⟨AO, ⟨cO, rfl⟩, HR.out, HB.out⟩
end
section
section
variable {n k m z zo Eo En : Nat} {ho hn : Hdr} {on : Nat → Bool} {D : List Int} {ks : List (List Bool)}
end
end
section
theorem best_ex {o : Nat → Option Nat} {k N : Nat} : ∀ B, (∀ E, k ≤ hasC o N E → E ≤ B) → ∃ e, BestE o k N e
  | 0, h => by
    by_cases h0 : k ≤ hasC o N 0
    · exact ⟨some 0, h0, h⟩
    · refine ⟨none, fun E hE => ?_⟩
      have := h E hE
      obtain rfl : E = 0 := by omega
      exact h0 hE
  | B + 1, h => by
    by_cases h0 : k ≤ hasC o N (B + 1)
    · exact ⟨some (B + 1), h0, h⟩
    · refine best_ex B fun E hE => ?_
      have := h E hE
      by_cases he : E = B + 1
      · subst he; exact absurd hE h0
      · omega
section
variable {n k N : Nat} {sts : List DSt} {o : Nat → Nat → Option Nat} {T : Nat → Nat → Hdr}
theorem cal_find (hc : Cal n k N sts o T) (hn2 : 2 ≤ n) {y E : Nat} (hy : y < 2) (hb : BestE (o y) k N (some E)) (ho : ∀ E', k ≤ hasC (o (1 - y)) N E' → E' < E) :
    ∃ es, Vw2 n k N sts es T ∧ fdV es T = hdC E (T y E) ∧ fdS es = y ∧ fdE es = 0 := by
  obtain ⟨e, he⟩ := best_ex (o := o (1 - y)) (k := k) (N := N) E (fun E' hE' => Nat.le_of_lt (ho E' hE'))
  have hlt : ∀ x, e = some x → x < E := fun x hx => by subst hx; exact ho x he.1
  have hyy : (y = 0) ∨ (y = 1) := by omega
  refine ⟨fun x => if x = y then some E else e, ⟨fun x hx => ⟨o x, hc.v x hx, ?_⟩, hn2⟩, ?_⟩
  · by_cases hxy : x = y
    · subst hxy; rw [if_pos rfl]; exact hb
    · rw [if_neg hxy]
      have : x = 1 - y := by omega
      rw [this]; exact he
  · have hf : findS (fun x => if x = y then some E else e) = some y := by
      unfold findS
      rcases hyy with rfl | rfl
      · cases e with
        | none => rfl
        | some x =>
          show (if E < x then some 1 else some 0) = some 0
          rw [if_neg (show ¬ E < x by have := hlt x rfl; omega)]
      · cases e with
        | none => rfl
        | some x =>
          show (if x < E then some 1 else some 0) = some 1
          rw [if_pos (hlt x rfl)]
    refine ⟨?_, by unfold fdS; rw [hf]; rfl, by unfold fdE; rw [hf]; rfl⟩
    unfold fdV
    rw [hf]
    show gtV (T y) (if y = y then some E else e) = _
    rw [if_pos rfl]
    rfl
/-- Between two tries. -/
structure AgI (n k N B : Nat) (sts : List DSt) (o : Nat → Nat → Option Nat) (T : Nat → Nat → Hdr) (z Eo : Nat) (ho : Hdr) : Prop where
  cal : Cal n k N sts o T
  own : ∀ d, d < N → o z d = some Eo
  hd : T z Eo = ho
  oth : ∀ E, k ≤ hasC (o (1 - z)) N E → E < Eo
  bnd : ∀ y d E, y < 2 → d < N → o y d = some E → E ≤ B
theorem hasC_all {o : Nat → Option Nat} {E : Nat} (h : ∀ d, d < N → o d = some E) : hasC o N E = N := by
  unfold hasC
  rw [cntP_congr (q := fun _ => true) (fun d hd => by rw [h d hd]; simp), cntP_all]
theorem AgI.start {B z Eo : Nat} {ho : Hdr} (hn2 : 2 ≤ n) (hk1 : 1 ≤ k) (hz : z < 2) (hE : Eo < 1099511627776) (hok : ho.ok) (hB : Eo ≤ B) : AgI n k N B (((newS n N).mapIdx (putQ n k N (hRef z Eo) (hdT ho))).map flushG) (tearO (fun _ _ => none) z Eo (fun _ => true)) (updT (fun _ _ => hz0) z Eo ho) z Eo ho := by
  have hs : ∀ y d, tearO (fun _ _ => none) z Eo (fun _ => true) y d = if y = z then some Eo else none := fun y d => by
    unfold tearO
    by_cases h : y = z
    · rw [if_pos ⟨h, rfl⟩, if_pos h]
    · rw [if_neg (fun h2 => h h2.1), if_neg h]
  refine ⟨(Cal.new n k N hn2).putf hz hn2 hE hok (fun d _ => by simp), fun d _ => by rw [hs, if_pos rfl], by unfold updT; rw [if_pos ⟨rfl, rfl⟩], fun E hE' => ?_, fun y d E hy hd ho' => ?_⟩
  · obtain ⟨d, hd, ho'⟩ := hasC_pos hk1 hE'
    rw [hs, if_neg (by omega)] at ho'
    cases ho'
  · rw [hs] at ho'
    split at ho'
    · cases ho'; exact hB
    · cases ho'
variable {B z Eo mx : Nat} {ho hn : Hdr} {on : Nat → Bool} {ks : List (List Bool)}
theorem AgI.seen (h : AgI n k N B sts o T z Eo ho) (hz : z < 2) (hn2 : 2 ≤ n) (hn6 : n ≤ 600) (hN : 1 ≤ N) (hN2 : N ≤ 255) (hs : SeenE sts n mx) : (∀ y d E, y < 2 → d < N → o y d = some E → E ≤ mx) ∧ Eo ≤ mx ∧ mx ≤ B := by
  obtain ⟨h1, h2⟩ := seen_of h.cal.v h.cal.rest hn2 hn6 hN hN2 hs
  have h3 := h1 z 0 Eo hz (by omega) (h.own 0 (by omega))
  refine ⟨h1, h3, ?_⟩
  rcases h2 with h2 | ⟨y, d, hy, hd, he⟩
  · omega
  · exact h.bnd y d mx hy hd he
theorem AgI.fresh (h : AgI n k N B sts o T z Eo ho) (hm : ∀ y d E, y < 2 → d < N → o y d = some E → E ≤ mx) : ∀ d, d < N → o (1 - z) d ≠ some (mx + 1) := fun d hd he => by
  have := hm (1 - z) d _ (by omega) hd he; omega
theorem tear_cnt (hm : ∀ y d E, y < 2 → d < N → o y d = some E → E ≤ mx) (hz : z < 2) : hasC (tearO o (1 - z) (mx + 1) on (1 - z)) N (mx + 1) = cntP on N ∧ ∀ E, E ≠ mx + 1 → hasC (tearO o (1 - z) (mx + 1) on (1 - z)) N E ≤ hasC (o (1 - z)) N E := by
  refine ⟨?_, fun E hE => ?_⟩
  · unfold hasC
    refine cntP_congr fun d hd => ?_
    unfold tearO
    cases hon : on d with
    | true => rw [if_pos ⟨rfl, rfl⟩]; simp
    | false =>
      rw [if_neg (by simp)]
      exact decide_eq_false (fun e => by have := hm (1 - z) d _ (by omega) hd e; omega)
  · unfold hasC cntP
    refine filter_mono (fun d hd => ?_) _
    unfold tearO at hd
    have hd := of_decide_eq_true hd
    split at hd
    · cases hd; exact absurd rfl hE
    · exact decide_eq_true hd
theorem tear_same (y : Nat) (hy : y ≠ 1 - z) (E : Nat) : hasC (tearO o (1 - z) (mx + 1) on y) N E = hasC (o y) N E := by
  unfold hasC
  refine cntP_congr fun d _ => ?_
  unfold tearO
  rw [if_neg (fun h => hy h.1)]
/-- A torn try of which k shards were kept. -/
theorem AgI.hit (h : AgI n k N B sts o T z Eo ho) (hk1 : 1 ≤ k) (hz : z < 2) (hm : ∀ y d E, y < 2 → d < N → o y d = some E → E ≤ mx) (hle : k ≤ cntP on N) :
    BestE (tearO o (1 - z) (mx + 1) on (1 - z)) k N (some (mx + 1)) ∧ ∀ E', k ≤ hasC (tearO o (1 - z) (mx + 1) on (1 - (1 - z))) N E' → E' < mx + 1 := by
  obtain ⟨c1, c2⟩ := tear_cnt (o := o) (N := N) (on := on) hm hz
  refine ⟨⟨by rw [c1]; exact hle, fun E' hE' => ?_⟩, fun E' hE' => ?_⟩
  · by_cases he : E' = mx + 1
    · omega
    · obtain ⟨d, hd, hod⟩ := hasC_pos hk1 (Nat.le_trans hE' (c2 E' he))
      have := hm _ d E' (by omega) hd hod; omega
  · rw [tear_same _ (by omega)] at hE'
    obtain ⟨d, hd, hod⟩ := hasC_pos hk1 hE'
    have := hm _ d E' (by omega) hd hod; omega
/-- .. and one of which fewer were. -/
theorem AgI.miss (h : AgI n k N B sts o T z Eo ho) (hk1 : 1 ≤ k) (hkN : k ≤ N) (hz : z < 2) (hn2 : 2 ≤ n) (hm : ∀ y d E, y < 2 → d < N → o y d = some E → E ≤ mx) (hEo : Eo ≤ mx) (hmB : mx ≤ B) (hE : mx + 1 < 1099511627776) (hok : hn.ok) (hk : ∀ d, d < N → kAt ks d = [on d]) (hle : ¬ k ≤ cntP on N) :
    AgI n k N (B + 1) ((sts.mapIdx (putQ n k N (hRef (1 - z) (mx + 1)) (hdT hn))).mapIdx (crashG ks)) (tearO o (1 - z) (mx + 1) on) (updT T (1 - z) (mx + 1) hn) z Eo ho ∧ BestE (tearO o (1 - z) (mx + 1) on z) k N (some Eo) := by
  obtain ⟨c1, c2⟩ := tear_cnt (o := o) (N := N) (on := on) hm hz
  have hcal := h.cal.tear (z := 1 - z) (E := mx + 1) (hd := hn) (on := on) (by omega) hn2 hE hok (h.fresh hm) hk
  refine ⟨⟨hcal, fun d hd => ?_, ?_, fun E hE' => ?_, fun y d E hy hd he => ?_⟩, ?_⟩
  · unfold tearO; rw [if_neg (fun h => by omega)]; exact h.own d hd
  · unfold updT; rw [if_neg (fun h => by omega)]; exact h.hd
  · by_cases he : E = mx + 1
    · subst he; rw [c1] at hE'; exact absurd hE' hle
    · exact h.oth E (Nat.le_trans hE' (c2 E he))
  · unfold tearO at he
    split at he
    · cases he; omega
    · have := h.bnd y d E hy hd he; omega
  · refine ⟨by rw [tear_same _ (by omega), hasC_all h.own]; exact hkN, fun E' hE' => ?_⟩
    rw [tear_same _ (by omega)] at hE'
    obtain ⟨d, hd, hod⟩ := hasC_pos hk1 hE'
    rw [h.own d hd] at hod
    cases hod
    exact Nat.le_refl _
/-- The torn try, mended, counts from then on. -/
theorem AgI.mend (h : AgI n k N B sts o T z Eo ho) (hk1 : 1 ≤ k) (hkN : k ≤ N) (hz : z < 2) (hn2 : 2 ≤ n) (hm : ∀ y d E, y < 2 → d < N → o y d = some E → E ≤ mx) (hEo : Eo ≤ mx) (hmB : mx ≤ B) (hE : mx + 1 < 1099511627776) (hok : hn.ok) (hk : ∀ d, d < N → kAt ks d = [on d]) :
    ∃ o' T', AgI n k N (B + 1) ((((sts.mapIdx (putQ n k N (hRef (1 - z) (mx + 1)) (hdT hn))).mapIdx (crashG ks)).mapIdx (mendQ (fun d => decide (tearO o (1 - z) (mx + 1) on (1 - z) d = some (mx + 1))) n k N (hRef (1 - z) (mx + 1)) (hdT hn))).map flushG) o' T' (1 - z) (mx + 1) hn := by
  have hcal := h.cal.tear (z := 1 - z) (E := mx + 1) (hd := hn) (on := on) (by omega) hn2 hE hok (h.fresh hm) hk
  have hT : updT T (1 - z) (mx + 1) hn (1 - z) (mx + 1) = hn := by unfold updT; rw [if_pos ⟨rfl, rfl⟩]
  have hc2 := hcal.mend (z := 1 - z) (E := mx + 1) (by omega) hn2 hE
  rw [hT] at hc2
  refine ⟨_, _, hc2, fun d hd => by unfold tearO; rw [if_pos ⟨rfl, rfl⟩], by unfold updT; rw [if_pos ⟨rfl, rfl⟩], fun E hE' => ?_, fun y d E hy hd he => ?_⟩
  · have e : 1 - (1 - z) = z := by omega
    rw [e] at hE'
    obtain ⟨d, hd, hod⟩ := hasC_pos hk1 hE'
    unfold tearO at hod
    rw [if_neg (fun h => by omega), if_neg (fun h => by omega), h.own d hd] at hod
    cases hod
    omega
  · unfold tearO at he
    split at he
    · cases he; omega
    · split at he
      · cases he; omega
      · have := h.bnd y d E hy hd he; omega
end
end
section
/-- wpAnyH_take, the slot said. -/
theorem wpAnyH_take2 {P : Program} {md : Region.Mode} {ops : Array Oper} {Q : Exit → Act → World → Prop} {S : World → Prop} {i : Nat} {oi : Oper} {v : Value} {fuel : Nat} {listed : Array Bool} {a : Act} {w : World} (d : Option Nat) (hi : ops[i]? = some oi) (hd : oi.dst = d)
    (hs : Region.noSelect ops = true) (hf : Region.free md ops listed i = true) (hr : (Region.ready md ops listed).contains i = true)
    (hQ : ∀ c a w, Q (.panic c) (a.put oi.dst v) w → Q (.panic c) a w) (hy : YieldsIf P ops S oi v a) (hS : S w)
    (h : wpAnyH P md ops Q S fuel (listed.setIfInBounds i true) (a.put d v) w) : wpAnyH P md ops Q S (fuel + 1) listed a w := by
  subst hd
  exact wpAnyH_take hi hs hf hr hQ hy hS h
end
end Go.Proofs.YtcliejdiaohamaaGreat
