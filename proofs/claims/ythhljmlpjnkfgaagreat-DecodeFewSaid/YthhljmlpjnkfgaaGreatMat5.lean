/-
  A matrix at work begins.
-/
import Derived.Test.YthhljmlpjnkfgaaGreatMat4
set_option linter.unusedSimpArgs false
set_option linter.unusedVariables false
namespace Go.Proofs.YthhljmlpjnkfgaaGreat
open Go.RowKit Go.Cib
attribute [local go_sem] cell_set Later.cell Later.frozen Grw.cell Grw.frozen

def begRow (V : Rws) (n i : Nat) : List Nat := (ra V i ++ List.replicate n 0).set (n + i) 1
def begF (V : Rws) (n k : Nat) : Rws := (List.range k).map (begRow V n)
theorem begF_next (V : Rws) (n k : Nat) : begF V n (k + 1) = begF V n k ++ [begRow V n k] := by unfold begF; rw [List.range_succ, List.map_append]; rfl
theorem begRow_ok {V : Rws} {n i : Nat} (hV : Shp n n V) (hi : i < n) : (begRow V n i).length = n + n ∧ Byt (begRow V n i) := by
  unfold begRow
  have h := hV.row hi
  refine ⟨by rw [List.length_set, List.length_append, List.length_replicate, h.1], byt_set (fun x hx => ?_) (by decide)⟩
  rcases List.mem_append.1 hx with hx | hx
  · exact h.2 x hx
  · rw [(List.mem_replicate.1 hx).2]; decide
theorem begF_shp {V : Rws} {n : Nat} (hV : Shp n n V) : Shp n (n + n) (begF V n n) := .of (by unfold begF; simp) fun i hi => by
  have e : ra (begF V n n) i = begRow V n i := ra_some (by unfold begF; rw [List.getElem?_map, List.getElem?_range hi]; rfl)
  rw [e]
  exact begRow_ok hV hi
structure BegI (w0 wr : World) (mb p b n i : Nat) (mv : Array Value) (A : Option Addr) (c : Nat) (a : Rws) : Prop where
  own : OwnL RowR 29 1 (p + 1) (fun k => p < k) wr (.slice A i c) i a
  bp : BoxAt wr p #[.pointer (some ⟨b, 0, none⟩), .slice A i c]
  bm : BoxAt wr mb mv
  mp : mb < p
  hm : w0.heap.size ≤ mb
  bel : Below w0.heap.size w0 wr
theorem BegI.below {w0 wr w2 : World} {mb p b n i : Nat} {mv : Array Value} {A : Option Addr} {c : Nat} {a : Rws} (h : BegI w0 wr mb p b n i mv A c a) (hb : Below wr.heap.size wr w2) : BegI w0 w2 mb p b n i mv A c a :=
  ⟨h.own.keep RowR.stable hb, h.bp.below hb, h.bm.below hb, h.mp, h.hm, h.bel.trans (hb.mono h.bel.size)⟩
theorem BegI.pushed {w0 w2 : World} {mb p b n i : Nat} {mv : Array Value} {A A' : Option Addr} {c c' : Nat} {a : Rws} {y : List Nat} (h : BegI w0 w2 mb p b n i mv A c a) (u : Grw (Value.slice A i c).ownBlock w2)
    (hown : OwnL RowR 29 1 (p + 1) (fun k => p < k) u.to (.slice A' (i + 1) c') (i + 1) (a ++ [y])) (hb : Below (p + 1) w2 u.to) :
    BegI w0 (u.to.setCell ⟨p, 1, none⟩ (.slice A' (i + 1) c')) mb p b n (i + 1) mv A' c' (a ++ [y]) := by
  have hl := h.bp.lt
  have hm := h.mp
  have hne : ∀ k, k ≤ p → some k ≠ (Value.slice A i c).ownBlock := fun k hk e => by
    have := (h.own.lt k e.symm).1; omega
  have hne2 : Value.ownBlock (.slice A' (i + 1) c') ≠ some p := fun e => by
    have := (hown.lt p e).1; omega
  refine ⟨?_, ?_, (h.bm.grw u.ok (hne mb (by omega))).set_other (by show mb ≠ p; omega) _, h.mp, h.hm, (h.bel.trans (hb.mono (by have := h.hm; omega))).setCell (by have := h.hm; show _ ≤ p; omega) _⟩
  · obtain ⟨css, h1, h2, h3, h4, h5⟩ := hown
    refine ⟨css, h1.kept (row := some p) ⟨rfl, rfl, rfl, by simp, fun k _ hk => Below.heap_setCell _ _ _ _ (fun e => hk (by rw [e]))⟩ (.inr hne2), h2, h3, h4, fun i cs x hc hx => ?_⟩
    exact RowR.stable _ _ _ _ _ _ (h5 i cs x hc hx) fun k hk _ => ⟨hk, Below.heap_setCell _ _ _ _ (fun e => by have := hk.1; dsimp only at e; omega)⟩
  · have := (h.bp.grw u.ok (hne p (Nat.le_refl _))).set 1 (.slice A' (i + 1) c')
    simpa using this

set_option maxRecDepth 100000 in
set_option maxHeartbeats 4000000 in
theorem begun_any {w : World} {b n c : Nat} {A : Option Addr} {S : Nat → Prop} {V : Rws} (hV : Shp n n V) (h1 : 1 ≤ n) (h2 : n ≤ 255) (R : RdL ByR 1 S w A (n * n) V.flatten) (hc : n * n ≤ c) :
    Calls Tryz.prog 94 #[.pointer (some ⟨b, 0, none⟩), .agg #[.int .i64 (n : Int), .int .i64 (n : Int), .slice A (n * n) c], .bool true] w fun e w' => ∃ p g cc, e = .returned (.pointer (some ⟨p, 0, none⟩)) ∧
      WorkAt w' p b (n + n) w.heap.size g n cc (begF V n n) ∧ Below w.heap.size w w' := by
  have HR := Lib.hid R
  have q0 : (0 : Int) ≤ (n : Int) := Int.natCast_nonneg _
  have q1 : (n : Int) ≤ 255 := by omega
  clear R
  go_enter Tryz.func94, Tryz.ntmps94
  go_wp2_with fail
  obtain ⟨mv, hmv⟩ : ∃ mv : Array Value, mv = #[.int .i64 (n : Int), .int .i64 (n : Int), .slice A (n * n) c] := ⟨_, rfl⟩
  have hi0 : BegI w ((w.alloc (.cells #[.int .i64 (n : Int), .int .i64 (n : Int), .slice A (n * n) c] 55)).alloc (.cells #[.pointer (some ⟨b, 0, none⟩), .slice none 0 0] 148)) w.heap.size (w.heap.size + 1) b n 0 mv none 0 (begF V n 0) := by
    have e := BoxAt.new (w.alloc (.cells #[.int .i64 (n : Int), .int .i64 (n : Int), .slice A (n * n) c] 55)) #[.pointer (some ⟨b, 0, none⟩), .slice none 0 0] 148
    rw [World.size_alloc] at e
    exact ⟨OwnL.nil_, e, hmv ▸ (BoxAt.new w _ _).alloc _, by omega, Nat.le_refl _, (by repeat (first | (with_reducible exact Below.refl _ _) | (with_reducible assumption) | (with_reducible refine Below.drew ?_) | (with_reducible refine Below.setCell ?_ ?_ _) | (with_reducible refine Below.alloc ?_ ?_ _) | (with_reducible refine Below.later ?_ ?_ _) | (first | (with_reducible exact Nat.le_refl _) | omega | (simp only [World.size_alloc, World.size_setCell, World.size_drew] <;> omega))))⟩
  have HI0 := Lib.hid hi0
  clear hi0
  generalize ((w.alloc (.cells #[.int .i64 (n : Int), .int .i64 (n : Int), .slice A (n * n) c] 55)).alloc (.cells #[.pointer (some ⟨b, 0, none⟩), .slice none 0 0] 148)) = wA at *
  go_loopw [15] (fun vi wr => ∃ (i : Nat) (A : Option Addr) (c : Nat), i ≤ n ∧ vi = .int .i64 i ∧ Hid (BegI w wr w.heap.size (w.heap.size + 1) b n i mv A c (begF V n i))) (fun vi _ => n - (intOf vi).toNat)
  case atStart => exact ⟨0, none, 0, Nat.zero_le _, rfl, HI0⟩
  case round =>
    clear HI0
    obtain ⟨i, AR, cR, hi, rfl, HI⟩ := hrel
    have p0 : (0 : Int) ≤ (i : Int) := Int.natCast_nonneg _
    by_cases hlt : i < n
    · have p1 : (i : Int) < (n : Int) := by omega
      have hmul : (i + 1) * n ≤ n * n := Nat.mul_le_mul hlt (Nat.le_refl _)
      have k0 := HI.out.bm.cell 0
      have k1 := HI.out.bm.cell 1
      have k2 := HI.out.bm.cell 2
      rw [hmv] at k0 k1 k2
      have hrow := row_any (w := wr) (A := A) hmul hc (by omega) h2 h1
      have hrd := row_rd hV (HR.out.below ByR.stable HI.out.bel) hlt h1
      have HRD := Lib.hid hrd
      clear hrd hmul
      have hrl := (begRow_ok hV hlt).1
      have hy : ∀ (W : World) (g4 c4 : Nat) (cur : Array Value), Hid (RowIn W g4 cur (begRow V n i)) → n + n ≤ c4 → w.heap.size + 1 < wr.heap.size → wr.heap.size ≤ g4 →
          RowR (Go.Cib.Rest (fun k => w.heap.size + 1 < k) (.slice AR i cR)) W [.slice (some ⟨g4, 0, none⟩) (n + n) c4] (begRow V n i) := fun W g4 c4 cur hR h4 h5 h6 => by
        have := hR.out.rd (S := Go.Cib.Rest (fun k => w.heap.size + 1 < k) (.slice AR i cR)) ⟨by omega, fun e => by have := (HI.out.own.lt _ e.symm).2; omega⟩
        rw [hrl] at this
        exact ⟨_, _, _, rfl, h4, this⟩
      have HY := Lib.hid hy
      clear hy hrl
      go_wp2_with (first
        | (go_at_call 76; refine hrow.mono ?_; rintro e w9 ⟨rfl, hw9⟩; rw [hw9]; clear hw9)
        | (at_builtin; refine wpList_appL ByR.stable ByR.one sl_by rfl (by exact rfl) (base := wr.heap.size) (S := fun _ => True) (n := 0) (v := .slice none 0 0) (xs := []) (by exact rfl) OwnL.nil_ (by exact rfl) HRD.out (fun _ _ h => h) (by unfold maxLen; omega) (by omega) (Nat.le_refl _) ?_; intro A3 c3 w3 hc3 hown3 hg3 hat; simp only [Nat.zero_add, List.nil_append] at hc3 hown3 ⊢; have hb3 : Below wr.heap.size wr w3 := ⟨hg3.os, hg3.tape, hg3.output, hg3.size, fun k hk => hg3.block k hk (by intro h; cases h)⟩; obtain ⟨g3, cap3, cur3, e3, l3, _, _, _⟩ := RowIn.of_own hown3 h1; injection e3 with e3 _ e4; subst e3; subst e4; have bm3 := (HI.out.below hb3).bm; replace k0 := bm3.cell 0; replace k1 := bm3.cell 1; rw [hmv] at k0 k1; have HB3 := Lib.hid hb3; have HO3 := Lib.hid hown3; clear hb3 hown3 hg3 hat bm3)
        | (at_builtin; refine wpList_appZ (kn := .i64) (kq := .i64) (by kernel_rfl) rfl (by exact rfl) (by exact rfl) HO3.out (by exact rfl) h1 h1 (by omega) HB3.out.size ?_; intro g4 c4 w4 hg4 hc4 hown4 hgr4; have hb4 : Below wr.heap.size wr w4 := ⟨hgr4.os.trans HB3.out.os, hgr4.tape.trans HB3.out.tape, hgr4.output.trans HB3.out.output, Nat.le_trans HB3.out.size hgr4.size, fun k hk => (hgr4.block k (Nat.lt_of_lt_of_le hk HB3.out.size) (by intro h; injection h with h; omega)).trans (HB3.out.block k hk)⟩; obtain ⟨g5, cap5, cur5, e5, l5, l6, l7, RI⟩ := RowIn.of_own hown4 (by omega); injection e5 with e5 _ e6; injection e5 with e5; injection e5 with e5; subst e5; subst e6; have x5 := RI.cell (i := n + i) (by omega); have f5 := RI.frozen (n + i); have bm4 := (HI.out.below hb4).bm; replace k1 := bm4.cell 1; rw [hmv] at k1; have r5 : RowIn (w4.setCell ⟨g4, n + i, none⟩ (.int .u8 1)) g4 _ (begRow V n i) := RI.set (i := n + i) (x := 1) (by omega) (by decide); have hb5 := hb4.setCell (p := ⟨g4, n + i, none⟩) hg4 (.int .u8 1); have hi5 := HI.out.below hb5; have hpl := HI.out.bp.lt; have hne : ¬ g4 = w.heap.size + 1 := (by omega); have c5 := hi5.bp.cell 1; have f6 := hi5.bp.frozen 1; have HI5 := Lib.hid hi5; have HR5 := Lib.hid r5; have HB5 := Lib.hid hb5; clear hown4 hgr4 hb4 bm4 RI r5 hb5 hi5)
        | (at_builtin; go_must (refine wpList_push1 RowR.stable RowR.one sl_rows (by rfl) (by rfl) (base := w.heap.size + 1 + 1) (S := fun k => w.heap.size + 1 < k) (cs := #[.slice (some ⟨g4, 0, none⟩) (n + n) c4]) (y := begRow V n i) (by rfl) (by rw [World.size_setCell]; rfl) HI5.out.own (by rfl) (HY.out _ _ _ _ HR5 hc4 hpl hg4) (by unfold maxLen; omega) (by omega) HI5.out.bp.lt ?_); intro A9 c9 u9 hc9 own9 hlt9 hb9 hat9; have B9 := HI5.out.bp.grw u9.ok (fun e => by have := (HI5.out.own.lt _ e.symm).1; omega); have c9p := B9.cell 1; have f9p := B9.frozen 1; have hp9 := HI5.out.pushed u9 own9 hb9; rw [← begF_next] at hp9; have HP9 := Lib.hid hp9; clear own9 hlt9 hb9 hat9 B9 hp9))
      exact ⟨⟨i + 1, A9, c9, by omega, by go_num, HP9⟩, by simp [intOf]; omega⟩
    · have p1 : ¬ (i : Int) < (n : Int) := by omega
      obtain rfl : i = n := by omega
      obtain ⟨g, cc, e, hW⟩ := WorkAt.of_own (base := w.heap.size) HI.out.bp HI.out.own h1 (by omega) (begF_shp hV)
      injection e with e1 _ e2
      subst e1; subst e2
      have k0 := HI.out.bm.cell 0
      rw [hmv] at k0
      have HW := Lib.hid hW
      clear hW
      go_wp2_with fail
      go_ret
      first | exact ⟨_, rfl, ⟨g, cR, HW.out⟩, HI.out.bel⟩ | exact ⟨_, rfl, g, cR, HW.out, HI.out.bel⟩ | exact ⟨_, rfl, g, ⟨cR, HW.out⟩, HI.out.bel⟩
end Go.Proofs.YthhljmlpjnkfgaaGreat
