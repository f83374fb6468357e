/-
  A matrix at work begins.
  The first row that has something in a column.
  A column is made nought in all rows but one.
  Elimination, column by column.
  The inverse.
  The product of two matrices.
  The coder: how it lies; its small functions.
  How a shard comes of the data.
  A coder is made.
-/
import Derived.Test.YtihnlhfngmbglaaGreatLg4
set_option linter.unusedSimpArgs false
set_option linter.unusedVariables false
namespace Go.Proofs.YtihnlhfngmbglaaGreat
open Go.RowKit Go.Cib
attribute [local go_sem] cell_set Later.cell Later.frozen Grw.cell Grw.frozen
section

def begRow (V : Rws) (n i : Nat) : List Nat := (ra V i ++ List.replicate n 0).set (n + i) 1
def begF (V : Rws) (n k : Nat) : Rws := (List.range k).map (begRow V n)
theorem begF_next (V : Rws) (n k : Nat) : begF V n (k + 1) = begF V n k ++ [begRow V n k] := by unfold begF; rw [List.range_succ, List.map_append]; rfl
theorem begRow_ok {V : Rws} {n i : Nat} (hV : Shp n n V) (hi : i < n) : (begRow V n i).length = n + n ∧ Byt (begRow V n i) := by
  unfold begRow
  have h := hV.row hi
  refine ⟨by rw [List.length_set, List.length_append, List.length_replicate, h.1], byt_set (fun x hx => ?_) (by decide)⟩
  rcases List.mem_append.1 hx with hx | hx
  · exact h.2 x hx
  · rw [(List.mem_replicate.1 hx).2]; decide
theorem begF_shp {V : Rws} {n : Nat} (hV : Shp n n V) : Shp n (n + n) (begF V n n) := .of (by unfold begF; simp) fun i hi => by
  have e : ra (begF V n n) i = begRow V n i := ra_some (by unfold begF; rw [List.getElem?_map, List.getElem?_range hi]; rfl)
  rw [e]
  exact begRow_ok hV hi
structure BegI (w0 wr : World) (mb p b n i : Nat) (mv : Array Value) (A : Option Addr) (c : Nat) (a : Rws) : Prop where
  own : OwnL RowR 68 1 (p + 1) (fun k => p < k) wr (.slice A i c) i a
  bp : BoxAt wr p #[.pointer (some ⟨b, 0, none⟩), .slice A i c]
  bm : BoxAt wr mb mv
  mp : mb < p
  hm : w0.heap.size ≤ mb
  bel : Below w0.heap.size w0 wr
theorem BegI.below {w0 wr w2 : World} {mb p b n i : Nat} {mv : Array Value} {A : Option Addr} {c : Nat} {a : Rws} (h : BegI w0 wr mb p b n i mv A c a) (hb : Below wr.heap.size wr w2) : BegI w0 w2 mb p b n i mv A c a :=
  ⟨h.own.keep RowR.stable hb, h.bp.below hb, h.bm.below hb, h.mp, h.hm, h.bel.trans (hb.mono h.bel.size)⟩
theorem BegI.pushed {w0 w2 : World} {mb p b n i : Nat} {mv : Array Value} {A A' : Option Addr} {c c' : Nat} {a : Rws} {y : List Nat} (h : BegI w0 w2 mb p b n i mv A c a) (u : Grw (Value.slice A i c).ownBlock w2)
    (hown : OwnL RowR 68 1 (p + 1) (fun k => p < k) u.to (.slice A' (i + 1) c') (i + 1) (a ++ [y])) (hb : Below (p + 1) w2 u.to) :
    BegI w0 (u.to.setCell ⟨p, 1, none⟩ (.slice A' (i + 1) c')) mb p b n (i + 1) mv A' c' (a ++ [y]) := by
  have hl := h.bp.lt
  have hm := h.mp
  have hne : ∀ k, k ≤ p → some k ≠ (Value.slice A i c).ownBlock := fun k hk e => by
    have := (h.own.lt k e.symm).1; omega
  have hne2 : Value.ownBlock (.slice A' (i + 1) c') ≠ some p := fun e => by
    have := (hown.lt p e).1; omega
  refine ⟨?_, ?_, (h.bm.grw u.ok (hne mb (by omega))).set_other (by show mb ≠ p; omega) _, h.mp, h.hm, (h.bel.trans (hb.mono (by have := h.hm; omega))).setCell (by have := h.hm; show _ ≤ p; omega) _⟩
  · obtain ⟨css, h1, h2, h3, h4, h5⟩ := hown
    refine ⟨css, h1.kept (row := some p) ⟨rfl, rfl, rfl, by simp, fun k _ hk => Below.heap_setCell _ _ _ _ (fun e => hk (by rw [e]))⟩ (.inr hne2), h2, h3, h4, fun i cs x hc hx => ?_⟩
    exact RowR.stable _ _ _ _ _ _ (h5 i cs x hc hx) fun k hk _ => ⟨hk, Below.heap_setCell _ _ _ _ (fun e => by have := hk.1; dsimp only at e; omega)⟩
  · have := (h.bp.grw u.ok (hne p (Nat.le_refl _))).set 1 (.slice A' (i + 1) c')
    simpa using this

set_option maxRecDepth 100000 in
set_option maxHeartbeats 4000000 in
theorem begun_any {w : World} {b n c : Nat} {A : Option Addr} {S : Nat → Prop} {V : Rws} (hV : Shp n n V) (h1 : 1 ≤ n) (h2 : n ≤ 255) (R : RdL ByR 1 S w A (n * n) V.flatten) (hc : n * n ≤ c) :
    Calls Tryz.prog 248 #[.pointer (some ⟨b, 0, none⟩), .agg #[.int .i64 (n : Int), .int .i64 (n : Int), .slice A (n * n) c], .bool true] w fun e w' => ∃ p g cc, e = .returned (.pointer (some ⟨p, 0, none⟩)) ∧
      WorkAt w' p b (n + n) w.heap.size g n cc (begF V n n) ∧ Below w.heap.size w w' := by
  have HR := Lib.hid R
  have q0 : (0 : Int) ≤ (n : Int) := Int.natCast_nonneg _
  have q1 : (n : Int) ≤ 255 := by omega
  clear R
  go_enter Tryz.func248, Tryz.ntmps248
  go_wp2_with fail
  obtain ⟨mv, hmv⟩ : ∃ mv : Array Value, mv = #[.int .i64 (n : Int), .int .i64 (n : Int), .slice A (n * n) c] := ⟨_, rfl⟩
  have hi0 : BegI w ((w.alloc (.cells #[.int .i64 (n : Int), .int .i64 (n : Int), .slice A (n * n) c] 181)).alloc (.cells #[.pointer (some ⟨b, 0, none⟩), .slice none 0 0] 328)) w.heap.size (w.heap.size + 1) b n 0 mv none 0 (begF V n 0) := by
    have e := BoxAt.new (w.alloc (.cells #[.int .i64 (n : Int), .int .i64 (n : Int), .slice A (n * n) c] 181)) #[.pointer (some ⟨b, 0, none⟩), .slice none 0 0] 328
    rw [World.size_alloc] at e
    exact ⟨OwnL.nil_, e, hmv ▸ (BoxAt.new w _ _).alloc _, by omega, Nat.le_refl _, (by repeat (first | (with_reducible exact Below.refl _ _) | (with_reducible assumption) | (with_reducible refine Below.drew ?_) | (with_reducible refine Below.setCell ?_ ?_ _) | (with_reducible refine Below.alloc ?_ ?_ _) | (with_reducible refine Below.later ?_ ?_ _) | (first | (with_reducible exact Nat.le_refl _) | omega | (simp only [World.size_alloc, World.size_setCell, World.size_drew] <;> omega))))⟩
  have HI0 := Lib.hid hi0
  clear hi0
  generalize ((w.alloc (.cells #[.int .i64 (n : Int), .int .i64 (n : Int), .slice A (n * n) c] 181)).alloc (.cells #[.pointer (some ⟨b, 0, none⟩), .slice none 0 0] 328)) = wA at *
  go_loopw [15] (fun vi wr => ∃ (i : Nat) (A : Option Addr) (c : Nat), i ≤ n ∧ vi = .int .i64 i ∧ Hid (BegI w wr w.heap.size (w.heap.size + 1) b n i mv A c (begF V n i))) (fun vi _ => n - (intOf vi).toNat)
  case atStart => exact ⟨0, none, 0, Nat.zero_le _, rfl, HI0⟩
  case round =>
    clear HI0
    obtain ⟨i, AR, cR, hi, rfl, HI⟩ := hrel
    have p0 : (0 : Int) ≤ (i : Int) := Int.natCast_nonneg _
    by_cases hlt : i < n
    · have p1 : (i : Int) < (n : Int) := by omega
      have hmul : (i + 1) * n ≤ n * n := Nat.mul_le_mul hlt (Nat.le_refl _)
      have k0 := HI.out.bm.cell 0
      have k1 := HI.out.bm.cell 1
      have k2 := HI.out.bm.cell 2
      rw [hmv] at k0 k1 k2
      have hrow := row_any (w := wr) (A := A) hmul hc (by omega) h2 h1
      have hrd := row_rd hV (HR.out.below ByR.stable HI.out.bel) hlt h1
      have HRD := Lib.hid hrd
      clear hrd hmul
      have hrl := (begRow_ok hV hlt).1
      have hy : ∀ (W : World) (g4 c4 : Nat) (cur : Array Value), Hid (RowIn W g4 cur (begRow V n i)) → n + n ≤ c4 → w.heap.size + 1 < wr.heap.size → wr.heap.size ≤ g4 →
          RowR (Go.Cib.Rest (fun k => w.heap.size + 1 < k) (.slice AR i cR)) W [.slice (some ⟨g4, 0, none⟩) (n + n) c4] (begRow V n i) := fun W g4 c4 cur hR h4 h5 h6 => by
        have := hR.out.rd (S := Go.Cib.Rest (fun k => w.heap.size + 1 < k) (.slice AR i cR)) ⟨by omega, fun e => by have := (HI.out.own.lt _ e.symm).2; omega⟩
        rw [hrl] at this
        exact ⟨_, _, _, rfl, h4, this⟩
      have HY := Lib.hid hy
      clear hy hrl
      go_wp2_with (first
        | (go_at_call 238; refine hrow.mono ?_; rintro e w9 ⟨rfl, hw9⟩; rw [hw9]; clear hw9)
        | (at_builtin; refine wpList_appL ByR.stable ByR.one sl_by rfl (by exact rfl) (base := wr.heap.size) (S := fun _ => True) (n := 0) (v := .slice none 0 0) (xs := []) (by exact rfl) OwnL.nil_ (by exact rfl) HRD.out (fun _ _ h => h) (by unfold maxLen; omega) (by omega) (Nat.le_refl _) ?_; intro A3 c3 w3 hc3 hown3 hg3 hat; simp only [Nat.zero_add, List.nil_append] at hc3 hown3 ⊢; have hb3 : Below wr.heap.size wr w3 := ⟨hg3.os, hg3.tape, hg3.output, hg3.size, fun k hk => hg3.block k hk (by intro h; cases h)⟩; obtain ⟨g3, cap3, cur3, e3, l3, _, _, _⟩ := RowIn.of_own hown3 h1; injection e3 with e3 _ e4; subst e3; subst e4; have bm3 := (HI.out.below hb3).bm; replace k0 := bm3.cell 0; replace k1 := bm3.cell 1; rw [hmv] at k0 k1; have HB3 := Lib.hid hb3; have HO3 := Lib.hid hown3; clear hb3 hown3 hg3 hat bm3)
        | (at_builtin; refine wpList_appZ (kn := .i64) (kq := .i64) (by kernel_rfl) rfl (by exact rfl) (by exact rfl) HO3.out (by exact rfl) h1 h1 (by omega) HB3.out.size ?_; intro g4 c4 w4 hg4 hc4 hown4 hgr4; have hb4 : Below wr.heap.size wr w4 := ⟨hgr4.os.trans HB3.out.os, hgr4.tape.trans HB3.out.tape, hgr4.output.trans HB3.out.output, Nat.le_trans HB3.out.size hgr4.size, fun k hk => (hgr4.block k (Nat.lt_of_lt_of_le hk HB3.out.size) (by intro h; injection h with h; omega)).trans (HB3.out.block k hk)⟩; obtain ⟨g5, cap5, cur5, e5, l5, l6, l7, RI⟩ := RowIn.of_own hown4 (by omega); injection e5 with e5 _ e6; injection e5 with e5; injection e5 with e5; subst e5; subst e6; have x5 := RI.cell (i := n + i) (by omega); have f5 := RI.frozen (n + i); have bm4 := (HI.out.below hb4).bm; replace k1 := bm4.cell 1; rw [hmv] at k1; have r5 : RowIn (w4.setCell ⟨g4, n + i, none⟩ (.int .u8 1)) g4 _ (begRow V n i) := RI.set (i := n + i) (x := 1) (by omega) (by decide); have hb5 := hb4.setCell (p := ⟨g4, n + i, none⟩) hg4 (.int .u8 1); have hi5 := HI.out.below hb5; have hpl := HI.out.bp.lt; have hne : ¬ g4 = w.heap.size + 1 := (by omega); have c5 := hi5.bp.cell 1; have f6 := hi5.bp.frozen 1; have HI5 := Lib.hid hi5; have HR5 := Lib.hid r5; have HB5 := Lib.hid hb5; clear hown4 hgr4 hb4 bm4 RI r5 hb5 hi5)
        | (at_builtin; go_must (refine wpList_push1 RowR.stable RowR.one sl_rows (by rfl) (by rfl) (base := w.heap.size + 1 + 1) (S := fun k => w.heap.size + 1 < k) (cs := #[.slice (some ⟨g4, 0, none⟩) (n + n) c4]) (y := begRow V n i) (by rfl) (by rw [World.size_setCell]; rfl) HI5.out.own (by rfl) (HY.out _ _ _ _ HR5 hc4 hpl hg4) (by unfold maxLen; omega) (by omega) HI5.out.bp.lt ?_); intro A9 c9 u9 hc9 own9 hlt9 hb9 hat9; have B9 := HI5.out.bp.grw u9.ok (fun e => by have := (HI5.out.own.lt _ e.symm).1; omega); have c9p := B9.cell 1; have f9p := B9.frozen 1; have hp9 := HI5.out.pushed u9 own9 hb9; rw [← begF_next] at hp9; have HP9 := Lib.hid hp9; clear own9 hlt9 hb9 hat9 B9 hp9))
      exact ⟨⟨i + 1, A9, c9, by omega, by go_num, HP9⟩, by simp [intOf]; omega⟩
    · have p1 : ¬ (i : Int) < (n : Int) := by omega
      obtain rfl : i = n := by omega
      obtain ⟨g, cc, e, hW⟩ := WorkAt.of_own (base := w.heap.size) HI.out.bp HI.out.own h1 (by omega) (begF_shp hV)
      injection e with e1 _ e2
      subst e1; subst e2
      have k0 := HI.out.bm.cell 0
      rw [hmv] at k0
      have HW := Lib.hid hW
      clear hW
      go_wp2_with fail
      go_ret
      first | exact ⟨_, rfl, ⟨g, cR, HW.out⟩, HI.out.bel⟩ | exact ⟨_, rfl, g, cR, HW.out, HI.out.bel⟩ | exact ⟨_, rfl, g, ⟨cR, HW.out⟩, HI.out.bel⟩
end
section

def pvI (col : Nat) (a : Rws) (d : Nat) : Int := match pvF col (a.drop d) d with
  | none => -1
  | some k => k
theorem drop_ra {a : Rws} {k : Nat} (hk : k < a.length) : a.drop k = ra a k :: a.drop (k + 1) := by
  rw [List.drop_eq_getElem_cons hk]
  congr 1
  exact (ra_some (List.getElem?_eq_getElem hk)).symm
theorem pvF_cons (col : Nat) (r : List Nat) (l : Rws) (i : Nat) : pvF col (r :: l) i = if gt r col = 0 then pvF col l (i + 1) else some i := rfl
theorem pvI_next {col : Nat} {a : Rws} {k : Nat} (hk : k < a.length) (h0 : gt (ra a k) col = 0) : pvI col a k = pvI col a (k + 1) := by
  unfold pvI
  rw [drop_ra hk, pvF_cons, if_pos h0]
theorem pvI_found {col : Nat} {a : Rws} {k : Nat} (hk : k < a.length) (h0 : gt (ra a k) col ≠ 0) : pvI col a k = k := by
  unfold pvI
  rw [drop_ra hk, pvF_cons, if_neg h0]
theorem pvI_end {col : Nat} {a : Rws} {k : Nat} (hk : a.length ≤ k) : pvI col a k = -1 := by
  unfold pvI
  rw [List.drop_of_length_le hk]
  rfl
set_option maxRecDepth 100000 in
set_option maxHeartbeats 4000000 in
theorem pivot_any {w : World} {p b m base g n c : Nat} {a : Rws} (H : WorkAt w p b m base g n c a) {d col : Nat} (hd : d < n) (hn : n ≤ 1000) (hcol : col < m) (hm : m ≤ 1000) :
    Calls Tryz.prog 260 #[.pointer (some ⟨p, 0, none⟩), .int .i64 (d : Int), .int .i64 (col : Int)] w fun e w' => e = .returned (.int .i64 (pvI col a d)) ∧ w' = w := by
  have k0 := H.box.cell 0
  have k1 := H.box.cell 1
  have hnc := H.nc
  have hal := H.shp.1
  have hp := fun w => piece_suf sl_rows (A := some ⟨g, 0, none⟩) (N := n) (c := c) (k := d) (by omega) w
  rw [if_neg (by omega)] at hp
  have e0 : Option.map (fun x : Addr => x.add (d * 1)) (some ⟨g, 0, none⟩) = some ⟨g, d, none⟩ := by
    simp only [Option.map_some, Addr.add]
    split
    · rename_i e; rw [show d = 0 by omega]
    · rw [Nat.mul_one, Nat.zero_add]
  rw [e0] at hp
  have HW := Lib.hid H
  have q0 : (0 : Int) ≤ (d : Int) := Int.natCast_nonneg _
  have q1 : (d : Int) < 1000 := by omega
  have q2 : (0 : Int) ≤ (col : Int) := Int.natCast_nonneg _
  have q3 : (col : Int) < (m : Int) := by omega
  have q4 : (m : Int) ≤ 1000 := by omega
  have q5 : ((n - d : Nat) : Int) ≤ 1000 := by omega
  clear H e0
  go_enter Tryz.func260, Tryz.ntmps260
  go_wp2_with fail
  clear hp
  go_loopw [16] (fun vi wr => ∃ k : Nat, k ≤ n - d ∧ vi = .int .i64 k ∧ wr = w ∧ Hid (pvI col a d = pvI col a (d + k))) (fun vi _ => (n - d) - (intOf vi).toNat)
  case atStart => exact ⟨0, Nat.zero_le _, rfl, rfl, Lib.hid rfl⟩
  case round =>
    obtain ⟨k, hk, rfl, hwr, HP⟩ := hrel
    rw [hwr]
    clear hwr
    have p0 : (0 : Int) ≤ (k : Int) := Int.natCast_nonneg _
    by_cases hlt : k < n - d
    · have p1 : (k : Int) < ((n - d : Nat) : Int) := by omega
      obtain ⟨A, c', v1, _, hc1, hr⟩ := HW.out.row (i := d + k) (by omega)
      obtain ⟨bb, o, rfl, _, hbb⟩ := hr.addr hcol
      obtain ⟨v2, x2⟩ := by_at hr hcol
      have hdk : d + k < a.length := by omega
      by_cases h0 : gt (ra a (d + k)) col = 0
      · have hnx := pvI_next hdk h0
        rw [h0] at v2
        have HN := Lib.hid (HP.out.trans hnx)
        clear hnx h0 x2 hr
        go_wp2_with fail
        exact ⟨⟨k + 1, by omega, by go_num, trivial, HN⟩, by simp [intOf]; omega⟩
      · have hf := HP.out.trans (pvI_found hdk h0)
        have h1 : ((gt (ra a (d + k)) col : Nat) : Int) ≠ 0 := by omega
        have h2 : (((gt (ra a (d + k)) col : Nat) : Int) != 0) = true := by simpa using h0
        have HN := Lib.hid hf
        have p3 : IntKind.i64.wrap ((d : Int) + (k : Int)) = ((d + k : Nat) : Int) := by rw [IntKind.wrap_i64]; omega
        clear hf hr x2
        go_wp2_with fail
        go_ret
        refine ⟨?_, rfl⟩
        rw [HN.out]
        congr 2
    · have p1 : ¬ (k : Int) < ((n - d : Nat) : Int) := by omega
      have hk2 : d + k = n := by omega
      have hf := HP.out.trans (pvI_end (by omega))
      have HN := Lib.hid hf
      clear hf HP
      go_wp2_with fail
      go_ret
      exact ⟨by rw [HN.out]; rfl, rfl⟩
end
section

def mixP (at' k i : Nat) : Bool := decide (i ≠ at') && decide (i < k)
theorem mix_zero {at' col : Nat} {a : Rws} : elF (mixP at' 0) at' col a = a := ra_ext (elF_len ..) fun i hi => by
  rw [elF_ra _ _ _ (by rw [elF_len] at hi; exact hi), if_neg (by unfold mixP; simp)]
theorem mix_fold {at' col k : Nat} {a : Rws} (hne : k ≠ at') (hk : k < a.length) : elF (mixP at' (k + 1)) at' col a = (elF (mixP at' k) at' col a).set k (fd (gt (ra a k) col) (ra a at') (ra a k)) := ra_ext (by rw [elF_len, List.length_set, elF_len]) fun i hi => by
  rw [elF_len] at hi
  rw [ra_set _ _ _ (by rw [elF_len]; exact hi), elF_ra _ _ _ hi, elF_ra _ _ _ hi]
  by_cases e : i = k
  · subst e
    rw [if_pos rfl, if_pos (by unfold mixP; simp [hne])]
  · rw [if_neg e]
    have : mixP at' (k + 1) i = mixP at' k i := by unfold mixP; congr 1; simp; omega
    rw [this]
theorem mix_same {at' col k n m : Nat} {a : Rws} (hs : Shp n m a) (hat : at' < n) (h : k = at' ∨ gt (ra a k) col = 0) (hk : k < n) : elF (mixP at' (k + 1)) at' col a = elF (mixP at' k) at' col a := ra_ext (by rw [elF_len, elF_len]) fun i hi => by
  rw [elF_len] at hi
  rw [elF_ra _ _ _ hi, elF_ra _ _ _ hi]
  by_cases e : i = k
  · subst e
    have e2 : mixP at' i i = false := by unfold mixP; simp
    rw [if_neg (c := mixP at' i i = true) (by rw [e2]; decide)]
    rcases h with h | h
    · rw [if_neg (by unfold mixP; simp [h])]
    · split
      · rw [h, fd_zero (by rw [(hs.row hk).1, (hs.row hat).1]; exact Nat.le_refl _)]
      · rfl
  · have : mixP at' (k + 1) i = mixP at' k i := by unfold mixP; congr 1; simp; omega
    rw [this]
theorem mix_end {at' col n : Nat} {a : Rws} (hl : a.length = n) : elF (mixP at' n) at' col a = elF (fun i => decide (i ≠ at')) at' col a := ra_ext (by rw [elF_len, elF_len]) fun i hi => by
  rw [elF_len] at hi
  rw [elF_ra _ _ _ hi, elF_ra _ _ _ hi]
  have : mixP at' n i = decide (i ≠ at') := by unfold mixP; rw [decide_eq_true (by omega : i < n), Bool.and_true]
  rw [this]
theorem mix_at {at' col k i : Nat} {a : Rws} (hi : i < a.length) (h : i = at' ∨ k ≤ i) : ra (elF (mixP at' k) at' col a) i = ra a i := by
  rw [elF_ra _ _ _ hi, if_neg (by unfold mixP; simp; omega)]
theorem clF_eq {at' col n : Nat} {a : Rws} (hl : a.length = n) : clF at' col a = elF (mixP at' n) at' col (scF at' (inv (gt (ra a at') col)) a) := by
  unfold clF
  rw [mix_end (by rw [scF_len]; exact hl)]
theorem scF_set {j c : Nat} {a : Rws} (hj : j < a.length) : scF j c a = a.set j (sc c (ra a j)) := ra_ext (by rw [scF_len, List.length_set]) fun i hi => by
  rw [scF_len] at hi
  rw [scF_ra _ _ hi, ra_set _ _ _ hi]
  split
  · rename_i e; rw [e]
  · rfl
theorem dv_one {x : Nat} : dv 1 x = inv x := gm_one (inv_lt x)

/-- What only changes a block. -/
abbrev KeepB (g : Nat) (w w' : World) : Prop := Keep (fun k => k = g) w w'
set_option maxRecDepth 100000 in
set_option maxHeartbeats 8000000 in
theorem clean_any {w : World} {p b m base g n c : Nat} {a : Rws} (H : WorkAt w p b m base g n c a) (F : Fld w b) (hbb : b < base) {at' col : Nat} (hat : at' < n) (hn : n ≤ 1000) (hcol : col < m) (hm : m ≤ 1000) (hv : gt (ra a at') col ≠ 0) :
    Calls Tryz.prog 261 #[.pointer (some ⟨p, 0, none⟩), .int .i64 (at' : Int), .int .i64 (col : Int)] w fun e w' => e = .returned (.tuple #[]) ∧ WorkAt w' p b m base g n c (clF at' col a) ∧ KeepB g w w' := by
  have k0 := H.box.cell 0
  have k1 := H.box.cell 1
  have lp := H.box.lt
  have hnc := H.nc
  have hal := H.shp.1
  obtain ⟨A, c', v1, _, hc1, hr⟩ := H.row hat
  obtain ⟨bb, o, rfl, ⟨hb1, hb2, hb3⟩, hbl⟩ := hr.addr hcol
  have HRr := Lib.hid hr
  obtain ⟨v2, x2⟩ := by_at hr hcol
  have lg0 : g < w.heap.size := by obtain ⟨cur, h1, _⟩ := H.cur; exact h1.lt
  have hdv := fun (y : Later w.heap.size w) => div_any (F.below y.ok) (a := 1) (c := gt (ra a at') col) (by decide) hv x2
  rw [dv_one] at hdv
  have HW := Lib.hid H
  have HF := Lib.hid F
  have q0 : (0 : Int) ≤ (at' : Int) := Int.natCast_nonneg _
  have q1 : (at' : Int) < (n : Int) := by omega
  have q2 : (0 : Int) ≤ (col : Int) := Int.natCast_nonneg _
  have q3 : (col : Int) < (m : Int) := by omega
  have q4 : (m : Int) ≤ 1000 := by omega
  have q5 : (n : Int) ≤ 1000 := by omega
  clear H F hr
  go_enter Tryz.func261, Tryz.ntmps261
  go_wp2_with fail
  refine wp_region_later (by kernel_rfl) (by kernel_rfl) ?_
  repeat (go_big_quiet_step ((go_at_call 166; exact Later.call _ (hdv _) (Nat.le_refl _))))
  refine wpQuiet_nil ?_
  rintro _ ⟨z, rfl⟩
  clear hdv
  have s1 : z.to.drew.cell? ⟨p, 0, none⟩ = some (.pointer (some ⟨b, 0, none⟩)) ∧ z.to.drew.cell? ⟨p, 1, none⟩ = some (.slice (some ⟨g, 0, none⟩) n c) ∧ z.to.drew.cell? ⟨g, at', none⟩ = some (.slice (some ⟨bb, o, none⟩) m c') := ⟨(z.cell lp).trans k0, (z.cell lp).trans k1, (z.cell lg0).trans v1⟩
  have HZ := Lib.hid (HW.out.below (z.ok.drew))
  have hsc := scale_any (w := z.to.drew) (cp := c') (HF.out.below z.ok.drew) (inv_lt (gt (ra a at') col)) (HRr.out.below ByR.stable z.ok.drew) (by omega)
  go_wp2_with fail
  refine wp_region_L (S := fun w' => w'.cell? ⟨p, 0, none⟩ = some (.pointer (some ⟨b, 0, none⟩)) ∧ w'.cell? ⟨p, 1, none⟩ = some (.slice (some ⟨g, 0, none⟩) n c) ∧ w'.cell? ⟨g, at', none⟩ = some (.slice (some ⟨bb, o, none⟩) m c')) [19] (by kernel_rfl) (by first | exact s1 | exact s2) (fun hHeld => ?_)
  refine tkL 0 rfl ?_
  refine tkL 1 rfl ?_
  refine tkL 2 rfl ?_
  refine tkL 3 rfl ?_
  refine tkL 4 rfl ?_
  refine tkL 5 rfl ?_
  refine tkL 6 rfl ?_
  refine tkL 7 rfl ?_
  refine tkL 8 rfl ?_
  refine tkL 9 rfl ?_
  refine tkL 10 rfl ?_
  refine tkL 11 rfl ?_
  refine tkL 12 rfl ?_
  refine tkL 13 rfl ?_
  refine tkL 14 rfl ?_
  refine tkL 15 rfl ?_
  refine tkL 16 rfl ?_
  refine rdL 17 rfl fun K hK => ?_
  try simp (maxSteps := 2000000) only [zz1, zz2, zz3]
  go_simp
  go_at_call 267
  refine hsc.mono ?_
  rintro e w2 ⟨gs, rfl, hgs, hrs, hb2⟩
  have HB2 := Lib.hid hb2
  have hw2 := HZ.out.below (w' := w2) hb2
  have c2 := (hb2.cell (p := ⟨p, 0, none⟩) (Nat.lt_of_lt_of_le lp z.ok.size)).trans s1.1
  have c3 := (hb2.cell (p := ⟨p, 1, none⟩) (Nat.lt_of_lt_of_le lp z.ok.size)).trans s1.2.1
  have c4 := (hb2.cell (p := ⟨g, at', none⟩) (Nat.lt_of_lt_of_le lg0 z.ok.size)).trans s1.2.2
  have s2 : w2.cell? ⟨p, 0, none⟩ = some (.pointer (some ⟨b, 0, none⟩)) ∧ w2.cell? ⟨p, 1, none⟩ = some (.slice (some ⟨g, 0, none⟩) n c) ∧ w2.cell? ⟨g, at', none⟩ = some (.slice (some ⟨bb, o, none⟩) m c') := ⟨c2, c3, c4⟩
  have f2 : w2.frozen? ⟨g, at', none⟩ = false := by obtain ⟨_, _, _, h, _⟩ := hw2.row hat; exact h
  have HW2 := Lib.hid hw2
  have HRS := Lib.hid hrs
  clear hsc hb2 hw2 hrs c2 c3 c4
  try (go_wp2_with fail)
  refine hK.out _ _ (by first | exact s1 | exact s2) (fun hHeld => ?_)
  clear hK K
  try simp (maxSteps := 2000000) only [zz1, zz2, zz3, Act.put, zz4, zz5, zz6]
  refine tkL 18 rfl ?_
  refine lsL 19 rfl fun K hK => ?_
  try simp (maxSteps := 2000000) only [zz1, zz2, zz3]
  go_simp
  refine hK.out _ _ ?_
  clear hK K
  try simp (maxSteps := 2000000) only [zz1, zz2, zz3, Act.put, zz4, zz5, zz6]
  refine wpAnyL_done (by kernel_rfl) ?_ _
  obtain ⟨a1, ha1⟩ : ∃ a1, a1 = scF at' (inv (gt (ra a at') col)) a := ⟨_, rfl⟩
  have hs1 : z.to.drew.heap.size = z.to.heap.size := rfl
  have zsz := z.ok.size
  have hw3 := HW2.out.set (i := at') (c' := m) (r := sc (inv (gt (ra a at') col)) (ra a at')) hat (Nat.le_refl _) (HRS.out.weaken ByR.stable fun k hk => by
    have hk2 : z.to.drew.heap.size ≤ k := hk
    have := HW2.out.hg
    have := HW2.out.hp
    have hb0 : base ≤ p := HW2.out.hp
    refine ⟨by omega, by omega, by omega⟩)
  rw [← scF_set (by omega), ← ha1] at hw3
  have hk3 : KeepB g w (w2.setCell ⟨g, at', none⟩ (.slice (some ⟨gs, 0, none⟩) m m)) := Keep.setCell (F := fun k => k = g) (p := ⟨g, at', none⟩) (Keep.of_below (z.ok.drew.trans (HB2.out.mono (by rw [hs1]; exact zsz)))) (fun _ => rfl) _
  have hf3 : Fld (w2.setCell ⟨g, at', none⟩ (.slice (some ⟨gs, 0, none⟩) m m)) b := (HF.out.below (z.ok.drew.trans (HB2.out.mono (by rw [hs1]; exact zsz)))).keep (Below.heap_setCell _ _ _ _ (by have := HW2.out.hg; dsimp only; omega))
  have h31 := hw3.box.cell 1
  generalize w2.setCell ⟨g, at', none⟩ (.slice (some ⟨gs, 0, none⟩) m m) = w3 at *
  have HW3 := Lib.hid hw3
  have HK3 := Lib.hid hk3
  have HF3 := Lib.hid hf3
  have hsh1 := hw3.shp
  have hl1 := hsh1.1
  have HA1 := Lib.hid ha1
  clear hw3 hk3 hf3 s1 s2 f2 hHeld HW2 HRS HB2 HZ hgs v1 v2 k0 k1 hs1 zsz ha1
  go_wp2_with fail
  go_loopw [52] (fun vi wr => ∃ k : Nat, k ≤ n ∧ vi = .int .i64 k ∧ Hid (WorkAt wr p b m base g n c (elF (mixP at' k) at' col a1)) ∧ Hid (KeepB g w3 wr)) (fun vi _ => n - (intOf vi).toNat)
  case atStart => exact ⟨0, Nat.zero_le _, rfl, by rw [mix_zero]; exact HW3, Lib.hid (Keep.refl _ _)⟩
  case round =>
    obtain ⟨k, hk, rfl, HM, HK⟩ := hrel
    have p0 : (0 : Int) ≤ (k : Int) := Int.natCast_nonneg _
    by_cases hlt : k < n
    · have p1 : (k : Int) < (n : Int) := by omega
      obtain ⟨A, d', v1, f1, hd1, hr⟩ := HM.out.row hlt
      rw [mix_at (by omega) (.inr (Nat.le_refl _))] at hr
      obtain ⟨b4, o4, rfl, ⟨g1, g2, g3⟩, hbl4⟩ := hr.addr hcol
      obtain ⟨v2, x4⟩ := by_at hr hcol
      have HR4 := Lib.hid hr
      clear hr
      by_cases hka : k = at'
      · have e1 : ((k : Int) != (at' : Int)) = false := by rw [hka]; simp
        have hms := mix_same hsh1 (col := col) hat (.inl hka) hlt
        rw [← hms] at HM
        clear hka hms
        go_wp2_with fail
        exact ⟨⟨k + 1, by omega, by go_num, HM, HK⟩, by simp [intOf]; omega⟩
      · have e1 : ((k : Int) != (at' : Int)) = true := by simpa using (by omega : ¬ (k : Int) = (at' : Int))
        by_cases h0 : gt (ra a1 k) col = 0
        · have hms := mix_same hsh1 (col := col) hat (.inr h0) hlt
          rw [← hms] at HM
          rw [h0] at v2
          clear hms h0 x4
          go_wp2_with fail
          exact ⟨⟨k + 1, by omega, by go_num, HM, HK⟩, by simp [intOf]; omega⟩
        · have e2 : (((gt (ra a1 k) col : Nat) : Int) != 0) = true := by simpa using h0
          have hmf := mix_fold (col := col) hka (by omega : k < a1.length)
          obtain ⟨A5, d5, v5, _, hd5, hr5⟩ := HM.out.row hat
          rw [mix_at (by omega) (.inl rfl)] at hr5
          have k0 := HM.out.box.cell 0
          have k1 := HM.out.box.cell 1
          have lp1 := HM.out.box.lt
          have lg1 : g < wr.heap.size := by obtain ⟨cur, h1, _⟩ := HM.out.cur; exact h1.lt
          have hfr : Fld wr b := HF3.out.keep (HK.out.block b HF3.out.lt (by have := HM.out.hg; omega))
          have hfo := fold_any (w := wr.drew) (cp := d5) (cp2 := d') (hfr.keep (w' := wr.drew) rfl) x4 (hr5.below (w' := wr.drew) ByR.stable (Below.refl _ _).drew) (by omega) hd5 (HR4.out.below (w' := wr.drew) ByR.stable (Below.refl _ _).drew) (by omega)
          have HD := Lib.hid (HM.out.below (w' := wr.drew) (Below.refl _ _).drew)
          have HMF := Lib.hid hmf
          have s1 : wr.drew.cell? ⟨p, 0, none⟩ = some (.pointer (some ⟨b, 0, none⟩)) ∧ wr.drew.cell? ⟨p, 1, none⟩ = some (.slice (some ⟨g, 0, none⟩) n c) ∧ wr.drew.cell? ⟨g, at', none⟩ = some (.slice A5 m d5) ∧ wr.drew.cell? ⟨b4, o4 + col, none⟩ = some (.int .u8 (gt (ra a1 k) col : Int)) := ⟨k0, k1, v5, v2⟩
          clear hmf hr5 hfr h0
          go_wp2_with fail
          refine wp_region_L (S := fun w' => w'.cell? ⟨p, 0, none⟩ = some (.pointer (some ⟨b, 0, none⟩)) ∧ w'.cell? ⟨p, 1, none⟩ = some (.slice (some ⟨g, 0, none⟩) n c) ∧ w'.cell? ⟨g, at', none⟩ = some (.slice A5 m d5) ∧ w'.cell? ⟨b4, o4 + col, none⟩ = some (.int .u8 (gt (ra a1 k) col : Int))) [23] (by kernel_rfl) (by first | exact s1 | exact s2) (fun hHeld => ?_)
          refine tkL 0 rfl ?_
          refine tkL 1 rfl ?_
          refine tkL 2 rfl ?_
          refine tkL 3 rfl ?_
          refine tkL 4 rfl ?_
          refine tkL 5 rfl ?_
          refine tkL 6 rfl ?_
          refine tkL 7 rfl ?_
          refine tkL 8 rfl ?_
          refine tkL 9 rfl ?_
          refine tkL 10 rfl ?_
          refine tkL 11 rfl ?_
          refine tkL 12 rfl ?_
          refine tkL 13 rfl ?_
          refine tkL 14 rfl ?_
          refine tkL 15 rfl ?_
          refine tkL 16 rfl ?_
          refine tkL 17 rfl ?_
          refine tkL 18 rfl ?_
          refine tkL 19 rfl ?_
          refine tkL 20 rfl ?_
          refine rdL 21 rfl fun K hK => ?_
          try simp (maxSteps := 2000000) only [zz1, zz2, zz3]
          go_simp
          go_at_call 210
          refine hfo.mono ?_
          rintro e w5 ⟨AN, cN, rfl, hcN, hrs, hb2⟩
          have HB5 := Lib.hid hb2
          have hw5 := HD.out.below (w' := w5) hb2
          have c2 := (hb2.cell (p := ⟨p, 0, none⟩) lp1).trans s1.1
          have c3 := (hb2.cell (p := ⟨p, 1, none⟩) lp1).trans s1.2.1
          have c4 := (hb2.cell (p := ⟨g, at', none⟩) lg1).trans s1.2.2.1
          have c5 := (hb2.cell (p := ⟨b4, o4 + col, none⟩) hbl4).trans s1.2.2.2
          have s2 : w5.cell? ⟨p, 0, none⟩ = some (.pointer (some ⟨b, 0, none⟩)) ∧ w5.cell? ⟨p, 1, none⟩ = some (.slice (some ⟨g, 0, none⟩) n c) ∧ w5.cell? ⟨g, at', none⟩ = some (.slice A5 m d5) ∧ w5.cell? ⟨b4, o4 + col, none⟩ = some (.int .u8 (gt (ra a1 k) col : Int)) := ⟨c2, c3, c4, c5⟩
          obtain ⟨_, _, c6, f6, _, _⟩ := hw5.row hlt
          have HW5 := Lib.hid hw5
          have HRS := Lib.hid hrs
          have HCN := Lib.hid hcN
          clear hfo hb2 hw5 hrs c2 c3 c4 c5 hcN
          try (go_wp2_with fail)
          refine hK.out _ _ (by first | exact s1 | exact s2) (fun hHeld => ?_)
          clear hK K
          try simp (maxSteps := 2000000) only [zz1, zz2, zz3, Act.put, zz4, zz5, zz6]
          refine tkL 22 rfl ?_
          refine lsL 23 rfl fun K hK => ?_
          try simp (maxSteps := 2000000) only [zz1, zz2, zz3]
          go_simp
          refine hK.out _ _ ?_
          clear hK K
          try simp (maxSteps := 2000000) only [zz1, zz2, zz3, Act.put, zz4, zz5, zz6]
          refine wpAnyL_done (by kernel_rfl) ?_ _
          have hw6 := HW5.out.set (i := k) hlt HCN.out (HRS.out.weaken ByR.stable fun j hj => by
            have hj2 : wr.heap.size ≤ j := hj
            have := HW5.out.hg
            refine ⟨by omega, by omega, by omega⟩)
          rw [← HMF.out] at hw6
          have hk6 : KeepB g w3 (w5.setCell ⟨g, k, none⟩ (.slice AN m cN)) := Keep.setCell (F := fun k => k = g) (p := ⟨g, k, none⟩) (keep_drew HK.out |>.trans (Keep.of_below (F := fun _ => False) HB5.out) (fun _ h => h.elim)) (fun _ => rfl) _
          have HW6 := Lib.hid hw6
          have HK6 := Lib.hid hk6
          clear hw6 hk6 s1 s2 hHeld
          go_wp2_with fail
          exact ⟨⟨k + 1, by omega, by go_num, HW6, HK6⟩, by simp [intOf]; omega⟩
    · have p1 : ¬ (k : Int) < (n : Int) := by omega
      obtain rfl : k = n := by omega
      rw [HA1.out, ← clF_eq hal] at HM
      go_wp2_with fail
      go_end0
      exact ⟨rfl, HM.out, HK3.out.trans HK.out (fun _ h _ => h)⟩
end
section

theorem eliF_succ (c col d : Nat) (a : Rws) : eliF (c + 1) col d a = if d = a.length then (d, a) else match pvF col (a.drop d) d with
    | none => eliF c (col + 1) d a
    | some k => eliF c (col + 1) (d + 1) (clF d col (swF a d k)) := rfl
theorem far2 {w : World} {p g i : Nat} (h : p ≠ g) {v : Option Value} {u : Value} (hc : w.cell? ⟨p, 1, none⟩ = v) : (w.setCell ⟨g, i, none⟩ u).cell? ⟨p, 1, none⟩ = v := (World.cell?_setCell_other _ _ _ _ (fun e => h (by injection e with e; exact e.symm))).trans hc
set_option maxRecDepth 100000 in
set_option maxHeartbeats 8000000 in
theorem eliminate_any {w : World} {p b m base g n c cols : Nat} {a : Rws} (H : WorkAt w p b m base g n c a) (F : Fld w b) (hbb : b < base) (hn : n ≤ 1000) (hcol : cols ≤ m) (hm : m ≤ 1000) :
    Calls Tryz.prog 249 #[.pointer (some ⟨p, 0, none⟩), .int .i64 (cols : Int)] w fun e w' => e = .returned (.int .i64 ((eliF cols 0 0 a).1 : Int)) ∧ WorkAt w' p b m base g n c (eliF cols 0 0 a).2 ∧ KeepB g w w' := by
  have HW := Lib.hid H
  have HF := Lib.hid F
  have q0 : (0 : Int) ≤ (cols : Int) := Int.natCast_nonneg _
  have q1 : (cols : Int) ≤ 1000 := by omega
  have q2 : (n : Int) ≤ 1000 := by omega
  clear H F
  obtain ⟨R, hR⟩ : ∃ R, eliF cols 0 0 a = R := ⟨_, rfl⟩
  rw [hR]
  have HR := Lib.hid hR
  clear hR
  go_enter Tryz.func249, Tryz.ntmps249
  go_wp2_with fail
  go_loopw [5, 9] (fun vd vi wr => ∃ (col d : Nat) (a' : Rws), col ≤ cols ∧ d ≤ n ∧ vi = .int .i64 col ∧ vd = .int .i64 d ∧ Hid (eliF (cols - col) col d a' = R) ∧ Hid (WorkAt wr p b m base g n c a') ∧ Hid (KeepB g w wr)) (fun _ vi _ => cols - (intOf vi).toNat)
  case atStart => exact ⟨0, 0, a, Nat.zero_le _, Nat.zero_le _, rfl, rfl, HR, HW, Lib.hid (Keep.refl _ _)⟩
  case round =>
    clear HR HW a
    obtain ⟨col, d, a, hc, hd, rfl, rfl, HR, HM, HK⟩ := hrel
    have p0 : (0 : Int) ≤ (col : Int) := Int.natCast_nonneg _
    have p2 : (0 : Int) ≤ (d : Int) := Int.natCast_nonneg _
    have hal := HM.out.shp.1
    have k1 := HM.out.box.cell 1
    by_cases hlt : col < cols
    · have p1 : (col : Int) < (cols : Int) := by omega
      have hE := HR.out
      rw [show cols - col = (cols - (col + 1)) + 1 by omega, eliF_succ] at hE
      by_cases hdn : d = n
      · rw [if_pos (by omega)] at hE
        have e1 : ((d : Int) == (n : Int)) = true := by rw [hdn]; simp
        have h1 : R.1 = d := by rw [← hE]
        have h2 : R.2 = a := by rw [← hE]
        have H1 := Lib.hid h1
        have H2 := Lib.hid h2
        clear hE h1 h2 hdn
        go_wp2_with fail
        go_ret
        rw [H1.out, H2.out]
        exact ⟨rfl, HM.out, HK.out⟩
      · rw [if_neg (by omega)] at hE
        have e1 : ((d : Int) == (n : Int)) = false := by simpa using (by omega : ¬ (d : Int) = (n : Int))
        have hpv := pivot_any HM.out (d := d) (col := col) (by omega) hn (by omega) hm
        cases hp : pvF col (a.drop d) d with
        | none =>
          rw [hp] at hE
          have hI : pvI col a d = -1 := by unfold pvI; rw [hp]
          rw [hI] at hpv
          have HE := Lib.hid hE
          clear hp hI hE hdn
          go_wp2_with (go_at_call 260; refine hpv.mono ?_; rintro e w9 ⟨rfl, hw9⟩; rw [hw9]; clear hw9)
          exact ⟨⟨col + 1, d, a, by omega, hd, by go_num, rfl, HE, HM, HK⟩, by simp [intOf]; omega⟩
        | some k =>
          rw [hp] at hE
          have hI : pvI col a d = (k : Int) := by unfold pvI; rw [hp]
          rw [hI] at hpv
          obtain ⟨r, x1, x2, x3⟩ := pvF_some hp
          rw [List.getElem?_drop, show d + (k - d) = k by omega] at x1
          have hkn : k < n := by rw [← hal]; exact (List.getElem?_eq_some_iff.1 x1).1
          have x4 : gt (ra a k) col ≠ 0 := by rw [ra_some x1]; exact x2
          have hsw : gt (ra (swF a d k) d) col ≠ 0 := by
            rw [swF_ra _ _ _ (by omega)]
            split
            · rename_i e; rw [e]; exact x4
            · rw [if_pos rfl]; exact x4
          obtain ⟨Ad, cd, vd, fd0, hcd, hrd⟩ := HM.out.row (i := d) (by omega)
          obtain ⟨Ak, ck, vk, fk0, hck, hrk⟩ := HM.out.row hkn
          have hw1 := HM.out.set (i := d) (by omega) hck hrk
          have hw2 := hw1.set (i := k) hkn hcd (hrd.setCell ByR.stable (fun h => h.2.1 rfl) _)
          have hww : WorkAt ((wr.setCell ⟨g, d, none⟩ (.slice Ak m ck)).setCell ⟨g, k, none⟩ (.slice Ad m cd)).drew p b m base g n c (swF a d k) := hw2.below (Below.refl _ _).drew
          obtain ⟨_, _, v5, f5, _, _⟩ := hw1.row hkn
          have HE := Lib.hid hE
          have HS := Lib.hid hsw
          have HW2 := Lib.hid hww
          have p5 : (k : Int) < (n : Int) := by omega
          have p6 : (0 : Int) ≤ (k : Int) := Int.natCast_nonneg _
          have p7 : (d : Int) < (n : Int) := by omega
          have p8 : ¬ (k : Int) < 0 := by omega
          have hpg := HM.out.pg
          have s2 : (wr.drew.setCell ⟨g, d, none⟩ (.slice Ak m ck)).cell? ⟨p, 1, none⟩ = some (.slice (some ⟨g, 0, none⟩) n c) := far2 hpg k1
          have s3 : ((wr.drew.setCell ⟨g, d, none⟩ (.slice Ak m ck)).setCell ⟨g, k, none⟩ (.slice Ad m cd)).cell? ⟨p, 1, none⟩ = some (.slice (some ⟨g, 0, none⟩) n c) := far2 hpg s2
          have s1 : wr.drew.cell? ⟨p, 1, none⟩ = some (.slice (some ⟨g, 0, none⟩) n c) ∧ wr.drew.cell? ⟨g, d, none⟩ = some (.slice Ad m cd) ∧ wr.drew.cell? ⟨g, k, none⟩ = some (.slice Ak m ck) := ⟨k1, vd, vk⟩
          clear hp hI hE hdn hw1 hw2 hww x1 x2 x3 x4 hrd hrk hsw
          go_wp2_with (go_at_call 260; refine hpv.mono ?_; rintro e w9 ⟨rfl, hw9⟩; rw [hw9]; clear hw9 hpv)
          refine wp_region_held_drew (S := fun w' => w'.cell? ⟨p, 1, none⟩ = some (.slice (some ⟨g, 0, none⟩) n c)) (by kernel_rfl) (by first | exact s1.1 | exact s2 | exact s3) (fun hHeld => ?_)
          refine tkH 0 rfl ?_
          refine tkH 1 rfl ?_
          refine tkH 2 rfl ?_
          refine tkH 3 rfl ?_
          refine tkH 4 rfl ?_
          refine tkH 5 rfl ?_
          refine tkH 6 rfl ?_
          refine tkH 7 rfl ?_
          refine tkH 8 rfl ?_
          refine tkH 9 rfl ?_
          refine tkH 10 rfl ?_
          refine tkH 11 rfl ?_
          refine tkH 12 rfl ?_
          refine tkH 13 rfl ?_
          refine tkH 14 rfl ?_
          refine tkH 15 rfl ?_
          refine tkH 17 rfl ?_
          refine tkH 18 rfl ?_
          refine tkH 19 rfl ?_
          refine tkH 20 rfl ?_
          refine tkH 21 rfl ?_
          refine tkH 22 rfl ?_
          refine wpAnyH_ready (rs := [16, 23]) (by kernel_rfl) (by simp) ?_
          refine AllReadyH.cons rfl (fun K hK => ?_) (AllReadyH.cons rfl (fun K hK => ?_) AllReadyH.nil)
          · try simp (maxSteps := 2000000) only [zz1, zz2, zz3]
            go_simp
            refine hK.out _ _ (by first | exact s1.1 | exact s2 | exact s3) (fun hHeld => ?_)
            clear hK K
            try simp (maxSteps := 2000000) only [zz1, zz2, zz3, Act.put, zz4, zz5, zz6]
            refine rdH 23 rfl fun K hK => ?_
            try simp (maxSteps := 2000000) only [zz1, zz2, zz3]
            go_simp
            refine hK.out _ _ (by first | exact s1.1 | exact s2 | exact s3) (fun hHeld => ?_)
            clear hK K
            try simp (maxSteps := 2000000) only [zz1, zz2, zz3, Act.put, zz4, zz5, zz6]
            refine tkH 24 rfl ?_
            refine rdH 25 rfl fun K hK => ?_
            try simp (maxSteps := 2000000) only [zz1, zz2, zz3]
            go_simp
            refine hK.out _ _ (by first | exact s1.1 | exact s2 | exact s3) (fun hHeld => ?_)
            clear hK K
            try simp (maxSteps := 2000000) only [zz1, zz2, zz3, Act.put, zz4, zz5, zz6]
            refine tkH 26 rfl ?_
            refine rdH 27 rfl fun K hK => ?_
            try simp (maxSteps := 2000000) only [zz1, zz2, zz3]
            go_simp
            refine hK.out _ _ (by first | exact s1.1 | exact s2 | exact s3) (fun hHeld => ?_)
            clear hK K
            try simp (maxSteps := 2000000) only [zz1, zz2, zz3, Act.put, zz4, zz5, zz6]
            refine wpAnyH_done (by kernel_rfl) ?_ _
            have hk2 : KeepB g w ((wr.setCell ⟨g, d, none⟩ (.slice Ak m ck)).setCell ⟨g, k, none⟩ (.slice Ad m cd)).drew := keep_drew <| Keep.setCell (F := fun k => k = g) (p := ⟨g, k, none⟩) (Keep.setCell (F := fun k => k = g) (p := ⟨g, d, none⟩) HK.out (fun _ => rfl) _) (fun _ => rfl) _
            have HK2 := Lib.hid hk2
            clear hk2 s1 s2 s3 hHeld k1 vd vk fd0 fk0 v5 f5
            generalize ((wr.setCell ⟨g, d, none⟩ (.slice Ak m ck)).setCell ⟨g, k, none⟩ (.slice Ad m cd)).drew = w5 at *
            have hcl := clean_any HW2.out (HF.out.keep (HK2.out.block b HF.out.lt (by have := HM.out.hg; omega))) hbb (at' := d) (col := col) (by omega) hn (by omega) hm HS.out
            go_wp2_with (go_at_call 261; refine hcl.mono ?_; rintro e w6 ⟨rfl, h6, h7⟩; have H6 := Lib.hid h6; have H7 := Lib.hid (HK2.out.trans h7 (fun _ h _ => h)); clear h6 h7 hcl)
            exact ⟨⟨col + 1, d + 1, _, by omega, by omega, by go_num, by go_num, HE, H6, H7⟩, by simp [intOf]; omega⟩
          · try simp (maxSteps := 2000000) only [zz1, zz2, zz3]
            go_simp
            refine hK.out _ _ (by first | exact s1.1 | exact s2 | exact s3) (fun hHeld => ?_)
            clear hK K
            try simp (maxSteps := 2000000) only [zz1, zz2, zz3, Act.put, zz4, zz5, zz6]
            refine rdH 16 rfl fun K hK => ?_
            try simp (maxSteps := 2000000) only [zz1, zz2, zz3]
            go_simp
            refine hK.out _ _ (by first | exact s1.1 | exact s2 | exact s3) (fun hHeld => ?_)
            clear hK K
            try simp (maxSteps := 2000000) only [zz1, zz2, zz3, Act.put, zz4, zz5, zz6]
            refine tkH 24 rfl ?_
            refine rdH 25 rfl fun K hK => ?_
            try simp (maxSteps := 2000000) only [zz1, zz2, zz3]
            go_simp
            refine hK.out _ _ (by first | exact s1.1 | exact s2 | exact s3) (fun hHeld => ?_)
            clear hK K
            try simp (maxSteps := 2000000) only [zz1, zz2, zz3, Act.put, zz4, zz5, zz6]
            refine tkH 26 rfl ?_
            refine rdH 27 rfl fun K hK => ?_
            try simp (maxSteps := 2000000) only [zz1, zz2, zz3]
            go_simp
            refine hK.out _ _ (by first | exact s1.1 | exact s2 | exact s3) (fun hHeld => ?_)
            clear hK K
            try simp (maxSteps := 2000000) only [zz1, zz2, zz3, Act.put, zz4, zz5, zz6]
            refine wpAnyH_done (by kernel_rfl) ?_ _
            have hk2 : KeepB g w ((wr.setCell ⟨g, d, none⟩ (.slice Ak m ck)).setCell ⟨g, k, none⟩ (.slice Ad m cd)).drew := keep_drew <| Keep.setCell (F := fun k => k = g) (p := ⟨g, k, none⟩) (Keep.setCell (F := fun k => k = g) (p := ⟨g, d, none⟩) HK.out (fun _ => rfl) _) (fun _ => rfl) _
            have HK2 := Lib.hid hk2
            clear hk2 s1 s2 s3 hHeld k1 vd vk fd0 fk0 v5 f5
            generalize ((wr.setCell ⟨g, d, none⟩ (.slice Ak m ck)).setCell ⟨g, k, none⟩ (.slice Ad m cd)).drew = w5 at *
            have hcl := clean_any HW2.out (HF.out.keep (HK2.out.block b HF.out.lt (by have := HM.out.hg; omega))) hbb (at' := d) (col := col) (by omega) hn (by omega) hm HS.out
            go_wp2_with (go_at_call 261; refine hcl.mono ?_; rintro e w6 ⟨rfl, h6, h7⟩; have H6 := Lib.hid h6; have H7 := Lib.hid (HK2.out.trans h7 (fun _ h _ => h)); clear h6 h7 hcl)
            exact ⟨⟨col + 1, d + 1, _, by omega, by omega, by go_num, by go_num, HE, H6, H7⟩, by simp [intOf]; omega⟩
    · have p1 : ¬ (col : Int) < (cols : Int) := by omega
      have hE := HR.out
      rw [show cols - col = 0 by omega] at hE
      have h1 : R.1 = d := by rw [← hE]; rfl
      have h2 : R.2 = a := by rw [← hE]; rfl
      have H1 := Lib.hid h1
      have H2 := Lib.hid h2
      clear hE h1 h2
      go_wp2_with fail
      go_ret
      rw [H1.out, H2.out]
      exact ⟨rfl, HM.out, HK.out⟩
end
section

def mkF (f : Nat → Nat → Nat) (rows cols : Nat) : Rws := (List.range rows).map fun i => (List.range cols).map (f i)
theorem mkF_flat (f : Nat → Nat → Nat) (rows cols : Nat) : flatF f rows cols = (mkF f rows cols).flatten := rfl
theorem mkF_ra {f : Nat → Nat → Nat} {rows cols i : Nat} (hi : i < rows) : ra (mkF f rows cols) i = (List.range cols).map (f i) := ra_some (by unfold mkF; rw [List.getElem?_map, List.getElem?_range hi]; rfl)
theorem range_gt {f : Nat → Nat} {n j : Nat} (hj : j < n) : gt ((List.range n).map f) j = f j := by
  unfold gt
  rw [List.getD_eq_getElem?_getD, List.getElem?_map, List.getElem?_range hj]; rfl
theorem mkF_shp {f : Nat → Nat → Nat} {rows cols : Nat} (h : ∀ i j, i < rows → j < cols → f i j < 256) : Shp rows cols (mkF f rows cols) := .of (by unfold mkF; simp) fun i hi => by
  rw [mkF_ra hi]
  refine ⟨by simp, fun x hx => ?_⟩
  obtain ⟨j, hj, rfl⟩ := List.mem_map.1 hx
  exact h i j hi (List.mem_range.1 hj)
/-- What elimination leaves of a matrix and the identity behind it. -/
def eliR (V : Rws) (n : Nat) : Rws := (eliF n 0 0 (begF V n n)).2
def invE (V : Rws) (n i j : Nat) : Nat := gt (ra (eliR V n) i) (n + j)
theorem begF_ra {V : Rws} {n i : Nat} (hi : i < n) : ra (begF V n n) i = begRow V n i := ra_some (by unfold begF; rw [List.getElem?_map, List.getElem?_range hi]; rfl)
theorem begRow_gt {V : Rws} {n i l : Nat} (hV : Shp n n V) (hi : i < n) (hl : l < n + n) : gt (begRow V n i) l = if l < n then gt (ra V i) l else if l = n + i then 1 else 0 := by
  unfold begRow
  have h := (hV.row hi).1
  rw [gt_set _ _ _ (by rw [List.length_append, List.length_replicate, h]; exact hl), gt_append, h]
  by_cases e : l = n + i
  · rw [if_pos e, if_neg (by omega), if_pos e]
  · rw [if_neg e]
    by_cases e2 : l < n
    · rw [if_pos e2, if_pos e2]
    · rw [if_neg e2, if_neg e2, if_neg e]
      unfold gt
      rw [List.getD_eq_getElem?_getD, List.getElem?_replicate]
      split <;> rfl
theorem inj_beg {V : Rws} {n : Nat} (hV : Shp n n V) (h : Inj n V) : Inj n (begF V n n) := fun x hx hx0 hz => h x hx hx0 fun i hi => by
  rw [← hz i hi]
  refine sumx_cong fun l hl => ?_
  rw [begF_ra hi, begRow_gt hV hi (by omega), if_pos hl]
theorem eliR_ok {V : Rws} {n : Nat} (hV : Shp n n V) (h : Inj n V) : (eliF n 0 0 (begF V n n)).1 = n ∧ Gj n (n + n) n (eliR V n) ∧ ∀ y : Nat → Nat, (∀ l, y l < 256) → (Ann n (n + n) (eliR V n) y ↔ Ann n (n + n) (begF V n n) y) := by
  obtain ⟨a', h1, h2, h3⟩ := eli_ok (n := n) (m := n + n) (by omega) (inj_beg hV h) n 0 (begF V n n) (by omega) ⟨begF_shp hV, fun _ _ _ hl => absurd hl (Nat.not_lt_zero _)⟩ (fun _ _ => Iff.rfl)
  unfold eliR
  rw [h1]
  exact ⟨rfl, h2, h3⟩
theorem call_inv1 (args : Array Value) (w : World) : (callFunc 250 args).run Tryz.prog w = .ok (.enter 250 args) w := by go_simp
set_option maxRecDepth 100000 in
set_option maxHeartbeats 1600000 in
theorem inv1_any {w : World} {p b base g n c pb mb : Nat} {a : Rws} {v0 v2 : Value} (H : WorkAt w p b (n + n) base g n c a) (hp : BoxAt w pb #[.pointer (some ⟨p, 0, none⟩)]) (hm : BoxAt w mb #[v0, .int .i64 (n : Int), v2]) (hn : n ≤ 255) {i j : Nat} (hi : i < n) (hj : j < n) :
    Calls Tryz.prog 250 #[.int .i64 (i : Int), .int .i64 (j : Int), .pointer (some ⟨pb, 0, none⟩), .pointer (some ⟨mb, 0, none⟩)] w fun e w' => e = .returned (.int .u8 (gt (ra a i) (n + j) : Int)) ∧ Below w.heap.size w w' := by
  have k1 := H.box.cell 1
  have k2 := hp.cell 0
  have k3 := hm.cell 1
  have l1 := H.box.lt
  have l2 := hp.lt
  have l3 := hm.lt
  obtain ⟨A, c', v1, _, hc1, hr⟩ := H.row hi
  obtain ⟨bb, o, rfl, _, hbl⟩ := hr.addr (k := n + j) (by omega)
  obtain ⟨v2', x2⟩ := by_at hr (k := n + j) (by omega)
  have lg0 : g < w.heap.size := by obtain ⟨cur, h1, _⟩ := H.cur; exact h1.lt
  have q1 : (i : Int) < (n : Int) := by omega
  have q2 : (0 : Int) ≤ (i : Int) := Int.natCast_nonneg _
  have q3 : (0 : Int) ≤ (j : Int) := Int.natCast_nonneg _
  have q4 : (j : Int) < (n : Int) := by omega
  have q5 : (n : Int) ≤ 255 := by omega
  have q6 : IntKind.i64.wrap ((n : Int) + (j : Int)) = ((n + j : Nat) : Int) := by rw [IntKind.wrap_i64]; omega
  have q7 : ((n + j : Nat) : Int) < ((n + n : Nat) : Int) := by omega
  have q8 : (0 : Int) ≤ ((n + j : Nat) : Int) := Int.natCast_nonneg _
  clear H hp hm hr
  go_enter Tryz.func250, Tryz.ntmps250
  go_wp2_with fail
  refine wp_region_later (by kernel_rfl) (by kernel_rfl) ?_
  repeat (go_big_quiet_step (fail))
  refine wpQuiet_nil ?_
  rintro _ ⟨z, rfl⟩
  go_wp2_with fail
  go_ret
  exact ⟨rfl, z.ok⟩
set_option maxRecDepth 100000 in
set_option maxHeartbeats 8000000 in
theorem invert_any {w : World} {b n c : Nat} {A : Option Addr} {S : Nat → Prop} {V : Rws} (F : Fld w b) (hV : Shp n n V) (hI : Inj n V) (h1 : 1 ≤ n) (h2 : n ≤ 255) (R : RdL ByR 1 S w A (n * n) V.flatten) (hc : n * n ≤ c) :
    Calls Tryz.prog 236 #[.pointer (some ⟨b, 0, none⟩), .agg #[.int .i64 (n : Int), .int .i64 (n : Int), .slice A (n * n) c]] w fun e w' => ∃ A' c', e = .returned (.tuple #[.agg #[.int .i64 (n : Int), .int .i64 (n : Int), .slice A' (n * n) c'], .int .i64 0]) ∧ n * n ≤ c' ∧
      RdL ByR 1 (fun k => w.heap.size ≤ k) w' A' (n * n) (mkF (invE V n) n n).flatten ∧ Below w.heap.size w w' := by
  have HR := Lib.hid R
  have HF := Lib.hid F
  obtain ⟨e1, e2, _⟩ := eliR_ok hV hI
  have E1 := Lib.hid e1
  have E2 := Lib.hid e2
  have q1 : (n : Int) ≤ 255 := by omega
  have q0 : (0 : Int) ≤ (n : Int) := Int.natCast_nonneg _
  clear R F e1 e2
  go_enter Tryz.func236, Tryz.ntmps236
  go_wp2_with fail
  have hm1 := (BoxAt.new w #[.int .i64 (n : Int), .int .i64 (n : Int), .slice A (n * n) c] 181).alloc (.cells #[.int .i64 0, .int .i64 0, .slice none 0 0] 181)
  have hr1 := BoxAt.new (w.alloc (.cells #[.int .i64 (n : Int), .int .i64 (n : Int), .slice A (n * n) c] 181)) #[.int .i64 0, .int .i64 0, .slice none 0 0] 181
  have hb1 : Below w.heap.size w ((w.alloc (.cells #[.int .i64 (n : Int), .int .i64 (n : Int), .slice A (n * n) c] 181)).alloc (.cells #[.int .i64 0, .int .i64 0, .slice none 0 0] 181)) := (by repeat (first | (with_reducible exact Below.refl _ _) | (with_reducible assumption) | (with_reducible refine Below.drew ?_) | (with_reducible refine Below.setCell ?_ ?_ _) | (with_reducible refine Below.alloc ?_ ?_ _) | (with_reducible refine Below.later ?_ ?_ _) | (first | (with_reducible exact Nat.le_refl _) | omega | (simp only [World.size_alloc, World.size_setCell, World.size_drew] <;> omega))))
  rw [World.size_alloc] at hr1
  generalize ((w.alloc (.cells #[.int .i64 (n : Int), .int .i64 (n : Int), .slice A (n * n) c] 181)).alloc (.cells #[.int .i64 0, .int .i64 0, .slice none 0 0] 181)) = w1 at *
  refine (nobody_any (HF.out.below hb1)).mono ?_
  rintro e w2 ⟨rfl, hb2⟩
  have hbA := hb1.trans (hb2.mono hb1.size)
  replace hm1 := hm1.below hb2
  replace hr1 := hr1.below hb2
  have k0 := hm1.cell 0
  have k1 := hm1.cell 1
  have k2 := hm1.cell 2
  clear hb1 hb2
  go_wp2_with fail
  refine (right_ok h1 h2 h1 h2).mono ?_
  rintro e w3 ⟨rfl, hb3⟩
  replace hbA := hbA.trans (hb3.mono hbA.size)
  replace hm1 := hm1.below hb3
  replace hr1 := hr1.below hb3
  replace k0 := hm1.cell 0
  replace k1 := hm1.cell 1
  replace k2 := hm1.cell 2
  clear hb3
  go_wp2_with fail
  have hml := hm1.lt
  have hrl := hr1.lt
  refine (begun_any hV h1 h2 (HR.out.below ByR.stable hbA) hc).mono ?_
  rintro e w4 ⟨p, g, cc, rfl, hW, hb4⟩
  have hs3 := hbA.size
  replace hbA := hbA.trans (hb4.mono hbA.size)
  replace hm1 := hm1.below hb4
  replace hr1 := hr1.below hb4
  have hgg := hW.hg
  have hm3 := hb4.size
  clear hb4 k0 k1 k2
  go_wp2_with fail
  have hb5 : Below w4.heap.size w4 (w4.alloc (.cells #[.pointer (some ⟨p, 0, none⟩)] 325)) := (Below.refl _ _).alloc (Nat.le_refl _) _
  have hp5 := BoxAt.new w4 #[.pointer (some ⟨p, 0, none⟩)] 325
  generalize (w4.alloc (.cells #[.pointer (some ⟨p, 0, none⟩)] 325)) = w5 at *
  obtain ⟨pb, hpb⟩ : ∃ pb, w4.heap.size = pb := ⟨_, rfl⟩
  have hgl : g < w4.heap.size := by obtain ⟨cur, h1, _⟩ := hW.cur; exact h1.lt
  replace hbA := hbA.trans (hb5.mono hbA.size)
  replace hm1 := hm1.below hb5
  replace hr1 := hr1.below hb5
  replace hW := (hW.below hb5).below (w' := w5.drew) (Below.refl _ _).drew
  rw [hpb] at hp5 hgl ⊢
  have hbd : Below w.heap.size w w5.drew := hbA.drew
  have hel := eliminate_any hW (HF.out.below hbd) (by have := HF.out.lt; omega) (by omega) (by omega : n ≤ n + n) (by omega)
  rw [E1.out] at hel
  have s1 : w5.drew.cell? ⟨pb, 0, none⟩ = some (.pointer (some ⟨p, 0, none⟩)) ∧ w5.drew.cell? ⟨w.heap.size, 0, none⟩ = some (.int .i64 n) ∧ w5.drew.cell? ⟨w.heap.size, 1, none⟩ = some (.int .i64 n) := ⟨hp5.cell 0, hm1.cell 0, hm1.cell 1⟩
  have HP5 := Lib.hid hp5
  have HM5 := Lib.hid hm1
  have HR5 := Lib.hid hr1
  have HBD := Lib.hid hbd
  clear hp5 hm1 hr1 hbd hb5 hW hbA
  refine wp_region_held_drew (S := fun w' => w'.cell? ⟨pb, 0, none⟩ = some (.pointer (some ⟨p, 0, none⟩)) ∧ w'.cell? ⟨w.heap.size, 0, none⟩ = some (.int .i64 n) ∧ w'.cell? ⟨w.heap.size, 1, none⟩ = some (.int .i64 n)) (by kernel_rfl) (by first | exact s1 | exact s2) (fun hHeld => ?_)
  refine tkH 0 rfl ?_
  refine tkH 1 rfl ?_
  refine tkH 2 rfl ?_
  refine tkH 4 rfl ?_
  refine tkH 5 rfl ?_
  refine rdH 3 rfl fun K hK => ?_
  try simp (maxSteps := 2000000) only [zz1, zz2, zz3]
  go_simp
  go_at_call 249
  refine hel.mono ?_
  rintro e w6 ⟨rfl, h6, h7⟩
  have hp6 := (HP5.out.below (Below.refl _ _).drew).keeps h7 (by omega)
  have hm6 := (HM5.out.below (Below.refl _ _).drew).keeps h7 (by omega)
  have hr6 := (HR5.out.below (Below.refl _ _).drew).keeps h7 (by omega)
  have s2 : w6.cell? ⟨pb, 0, none⟩ = some (.pointer (some ⟨p, 0, none⟩)) ∧ w6.cell? ⟨w.heap.size, 0, none⟩ = some (.int .i64 n) ∧ w6.cell? ⟨w.heap.size, 1, none⟩ = some (.int .i64 n) := ⟨hp6.cell 0, hm6.cell 0, hm6.cell 1⟩
  have hb6 : Below w.heap.size w w6 := HBD.out.trans (Keep.below h7 HBD.out.size (fun k hk => by omega))
  have HP6 := Lib.hid hp6
  have HM6 := Lib.hid hm6
  have HR6 := Lib.hid hr6
  have HW6 := Lib.hid h6
  have HB6 := Lib.hid hb6
  clear hp6 hm6 hr6 h6 h7 hb6 hel
  try (go_wp2_with fail)
  refine hK.out _ _ (by first | exact s1 | exact s2) (fun hHeld => ?_)
  clear hK K
  try simp (maxSteps := 2000000) only [zz1, zz2, zz3, Act.put, zz4, zz5, zz6]
  refine tkH 6 rfl ?_
  refine wpAnyH_done (by kernel_rfl) ?_ _
  have k0 := HM6.out.cell 0
  have k1 := HM6.out.cell 1
  have hs6 := HB6.out.size
  clear s1 s2 hHeld
  go_wp2_with fail
  refine (filled_any h2 h2 (g := 250) (f := invE V n) (Lib.hid call_inv1) (Lib.hid fun i j W hi hj hW => ?_)).mono ?_
  · exact (inv1_any (HW6.out.below hW) (HP6.out.below hW) (HM6.out.below hW) h2 hi hj).mono fun e W' h => ⟨h.1, gt_lt (E2.out.shp.row hi).2 _, h.2⟩
  rintro e w7 ⟨A', c', rfl, hc', hr7, hb7⟩
  have g0 := (HR6.out.below hb7).cell 0
  have g1 := (HR6.out.below hb7).cell 1
  have g2 := (HR6.out.below hb7).cell 2
  have f0 := (HR6.out.below hb7).frozen 0
  have f1 := (HR6.out.below hb7).frozen 1
  have f2 := (HR6.out.below hb7).frozen 2
  have hrl6 := HR6.out.lt
  have HB7 := Lib.hid hb7
  have HRR := Lib.hid hr7
  clear hr7 hb7 k0 k1
  go_wp2_with fail
  refine bodyPost_ret (v := .tuple #[.agg #[.int .i64 (n : Int), .int .i64 (n : Int), .slice A' (n * n) c'], .int .i64 0]) (by simp [results, Tryz.results236, go_sem, *]) rfl ?_
  refine ⟨A', c', rfl, hc', ?_, ?_⟩
  · refine RdL.weaken ByR.stable (S := fun k => w6.heap.size ≤ k) ?_ (fun k hk => by have h5 : w6.heap.size ≤ k := hk; show _ ≤ k; omega)
    rw [← mkF_flat]
    repeat (first | exact HRR.out | refine RdL.setCell ByR.stable ?_ (show ¬ w6.heap.size ≤ _ by dsimp only; omega) _)
  · have hbk := HB6.out.trans (HB7.out.mono hs6)
    repeat (first | exact hbk | refine Below.setCell ?_ (by dsimp only; omega) _)
end
section

/-- Rows, each times a factor, added to z. -/
def combF : List Nat → Rws → List Nat → List Nat
  | c :: cs, r :: rs, z => combF cs rs (fd c r z)
  | _, _, z => z
theorem combF_snoc : ∀ (cs : List Nat) (rs : Rws) (c : Nat) (r z : List Nat), cs.length = rs.length → combF (cs ++ [c]) (rs ++ [r]) z = fd c r (combF cs rs z)
  | [], [], _, _, _, _ => rfl
  | [], _ :: _, _, _, _, h => by cases h
  | _ :: _, [], _, _, _, h => by cases h
  | c' :: cs, r' :: rs, c, r, z, h => combF_snoc cs rs c r (fd c' r' z) (by simpa using h)
theorem combF_take {u : List Nat} {B : Rws} {z : List Nat} {j : Nat} (hj : j < u.length) (hb : j < B.length) : combF (u.take (j + 1)) (B.take (j + 1)) z = fd (gt u j) (ra B j) (combF (u.take j) (B.take j) z) := by
  rw [take_gt hj, show B.take (j + 1) = B.take j ++ [ra B j] by rw [List.take_add_one, ra_of_lt hb]; rfl, combF_snoc _ _ _ _ _ (by rw [List.length_take, List.length_take]; omega)]
theorem combF_ok {m : Nat} : ∀ (cs : List Nat) (rs : Rws) (z : List Nat), z.length = m → Byt z → (combF cs rs z).length = m ∧ Byt (combF cs rs z)
  | [], _, _, h, h2 => ⟨h, h2⟩
  | _ :: _, [], _, h, h2 => ⟨h, h2⟩
  | c :: cs, r :: rs, z, h, h2 => combF_ok cs rs (fd c r z) (by rw [fd_len]; exact h) (fd_byt _ _ _ h2)
def mulF (U B : Rws) (m : Nat) : Rws := U.map fun u => combF u B (List.replicate m 0)
theorem mulF_take {U B : Rws} {r n m i : Nat} (hU : Shp r n U) (hi : i < r) : ((mulF U B m).take (i + 1)).flatten = ((mulF U B m).take i).flatten ++ combF (ra U i) B (List.replicate m 0) := by
  have h1 : (mulF U B m)[i]? = some (combF (ra U i) B (List.replicate m 0)) := by unfold mulF; rw [List.getElem?_map, ra_of_lt (by rw [hU.1]; exact hi)]; rfl
  rw [List.take_add_one, h1, List.flatten_append]
  simp
theorem byt_zeros (m : Nat) : Byt (List.replicate m 0) := fun x hx => by rw [(List.mem_replicate.1 hx).2]; omega
theorem FilI.appended {w0 w2 : World} {rb q rows cols n m : Nat} {A A' : Option Addr} {c c' : Nat} {xs ys : List Nat} (h : FilI w0 w2 rb q rows cols n A c xs) {u : World} (hg : w2.grownBy u (Value.slice A n c).ownBlock)
    (hown : OwnL ByR 5 1 (rb + 1) (fun _ => True) u (.slice A' (n + m) c') (n + m) (xs ++ ys))
    (hat : Value.ownBlock (.slice A' (n + m) c') = (Value.slice A n c).ownBlock ∨ Value.ownBlock (.slice A' (n + m) c') = some w2.heap.size) :
    FilI w0 (u.setCell ⟨q, 2, none⟩ (.slice A' (n + m) c')) rb q rows cols (n + m) A' c' (xs ++ ys) := by
  have hl := h.bq.lt
  have hl2 := h.br.lt
  have hb : Below w0.heap.size w2 u := ⟨hg.os, hg.tape, hg.output, hg.size, fun k hk => hg.block k (Nat.lt_of_lt_of_le hk h.bel.size) (fun e => by have h1 := (h.own.lt k e.symm).1; have := h.hr; omega)⟩
  have hne : ∀ k, k < w2.heap.size → some k ≠ (Value.slice A n c).ownBlock → some k ≠ Value.ownBlock (.slice A' (n + m) c') := fun k hk h1 => by
    rcases hat with e | e
    · rw [e]; exact h1
    · rw [e]; intro h2; injection h2 with h2; omega
  refine ⟨?_, ?_, ?_, hne q hl h.nq, hne rb hl2 h.nr, h.qr, h.hr, h.hq, (h.bel.trans hb).setCell h.hq _⟩
  · obtain ⟨css, h1, h2, h3, h4, h5⟩ := hown
    refine ⟨css, h1.kept (row := some q) ⟨rfl, rfl, rfl, by simp, fun k _ hk => Below.heap_setCell _ _ _ _ (fun e => hk (by rw [e]))⟩ ?_, h2, h3, h4, fun i cs x hc hx => h5 i cs x hc hx⟩
    exact .inr fun e => hne q hl h.nq e.symm
  · have := (h.bq.grw hg h.nq).set 2 (.slice A' (n + m) c')
    simpa using this
  · exact (h.br.grw hg h.nr).set_other (by exact h.qr) _
set_option maxRecDepth 100000 in
set_option maxHeartbeats 16000000 in
theorem mmul_any {w : World} {b r n m c1 c2 : Nat} {A1 A2 : Option Addr} {S : Nat → Prop} {U B : Rws} (F : Fld w b) (hU : Shp r n U) (hB : Shp n m B) (h1 : 1 ≤ r) (h2 : r ≤ 255) (h3 : 1 ≤ n) (h4 : n ≤ 255) (h5 : 1 ≤ m) (h6 : m ≤ 255)
    (R1 : RdL ByR 1 S w A1 (r * n) U.flatten) (R2 : RdL ByR 1 S w A2 (n * m) B.flatten) (hc1 : r * n ≤ c1) (hc2 : n * m ≤ c2) :
    Calls Tryz.prog 208 #[.pointer (some ⟨b, 0, none⟩), .agg #[.int .i64 (r : Int), .int .i64 (n : Int), .slice A1 (r * n) c1], .agg #[.int .i64 (n : Int), .int .i64 (m : Int), .slice A2 (n * m) c2]] w fun e w' => ∃ A' c',
      e = .returned (.tuple #[.agg #[.int .i64 (r : Int), .int .i64 (m : Int), .slice A' (r * m) c'], .int .i64 0]) ∧ r * m ≤ c' ∧ RdL ByR 1 (fun k => w.heap.size ≤ k) w' A' (r * m) (mulF U B m).flatten ∧ Below w.heap.size w w' := by
  have HR1 := Lib.hid R1
  have HR2 := Lib.hid R2
  have HF := Lib.hid F
  have q1 : (r : Int) ≤ 255 := by omega
  have q2 : (0 : Int) ≤ (r : Int) := Int.natCast_nonneg _
  have q3 : (n : Int) ≤ 255 := by omega
  have q4 : (0 : Int) ≤ (n : Int) := Int.natCast_nonneg _
  have q5 : (m : Int) ≤ 255 := by omega
  have q6 : (0 : Int) ≤ (m : Int) := Int.natCast_nonneg _
  have hmx : r * m ≤ 65025 := Nat.mul_le_mul h2 h6
  have q7 : IntKind.i64.wrap ((r : Int) * (m : Int)) = ((r * m : Nat) : Int) := by
    rw [IntKind.wrap_i64, ← Int.natCast_mul]; omega
  clear R1 R2 F
  go_enter Tryz.func208, Tryz.ntmps208
  go_wp2_with fail
  have ha1 := ((BoxAt.new w #[.int .i64 (r : Int), .int .i64 (n : Int), .slice A1 (r * n) c1] 181).alloc (.cells #[.int .i64 (n : Int), .int .i64 (m : Int), .slice A2 (n * m) c2] 181)).alloc (.cells #[.int .i64 0, .int .i64 0, .slice none 0 0] 181)
  have hb1 := (BoxAt.new (w.alloc (.cells #[.int .i64 (r : Int), .int .i64 (n : Int), .slice A1 (r * n) c1] 181)) #[.int .i64 (n : Int), .int .i64 (m : Int), .slice A2 (n * m) c2] 181).alloc (.cells #[.int .i64 0, .int .i64 0, .slice none 0 0] 181)
  have hr1 := BoxAt.new ((w.alloc (.cells #[.int .i64 (r : Int), .int .i64 (n : Int), .slice A1 (r * n) c1] 181)).alloc (.cells #[.int .i64 (n : Int), .int .i64 (m : Int), .slice A2 (n * m) c2] 181)) #[.int .i64 0, .int .i64 0, .slice none 0 0] 181
  have hbe : Below w.heap.size w (((w.alloc (.cells #[.int .i64 (r : Int), .int .i64 (n : Int), .slice A1 (r * n) c1] 181)).alloc (.cells #[.int .i64 (n : Int), .int .i64 (m : Int), .slice A2 (n * m) c2] 181)).alloc (.cells #[.int .i64 0, .int .i64 0, .slice none 0 0] 181)) := (by repeat (first | (with_reducible exact Below.refl _ _) | (with_reducible assumption) | (with_reducible refine Below.drew ?_) | (with_reducible refine Below.setCell ?_ ?_ _) | (with_reducible refine Below.alloc ?_ ?_ _) | (with_reducible refine Below.later ?_ ?_ _) | (first | (with_reducible exact Nat.le_refl _) | omega | (simp only [World.size_alloc, World.size_setCell, World.size_drew] <;> omega))))
  simp only [World.size_alloc] at ha1 hb1 hr1
  generalize (((w.alloc (.cells #[.int .i64 (r : Int), .int .i64 (n : Int), .slice A1 (r * n) c1] 181)).alloc (.cells #[.int .i64 (n : Int), .int .i64 (m : Int), .slice A2 (n * m) c2] 181)).alloc (.cells #[.int .i64 0, .int .i64 0, .slice none 0 0] 181)) = w1 at *
  refine (nobody_any (HF.out.below hbe)).mono ?_
  rintro e w2 ⟨rfl, t2⟩
  replace hbe := hbe.trans (t2.mono hbe.size)
  replace ha1 := ha1.below t2
  replace hb1 := hb1.below t2
  replace hr1 := hr1.below t2
  have a0 := ha1.cell 0
  have a1 := ha1.cell 1
  have a2 := ha1.cell 2
  have b0 := hb1.cell 0
  have b1 := hb1.cell 1
  have b2 := hb1.cell 2
  clear t2
  go_wp2_with fail
  refine (right_ok h1 h2 h3 h4).mono ?_
  rintro e w3 ⟨rfl, t2⟩
  replace hbe := hbe.trans (t2.mono hbe.size)
  replace ha1 := ha1.below t2
  replace hb1 := hb1.below t2
  replace hr1 := hr1.below t2
  replace a0 := ha1.cell 0
  replace a1 := ha1.cell 1
  replace a2 := ha1.cell 2
  replace b0 := hb1.cell 0
  replace b1 := hb1.cell 1
  replace b2 := hb1.cell 2
  clear t2
  go_wp2_with fail
  refine (right_ok h3 h4 h5 h6).mono ?_
  rintro e w4 ⟨rfl, t2⟩
  replace hbe := hbe.trans (t2.mono hbe.size)
  replace ha1 := ha1.below t2
  replace hb1 := hb1.below t2
  replace hr1 := hr1.below t2
  replace a0 := ha1.cell 0
  replace a1 := ha1.cell 1
  replace a2 := ha1.cell 2
  replace b0 := hb1.cell 0
  replace b1 := hb1.cell 1
  replace b2 := hb1.cell 2
  clear t2
  go_wp2_with fail
  have hab := ha1.lt
  have hbb := hb1.lt
  have hrb := hr1.lt
  have hs4 := hbe.size
  have s1 : w4.drew.cell? ⟨w.heap.size, 0, none⟩ = some (.int .i64 r) ∧ w4.drew.cell? ⟨w.heap.size + 1, 1, none⟩ = some (.int .i64 m) := ⟨a0, b1⟩
  have keepB : ∀ w', Below w4.drew.heap.size w4.drew w' → w'.cell? ⟨w.heap.size, 0, none⟩ = some (.int .i64 r) ∧ w'.cell? ⟨w.heap.size + 1, 1, none⟩ = some (.int .i64 m) := fun w' h => ⟨(h.cell (p := ⟨w.heap.size, 0, none⟩) hab).trans a0, (h.cell (p := ⟨w.heap.size + 1, 1, none⟩) hbb).trans b1⟩
  have KB := Lib.hid keepB
  have HA := Lib.hid ha1
  have HBx := Lib.hid hb1
  have HRx := Lib.hid hr1
  have HBE := Lib.hid hbe
  have hd4 : w4.drew.heap.size = w4.heap.size := rfl
  clear keepB ha1 hb1 hr1 hbe
  refine wp_region_held_drew (S := fun w' => w'.cell? ⟨w.heap.size, 0, none⟩ = some (.int .i64 r) ∧ w'.cell? ⟨w.heap.size + 1, 1, none⟩ = some (.int .i64 m)) (by kernel_rfl) (by first | exact s1 | exact KB.out _ (by assumption)) (fun hHeld => ?_)
  refine tkH 0 rfl ?_
  refine tkH 1 rfl ?_
  refine tkH 2 rfl ?_
  refine tkH 3 rfl ?_
  refine tkH 4 rfl ?_
  refine tkH 5 rfl ?_
  refine tkH 6 rfl ?_
  refine tkH 7 rfl ?_
  refine tkH 8 rfl ?_
  refine wpAnyH_ready (rs := [9, 11]) (by kernel_rfl) (by simp) ?_
  refine AllReadyH.cons rfl (fun K hK => ?_) (AllReadyH.cons rfl (fun K hK => ?_) AllReadyH.nil)
  · refine step_law (by rfl) (wpList_make0 ByR (fun _ => True) sl_by (by rfl) (by rfl) (base := w.heap.size + 1 + 1 + 1) (by rfl) (by rfl) (r * m) (by omega) (by omega) (by unfold maxLen; omega) (by first | omega | (show _ ≤ (w4.alloc _).heap.size; rw [World.size_alloc]; omega)) ?_)
    intro y hys hown
    refine And.intro rfl ?_
    have hyb : Below w4.drew.heap.size w4.drew y.to := y.ok
    refine hK.out _ _ (by exact KB.out _ hyb) (fun hHeld => ?_)
    clear hK K
    try simp (maxSteps := 2000000) only [zz1, zz2, zz3, Act.put, zz4, zz5, zz6]
    refine tkH 10 rfl ?_
    refine rdH 11 rfl fun K hK => ?_
    try simp (maxSteps := 2000000) only [zz1, zz2, zz3]
    go_simp
    refine hK.out _ _ (KB.out _ (y.ok.alloc y.ok.size _)) (fun hHeld => ?_)
    clear hK K
    try simp (maxSteps := 2000000) only [zz1, zz2, zz3, Act.put, zz4, zz5, zz6]
    refine rdH 12 rfl fun K hK => ?_
    try simp (maxSteps := 2000000) only [zz1, zz2, zz3]
    go_simp
    refine hK.out _ _ (KB.out _ (y.ok.alloc y.ok.size _)) (fun hHeld => ?_)
    clear hK K
    try simp (maxSteps := 2000000) only [zz1, zz2, zz3, Act.put, zz4, zz5, zz6]
    refine wpAnyH_done (by kernel_rfl) ?_ _
    have hq : FilI w (y.to.alloc (.cells #[.int .i64 (r : Int), .int .i64 (m : Int), .slice (some ⟨w4.heap.size, 0, none⟩) 0 (r * m)] 181)) (w.heap.size + 1 + 1) y.to.heap.size r m 0 (some ⟨w4.heap.size, 0, none⟩) (r * m) [] ∧ Below w4.heap.size w4 (y.to.alloc (.cells #[.int .i64 (r : Int), .int .i64 (m : Int), .slice (some ⟨w4.heap.size, 0, none⟩) 0 (r * m)] 181)) ∧ (∀ k, (Value.slice (some ⟨w4.heap.size, 0, none⟩) 0 (r * m)).ownBlock = some k → w4.heap.size ≤ k) ∧ w4.heap.size ≤ y.to.heap.size := by
      have hb9 : Below w4.heap.size w4 y.to := (Below.refl _ _).drew.trans y.ok
      have hys' : w4.heap.size < y.to.heap.size := hys
      refine ⟨⟨OwnL.alloc ByR.stable hown _, BoxAt.new _ _ _, (HRx.out.below hb9).alloc _, fun e => ?_, fun e => ?_, by omega, by omega, by omega, (HBE.out.trans (hb9.mono hs4)).alloc (by omega) _⟩, hb9.alloc (by omega) _, fun k hk => by injection hk with hk; dsimp only at hk; omega, by omega⟩
      · injection e with e; dsimp only at e; omega
      · injection e with e; dsimp only at e; omega
    obtain ⟨hFQ, hbQ, hoQ, hgQ⟩ := hq
    have HQG := Lib.hid hgQ
    generalize hwQ : (y.to.alloc (.cells #[.int .i64 (r : Int), .int .i64 (m : Int), .slice (some ⟨w4.heap.size, 0, none⟩) 0 (r * m)] 181)) = wQ at *
    clear hwQ
    generalize hqq : (y.to.heap.size) = q at *
    clear hqq
    have HFQ := Lib.hid hFQ
    have HBQ := Lib.hid hbQ
    have HOQ := Lib.hid hoQ
    have aQ := (HA.out.below hbQ).cell 0
    clear hFQ hbQ hoQ hgQ hown s1 hHeld
    go_wp2_with fail
    go_loopw [47] (fun vi wr => ∃ (i : Nat) (A : Option Addr) (c : Nat), i ≤ r ∧ vi = .int .i64 i ∧ Hid (FilI w wr (w.heap.size + 1 + 1) (q) r m (i * m) A c ((mulF U B m).take i).flatten) ∧ Hid (Below w4.heap.size w4 wr) ∧ Hid (∀ k, (Value.slice A (i * m) c).ownBlock = some k → w4.heap.size ≤ k)) (fun vi _ => r - (intOf vi).toNat)
    case atStart => exact ⟨0, _, _, Nat.zero_le _, rfl, by rw [Nat.zero_mul]; exact HFQ, HBQ, HOQ⟩
    case round =>
      obtain ⟨wo, rfl⟩ : ∃ wo, wo = wr := ⟨_, rfl⟩
      clear HFQ HBQ HOQ aQ
      obtain ⟨i, A, c, hi, rfl, HI, HB, HOB⟩ := hrel
      have p0 : (0 : Int) ≤ (i : Int) := Int.natCast_nonneg _
      by_cases hlt : i < r
      · have p1 : (i : Int) < (r : Int) := by omega
        have x0 := (HA.out.below HB.out).cell 1
        have x1 := (HA.out.below HB.out).cell 2
        have y1 := (HBx.out.below HB.out).cell 1
        have y2 := (HBx.out.below HB.out).cell 2
        have hmk := makeBy m (by omega) wo
        have hz := RowIn.made wo m 5
        have hbz : Below wo.heap.size wo (wo.alloc (.cells (Array.replicate m (.int .u8 0)) 5)) := (Below.refl _ _).alloc (Nat.le_refl _) _
        have hzr := hz.rd (S := fun k => wo.heap.size ≤ k) (Nat.le_refl _)
        rw [List.length_replicate] at hzr
        obtain ⟨w5, hw5⟩ : ∃ w5, wo.alloc (.cells (Array.replicate m (.int .u8 0)) 5) = w5 := ⟨_, rfl⟩
        rw [hw5] at hmk hbz hzr
        have x0' := ((HA.out.below HB.out).below hbz).cell 1
        have x1' := ((HA.out.below HB.out).below hbz).cell 2
        have hrow1 := fun w' => row_any (w := w') (A := A1) (Nat.mul_le_mul hlt (Nat.le_refl n)) hc1 (by omega : i ≤ 255) h4 h3
        have HZ := Lib.hid hzr
        have HBZ := Lib.hid hbz
        clear hz hzr hw5 hbz
        go_wp2_with (go_at_call 238; refine (hrow1 _).mono ?_; rintro e w9 ⟨rfl, hw9⟩; rw [hw9]; clear hw9)
        clear hrow1 hmk x0 x1 x0' x1'
        have hul := (hU.row hlt).1
        have hBl := hB.1
        go_loopw [10, 60] (fun vs vj wr => ∃ (j : Nat) (As : Option Addr) (cs : Nat), j ≤ n ∧ vj = .int .i64 j ∧ vs = .slice As m cs ∧ m ≤ cs ∧ Hid (RdL ByR 1 (fun k => wo.heap.size ≤ k) wr As m (combF ((ra U i).take j) (B.take j) (List.replicate m 0))) ∧ Hid (Below wo.heap.size wo wr)) (fun _ vj _ => n - (intOf vj).toNat)
        case atStart => exact ⟨0, _, m, Nat.zero_le _, rfl, rfl, Nat.le_refl _, by rw [List.take_zero, List.take_zero]; exact HZ, HBZ⟩
        case round =>
          clear HZ HBZ y1 y2
          obtain ⟨j, As, cs, hj, rfl, rfl, hcs, HS, HBj⟩ := hrel
          have p2 : (0 : Int) ≤ (j : Int) := Int.natCast_nonneg _
          have hbw : Below w4.heap.size w4 wr := HB.out.trans (HBj.out.mono HB.out.size)
          have hbl : Below w.heap.size w wr := HBE.out.trans (hbw.mono HBE.out.size)
          by_cases hlj : j < n
          · have p3 : (j : Int) < (n : Int) := by omega
            have y1 := (HBx.out.below hbw).cell 1
            have y2 := (HBx.out.below hbw).cell 2
            have hr1 := row_rd hU (HR1.out.below ByR.stable hbl) hlt h3
            obtain ⟨b4, o4, e4, _, l4⟩ := hr1.addr hlj
            rw [e4] at hr1 ⊢
            obtain ⟨v4, x4⟩ := by_at hr1 hlj
            have hr2 := row_rd hB (HR2.out.below ByR.stable hbl) hlj h5
            have hrow2 := fun w' => row_any (w := w') (A := A2) (Nat.mul_le_mul hlj (Nat.le_refl m)) hc2 (by omega : j ≤ 255) h6 h5
            have hfo := fold_any (w := wr) (cp := m) (cp2 := cs) (HF.out.below hbl) x4 hr2 (by omega) (Nat.le_refl _) HS.out (by omega)
            rw [← combF_take (by omega) (by omega)] at hfo
            clear hr1 hr2 hbw hbl
            go_wp2_with (first | (go_at_call 238; refine (hrow2 _).mono ?_; rintro e w9 ⟨rfl, hw9⟩; rw [hw9]; clear hw9) | (go_at_call 210; refine hfo.mono ?_; rintro e w6 ⟨AN, cN, rfl, hcN, hrs, hb6⟩; have HRS := Lib.hid (hrs.weaken ByR.stable (S' := fun k => wo.heap.size ≤ k) (fun k hk => Nat.le_trans HBj.out.size hk)); have HB6 := Lib.hid (HBj.out.trans (hb6.mono HBj.out.size)); clear hrs hb6 hfo))
            exact ⟨⟨j + 1, AN, cN, by omega, by go_num, rfl, hcN, HRS, HB6⟩, by simp [intOf]; omega⟩
          · have p3 : ¬ (j : Int) < (n : Int) := by omega
            obtain rfl : j = n := by omega
            rw [List.take_of_length_le (by omega), List.take_of_length_le (by omega)] at HS
            have hFj := HI.out.below HBj.out
            have z2 := hFj.bq.cell 2
            have hsum : i * m + m ≤ 65025 := by
              have := Nat.mul_le_mul (show i + 1 ≤ r from hlt) (Nat.le_refl m)
              rw [Nat.succ_mul] at this
              omega
            have HFj := Lib.hid hFj
            clear hFj hbl
            go_wp2_with (at_builtin; go_must (refine wpList_appL ByR.stable ByR.one sl_by rfl (by exact rfl) (base := w.heap.size + 1 + 1 + 1) (S := fun _ => True) (by exact rfl) HFj.out.own (by exact rfl) HS.out (fun _ _ h => h) (by unfold maxLen; omega) (by omega) HFj.out.br.lt ?_); intro A7 c7 w7 hc7 hown7 hg7 hat7; have B9 := HFj.out.bq.grw hg7 HFj.out.nq; have c9 := B9.cell 2; have f9 := B9.frozen 2; have hp7 := HFj.out.appended hg7 hown7 hat7; have hb7 : Below w4.heap.size w4 w7 := hbw.trans ⟨hg7.os, hg7.tape, hg7.output, hg7.size, fun k hk => hg7.block k (Nat.lt_of_lt_of_le hk hbw.size) (fun e => by have := HOB.out k e.symm; omega)⟩; have ho7 : ∀ k, (Value.slice A7 (i * m + m) c7).ownBlock = some k → w4.heap.size ≤ k := fun k hk => (by rcases hat7 with e | e; (rw [e] at hk; exact HOB.out k hk); (rw [e] at hk; injection hk with hk; have := hbw.size; omega)); rw [← mulF_take hU hlt] at hp7; have hp8 : FilI w (w7.setCell ⟨q, 2, none⟩ (.slice A7 (i * m + m) c7)) (w.heap.size + 1 + 1) (q) r m ((i + 1) * m) A7 c7 ((mulF U B m).take (i + 1)).flatten := (by rw [Nat.succ_mul]; exact hp7); have HP7 := Lib.hid hp8; have HB7 := Lib.hid (hb7.setCell (p := ⟨q, 2, none⟩) HQG.out (.slice A7 (i * m + m) c7)); have ho8 : ∀ k, (Value.slice A7 ((i + 1) * m) c7).ownBlock = some k → w4.heap.size ≤ k := (by rw [Nat.succ_mul]; exact ho7); have HO7 := Lib.hid ho8; clear hp7 hp8 hb7 ho7 ho8 hown7 hg7 hat7 B9)
            exact ⟨⟨i + 1, A7, c7, by omega, by go_num, HP7, HB7, HO7⟩, by simp [intOf]; omega⟩
      · have p1 : ¬ (i : Int) < (r : Int) := by omega
        obtain rfl : i = r := by omega
        have b0 := HI.out.bq.cell 0
        have b1 := HI.out.bq.cell 1
        have b2 := HI.out.bq.cell 2
        have r0 := HI.out.br.cell 0
        have r1 := HI.out.br.cell 1
        have r2 := HI.out.br.cell 2
        have f0 := HI.out.br.frozen 0
        have f1 := HI.out.br.frozen 1
        have f2 := HI.out.br.frozen 2
        rw [List.take_of_length_le (by unfold mulF; rw [List.length_map, hU.1]; exact Nat.le_refl _)] at HI
        go_wp2_with fail
        refine bodyPost_ret (v := .tuple #[.agg #[.int .i64 (i : Int), .int .i64 (m : Int), .slice A (i * m) c], .int .i64 0]) (by simp [results, Tryz.results208, go_sem, *]) rfl ?_
        obtain ⟨A', c', e1, hc, hr⟩ := HI.out.own.rd (S' := fun k => w.heap.size + 1 + 1 < k) (fun _ hk => hk) (fun cs x hx => hx)
        injection e1 with e1 _ e2
        subst e1; subst e2
        refine ⟨A, c, rfl, hc, RdL.weaken ByR.stable (S := fun k => w.heap.size + 1 + 1 < k) ?_ (fun k hk => by have h9 : w.heap.size + 1 + 1 < k := hk; show _ ≤ k; omega), ?_⟩
        · repeat (first | exact hr | refine RdL.setCell ByR.stable ?_ (show ¬ _ < _ by dsimp only; omega) _)
        · repeat (first | exact HI.out.bel | refine Below.setCell ?_ (by dsimp only; omega) _)
  · try simp (maxSteps := 2000000) only [zz1, zz2, zz3]
    go_simp
    refine hK.out _ _ (KB.out _ ((Below.refl _ _).alloc (Nat.le_refl _) _)) (fun hHeld => ?_)
    clear hK K
    try simp (maxSteps := 2000000) only [zz1, zz2, zz3, Act.put, zz4, zz5, zz6]
    refine rdH 9 rfl fun K hK => ?_
    refine step_law (by rfl) (wpList_make0 ByR (fun _ => True) sl_by (by rfl) (by rfl) (base := w.heap.size + 1 + 1 + 1) (by rfl) (by rfl) (r * m) (by omega) (by omega) (by unfold maxLen; omega) (by first | omega | (show _ ≤ (w4.alloc _).heap.size; rw [World.size_alloc]; omega)) ?_)
    intro y hys hown
    refine And.intro rfl ?_
    have hyb : Below w4.drew.heap.size w4.drew y.to := ((Below.refl _ _).alloc (Nat.le_refl _) _).trans (y.ok.mono (by show w4.heap.size ≤ (w4.alloc _).heap.size; rw [World.size_alloc]; omega))
    refine hK.out _ _ (by exact KB.out _ hyb) (fun hHeld => ?_)
    clear hK K
    try simp (maxSteps := 2000000) only [zz1, zz2, zz3, Act.put, zz4, zz5, zz6]
    refine tkH 10 rfl ?_
    refine rdH 12 rfl fun K hK => ?_
    try simp (maxSteps := 2000000) only [zz1, zz2, zz3]
    go_simp
    refine hK.out _ _ (KB.out _ (((hyb.setCell (by exact Nat.le_refl _) _).setCell (by exact Nat.le_refl _) _).setCell (by exact Nat.le_refl _) _)) (fun hHeld => ?_)
    clear hK K
    try simp (maxSteps := 2000000) only [zz1, zz2, zz3, Act.put, zz4, zz5, zz6]
    refine wpAnyH_done (by kernel_rfl) ?_ _
    simp only [World.size_drew, World.size_alloc] at hown hys
    have hq : FilI w (((y.to.setCell ⟨w4.heap.size, 0, none⟩ (.int .i64 (r : Int))).setCell ⟨w4.heap.size, 1, none⟩ (.int .i64 (m : Int))).setCell ⟨w4.heap.size, 2, none⟩ (.slice (some ⟨w4.heap.size + 1, 0, none⟩) 0 (r * m))) (w.heap.size + 1 + 1) w4.heap.size r m 0 (some ⟨w4.heap.size + 1, 0, none⟩) (r * m) [] ∧ Below w4.heap.size w4 (((y.to.setCell ⟨w4.heap.size, 0, none⟩ (.int .i64 (r : Int))).setCell ⟨w4.heap.size, 1, none⟩ (.int .i64 (m : Int))).setCell ⟨w4.heap.size, 2, none⟩ (.slice (some ⟨w4.heap.size + 1, 0, none⟩) 0 (r * m))) ∧ (∀ k, (Value.slice (some ⟨w4.heap.size + 1, 0, none⟩) 0 (r * m)).ownBlock = some k → w4.heap.size ≤ k) ∧ w4.heap.size ≤ w4.heap.size := by
      have hb9 : Below w4.heap.size w4 y.to := (Below.refl _ _).drew.trans hyb
      have hbs : Below w4.heap.size w4 (((y.to.setCell ⟨w4.heap.size, 0, none⟩ (.int .i64 (r : Int))).setCell ⟨w4.heap.size, 1, none⟩ (.int .i64 (m : Int))).setCell ⟨w4.heap.size, 2, none⟩ (.slice (some ⟨w4.heap.size + 1, 0, none⟩) 0 (r * m))) := ((hb9.setCell (by exact Nat.le_refl _) _).setCell (by exact Nat.le_refl _) _).setCell (by exact Nat.le_refl _) _
      have hbq := ((((BoxAt.new w4 #[.int .i64 0, .int .i64 0, .slice none 0 0] 181).below (w' := y.to) ((Below.refl _ _).drew.trans y.ok)).set 0 (.int .i64 (r : Int))).set 1 (.int .i64 (m : Int))).set 2 (.slice (some ⟨w4.heap.size + 1, 0, none⟩) 0 (r * m))
      refine ⟨⟨?_, by simpa using hbq, HRx.out.below hbs, fun e => ?_, fun e => ?_, by omega, by omega, by omega, HBE.out.trans (hbs.mono hs4)⟩, hbs, fun k hk => by injection hk with hk; dsimp only at hk; omega, Nat.le_refl _⟩
      · obtain ⟨css, h1, h2, h3, h4, h5⟩ := hown
        refine ⟨css, h1.kept (row := some w4.heap.size) ⟨rfl, rfl, rfl, by simp, fun k _ hk => ?_⟩ (.inr (fun e => by injection e with e; dsimp only at e; omega)), h2, h3, h4, fun i cs x hc hx => h5 i cs x hc hx⟩
        have hk2 : k ≠ w4.heap.size := fun e => hk (by rw [e])
        exact (Below.heap_setCell _ _ _ _ hk2).trans ((Below.heap_setCell _ _ _ _ hk2).trans (Below.heap_setCell _ _ _ _ hk2))
      · injection e with e; dsimp only at e; omega
      · injection e with e; dsimp only at e; omega
    obtain ⟨hFQ, hbQ, hoQ, hgQ⟩ := hq
    have HQG := Lib.hid hgQ
    generalize hwQ : (((y.to.setCell ⟨w4.heap.size, 0, none⟩ (.int .i64 (r : Int))).setCell ⟨w4.heap.size, 1, none⟩ (.int .i64 (m : Int))).setCell ⟨w4.heap.size, 2, none⟩ (.slice (some ⟨w4.heap.size + 1, 0, none⟩) 0 (r * m))) = wQ at *
    clear hwQ
    skip
    have HFQ := Lib.hid hFQ
    have HBQ := Lib.hid hbQ
    have HOQ := Lib.hid hoQ
    have aQ := (HA.out.below hbQ).cell 0
    clear hFQ hbQ hoQ hgQ hown s1 hHeld
    go_wp2_with fail
    go_loopw [47] (fun vi wr => ∃ (i : Nat) (A : Option Addr) (c : Nat), i ≤ r ∧ vi = .int .i64 i ∧ Hid (FilI w wr (w.heap.size + 1 + 1) (w4.heap.size) r m (i * m) A c ((mulF U B m).take i).flatten) ∧ Hid (Below w4.heap.size w4 wr) ∧ Hid (∀ k, (Value.slice A (i * m) c).ownBlock = some k → w4.heap.size ≤ k)) (fun vi _ => r - (intOf vi).toNat)
    case atStart => exact ⟨0, _, _, Nat.zero_le _, rfl, by rw [Nat.zero_mul]; exact HFQ, HBQ, HOQ⟩
    case round =>
      obtain ⟨wo, rfl⟩ : ∃ wo, wo = wr := ⟨_, rfl⟩
      clear HFQ HBQ HOQ aQ
      obtain ⟨i, A, c, hi, rfl, HI, HB, HOB⟩ := hrel
      have p0 : (0 : Int) ≤ (i : Int) := Int.natCast_nonneg _
      by_cases hlt : i < r
      · have p1 : (i : Int) < (r : Int) := by omega
        have x0 := (HA.out.below HB.out).cell 1
        have x1 := (HA.out.below HB.out).cell 2
        have y1 := (HBx.out.below HB.out).cell 1
        have y2 := (HBx.out.below HB.out).cell 2
        have hmk := makeBy m (by omega) wo
        have hz := RowIn.made wo m 5
        have hbz : Below wo.heap.size wo (wo.alloc (.cells (Array.replicate m (.int .u8 0)) 5)) := (Below.refl _ _).alloc (Nat.le_refl _) _
        have hzr := hz.rd (S := fun k => wo.heap.size ≤ k) (Nat.le_refl _)
        rw [List.length_replicate] at hzr
        obtain ⟨w5, hw5⟩ : ∃ w5, wo.alloc (.cells (Array.replicate m (.int .u8 0)) 5) = w5 := ⟨_, rfl⟩
        rw [hw5] at hmk hbz hzr
        have x0' := ((HA.out.below HB.out).below hbz).cell 1
        have x1' := ((HA.out.below HB.out).below hbz).cell 2
        have hrow1 := fun w' => row_any (w := w') (A := A1) (Nat.mul_le_mul hlt (Nat.le_refl n)) hc1 (by omega : i ≤ 255) h4 h3
        have HZ := Lib.hid hzr
        have HBZ := Lib.hid hbz
        clear hz hzr hw5 hbz
        go_wp2_with (go_at_call 238; refine (hrow1 _).mono ?_; rintro e w9 ⟨rfl, hw9⟩; rw [hw9]; clear hw9)
        clear hrow1 hmk x0 x1 x0' x1'
        have hul := (hU.row hlt).1
        have hBl := hB.1
        go_loopw [10, 60] (fun vs vj wr => ∃ (j : Nat) (As : Option Addr) (cs : Nat), j ≤ n ∧ vj = .int .i64 j ∧ vs = .slice As m cs ∧ m ≤ cs ∧ Hid (RdL ByR 1 (fun k => wo.heap.size ≤ k) wr As m (combF ((ra U i).take j) (B.take j) (List.replicate m 0))) ∧ Hid (Below wo.heap.size wo wr)) (fun _ vj _ => n - (intOf vj).toNat)
        case atStart => exact ⟨0, _, m, Nat.zero_le _, rfl, rfl, Nat.le_refl _, by rw [List.take_zero, List.take_zero]; exact HZ, HBZ⟩
        case round =>
          clear HZ HBZ y1 y2
          obtain ⟨j, As, cs, hj, rfl, rfl, hcs, HS, HBj⟩ := hrel
          have p2 : (0 : Int) ≤ (j : Int) := Int.natCast_nonneg _
          have hbw : Below w4.heap.size w4 wr := HB.out.trans (HBj.out.mono HB.out.size)
          have hbl : Below w.heap.size w wr := HBE.out.trans (hbw.mono HBE.out.size)
          by_cases hlj : j < n
          · have p3 : (j : Int) < (n : Int) := by omega
            have y1 := (HBx.out.below hbw).cell 1
            have y2 := (HBx.out.below hbw).cell 2
            have hr1 := row_rd hU (HR1.out.below ByR.stable hbl) hlt h3
            obtain ⟨b4, o4, e4, _, l4⟩ := hr1.addr hlj
            rw [e4] at hr1 ⊢
            obtain ⟨v4, x4⟩ := by_at hr1 hlj
            have hr2 := row_rd hB (HR2.out.below ByR.stable hbl) hlj h5
            have hrow2 := fun w' => row_any (w := w') (A := A2) (Nat.mul_le_mul hlj (Nat.le_refl m)) hc2 (by omega : j ≤ 255) h6 h5
            have hfo := fold_any (w := wr) (cp := m) (cp2 := cs) (HF.out.below hbl) x4 hr2 (by omega) (Nat.le_refl _) HS.out (by omega)
            rw [← combF_take (by omega) (by omega)] at hfo
            clear hr1 hr2 hbw hbl
            go_wp2_with (first | (go_at_call 238; refine (hrow2 _).mono ?_; rintro e w9 ⟨rfl, hw9⟩; rw [hw9]; clear hw9) | (go_at_call 210; refine hfo.mono ?_; rintro e w6 ⟨AN, cN, rfl, hcN, hrs, hb6⟩; have HRS := Lib.hid (hrs.weaken ByR.stable (S' := fun k => wo.heap.size ≤ k) (fun k hk => Nat.le_trans HBj.out.size hk)); have HB6 := Lib.hid (HBj.out.trans (hb6.mono HBj.out.size)); clear hrs hb6 hfo))
            exact ⟨⟨j + 1, AN, cN, by omega, by go_num, rfl, hcN, HRS, HB6⟩, by simp [intOf]; omega⟩
          · have p3 : ¬ (j : Int) < (n : Int) := by omega
            obtain rfl : j = n := by omega
            rw [List.take_of_length_le (by omega), List.take_of_length_le (by omega)] at HS
            have hFj := HI.out.below HBj.out
            have z2 := hFj.bq.cell 2
            have hsum : i * m + m ≤ 65025 := by
              have := Nat.mul_le_mul (show i + 1 ≤ r from hlt) (Nat.le_refl m)
              rw [Nat.succ_mul] at this
              omega
            have HFj := Lib.hid hFj
            clear hFj hbl
            go_wp2_with (at_builtin; go_must (refine wpList_appL ByR.stable ByR.one sl_by rfl (by exact rfl) (base := w.heap.size + 1 + 1 + 1) (S := fun _ => True) (by exact rfl) HFj.out.own (by exact rfl) HS.out (fun _ _ h => h) (by unfold maxLen; omega) (by omega) HFj.out.br.lt ?_); intro A7 c7 w7 hc7 hown7 hg7 hat7; have B9 := HFj.out.bq.grw hg7 HFj.out.nq; have c9 := B9.cell 2; have f9 := B9.frozen 2; have hp7 := HFj.out.appended hg7 hown7 hat7; have hb7 : Below w4.heap.size w4 w7 := hbw.trans ⟨hg7.os, hg7.tape, hg7.output, hg7.size, fun k hk => hg7.block k (Nat.lt_of_lt_of_le hk hbw.size) (fun e => by have := HOB.out k e.symm; omega)⟩; have ho7 : ∀ k, (Value.slice A7 (i * m + m) c7).ownBlock = some k → w4.heap.size ≤ k := fun k hk => (by rcases hat7 with e | e; (rw [e] at hk; exact HOB.out k hk); (rw [e] at hk; injection hk with hk; have := hbw.size; omega)); rw [← mulF_take hU hlt] at hp7; have hp8 : FilI w (w7.setCell ⟨w4.heap.size, 2, none⟩ (.slice A7 (i * m + m) c7)) (w.heap.size + 1 + 1) (w4.heap.size) r m ((i + 1) * m) A7 c7 ((mulF U B m).take (i + 1)).flatten := (by rw [Nat.succ_mul]; exact hp7); have HP7 := Lib.hid hp8; have HB7 := Lib.hid (hb7.setCell (p := ⟨w4.heap.size, 2, none⟩) HQG.out (.slice A7 (i * m + m) c7)); have ho8 : ∀ k, (Value.slice A7 ((i + 1) * m) c7).ownBlock = some k → w4.heap.size ≤ k := (by rw [Nat.succ_mul]; exact ho7); have HO7 := Lib.hid ho8; clear hp7 hp8 hb7 ho7 ho8 hown7 hg7 hat7 B9)
            exact ⟨⟨i + 1, A7, c7, by omega, by go_num, HP7, HB7, HO7⟩, by simp [intOf]; omega⟩
      · have p1 : ¬ (i : Int) < (r : Int) := by omega
        obtain rfl : i = r := by omega
        have b0 := HI.out.bq.cell 0
        have b1 := HI.out.bq.cell 1
        have b2 := HI.out.bq.cell 2
        have r0 := HI.out.br.cell 0
        have r1 := HI.out.br.cell 1
        have r2 := HI.out.br.cell 2
        have f0 := HI.out.br.frozen 0
        have f1 := HI.out.br.frozen 1
        have f2 := HI.out.br.frozen 2
        rw [List.take_of_length_le (by unfold mulF; rw [List.length_map, hU.1]; exact Nat.le_refl _)] at HI
        go_wp2_with fail
        refine bodyPost_ret (v := .tuple #[.agg #[.int .i64 (i : Int), .int .i64 (m : Int), .slice A (i * m) c], .int .i64 0]) (by simp [results, Tryz.results208, go_sem, *]) rfl ?_
        obtain ⟨A', c', e1, hc, hr⟩ := HI.out.own.rd (S' := fun k => w.heap.size + 1 + 1 < k) (fun _ hk => hk) (fun cs x hx => hx)
        injection e1 with e1 _ e2
        subst e1; subst e2
        refine ⟨A, c, rfl, hc, RdL.weaken ByR.stable (S := fun k => w.heap.size + 1 + 1 < k) ?_ (fun k hk => by have h9 : w.heap.size + 1 + 1 < k := hk; show _ ≤ k; omega), ?_⟩
        · repeat (first | exact hr | refine RdL.setCell ByR.stable ?_ (show ¬ _ < _ by dsimp only; omega) _)
        · repeat (first | exact HI.out.bel | refine Below.setCell ?_ (by dsimp only; omega) _)
end
section

def risF (a b : Nat) : List Nat := (List.range (b - a)).map (a + ·)
theorem risF_gt {a b i : Nat} (h : i < b - a) : gt (risF a b) i = a + i := range_gt h
theorem risF_nodup (k m : Nat) : (risF k (k + m) ++ risF 0 k).Nodup := by
  have h1 : ∀ a b, (risF a b).Nodup := fun a b => by
    unfold risF
    exact List.Pairwise.map _ (fun x y h h2 => h (by omega)) List.nodup_range
  rw [List.nodup_append]
  refine ⟨h1 _ _, h1 _ _, fun x hx y hy e => ?_⟩
  obtain ⟨i, _, rfl⟩ := List.mem_map.1 hx
  obtain ⟨j, hj, rfl⟩ := List.mem_map.1 hy
  have := List.mem_range.1 hj
  omega
/-- The factor of data row j in shard i. -/
def fac (k i j : Nat) : Nat := if i < k then (if i = j then 1 else 0) else dv 1 (i ^^^ j)
def rowF (k i : Nat) : List Nat := (List.range k).map (fac k i)
theorem fac_lt (k i j : Nat) : fac k i j < 256 := by
  unfold fac
  split
  · split <;> decide
  · exact gm_lt
theorem rowF_len (k i : Nat) : (rowF k i).length = k := by unfold rowF; simp
theorem rowF_byt (k i : Nat) : Byt (rowF k i) := fun x hx => by
  obtain ⟨j, _, rfl⟩ := List.mem_map.1 hx
  exact fac_lt k i j
theorem rowF_gt {k i j : Nat} (hj : j < k) : gt (rowF k i) j = fac k i j := range_gt hj
theorem cau_gt {k m i j : Nat} (hi : i < m) (hj : j < k) : gt (flatF (cauF (risF k (k + m)) (risF 0 k)) m k) (i * k + j) = fac k (k + i) j := by
  have hs : Shp m k (mkF (cauF (risF k (k + m)) (risF 0 k)) m k) := mkF_shp fun _ _ _ _ => gm_lt
  rw [mkF_flat, flat_get hs hi hj, mkF_ra hi, range_gt hj]
  unfold cauF fac
  rw [risF_gt (by omega), risF_gt (by omega), if_neg (by omega), Nat.zero_add]

structure CodAt (w : World) (cb b k m : Nat) : Prop where
  box : ∃ A c, BoxAt w cb #[.int .i64 (k : Int), .int .i64 (m : Int), .pointer (some ⟨b, 0, none⟩), .int .i64 (m : Int), .int .i64 (k : Int), .slice A (m * k) c] ∧ m * k ≤ c ∧
    RdL ByR 1 (fun _ => True) w A (m * k) (flatF (cauF (risF k (k + m)) (risF 0 k)) m k)
  fld : Fld w b
  k1 : 1 ≤ k
  m1 : 1 ≤ m
  km : k + m ≤ 255
theorem CodAt.below {w w' : World} {cb b k m : Nat} (h : CodAt w cb b k m) (hb : Below w.heap.size w w') : CodAt w' cb b k m := by
  obtain ⟨A, c, h1, h2, h3⟩ := h.box
  exact ⟨⟨A, c, h1.below hb, h2, h3.below ByR.stable hb⟩, h.fld.below hb, h.k1, h.m1, h.km⟩
section
variable {w : World} {cb b k m : Nat}
theorem none_any (h : CodAt w cb b k m) : Calls Tryz.prog 121 #[.pointer (some ⟨cb, 0, none⟩)] w fun e w' => e = .returned (.bool false) ∧ w' = w := by
  obtain ⟨A, c, h1, _⟩ := h.box
  have k2 := h1.cell 2
  go_enter Tryz.func121, Tryz.ntmps121
  go_wp2_with fail
  go_ret
  exact ⟨rfl, rfl⟩
theorem none_nil : Calls Tryz.prog 121 #[.pointer none] w fun e w' => e = .returned (.bool true) ∧ w' = w := by
  go_enter Tryz.func121, Tryz.ntmps121
  go_wp2_with fail
  go_ret
  exact ⟨rfl, rfl⟩
theorem all_any (h : CodAt w cb b k m) : Calls Tryz.prog 122 #[.pointer (some ⟨cb, 0, none⟩)] w fun e w' => e = .returned (.int .i64 ((k + m : Nat) : Int)) ∧ Below w.heap.size w w' := by
  obtain ⟨A, c, h1, _⟩ := h.box
  have k0 := h1.cell 0
  have k1 := h1.cell 1
  have hl := h1.lt
  have hkm := h.km
  have q : IntKind.i64.wrap ((k : Int) + (m : Int)) = ((k + m : Nat) : Int) := by rw [IntKind.wrap_i64]; omega
  clear h h1
  go_enter Tryz.func122, Tryz.ntmps122
  go_wp2_with fail
  refine wp_region_later (by kernel_rfl) (by kernel_rfl) ?_
  repeat (go_big_quiet_step (fail))
  refine wpQuiet_nil ?_
  rintro _ ⟨z, rfl⟩
  go_wp2_with fail
  go_ret
  exact ⟨rfl, z.ok⟩
theorem data_any (h : CodAt w cb b k m) : Calls Tryz.prog 140 #[.pointer (some ⟨cb, 0, none⟩)] w fun e w' => e = .returned (.int .i64 (k : Int)) ∧ w' = w := by
  obtain ⟨A, c, h1, _⟩ := h.box
  have k0 := h1.cell 0
  go_enter Tryz.func140, Tryz.ntmps140
  go_wp2_with fail
  go_ret
  exact ⟨rfl, rfl⟩
theorem has_ok (h : CodAt w cb b k m) {i : Nat} (hi : i < k + m) : Calls Tryz.prog 211 #[.pointer (some ⟨cb, 0, none⟩), .int .i64 (i : Int)] w fun e w' => e = .returned (.bool true) ∧ Below w.heap.size w w' := by
  have hA := all_any h
  have q1 : (i : Int) ≥ 0 := Int.natCast_nonneg _
  have q2 : (i : Int) < (k : Int) + (m : Int) := by omega
  clear h
  go_enter Tryz.func211, Tryz.ntmps211
  go_wp2_with (go_at_call 122; refine hA.mono ?_; rintro e w2 ⟨rfl, hb⟩; have HB := Lib.hid hb; clear hb hA)
  go_ret
  exact ⟨rfl, HB.out⟩
theorem cn_any (h : CodAt w cb b k m) : Calls Tryz.prog 57 #[.pointer (some ⟨cb, 0, none⟩)] w fun e w' => e = .returned (.int .i64 ((k + m : Nat) : Int)) ∧ Below w.heap.size w w' := by
  have hA := all_any h
  have hN := none_any h
  clear h
  go_enter Tryz.func57, Tryz.ntmps57
  go_wp2_with (first | (go_at_call 121; refine hN.mono ?_; rintro e w9 ⟨rfl, hw9⟩; rw [hw9]; clear hw9) | (go_at_call 122; refine hA.mono ?_; rintro e w2 ⟨rfl, hb⟩; have HB := Lib.hid hb; clear hb hA))
  go_ret
  exact ⟨rfl, HB.out⟩
theorem cn_nil : Calls Tryz.prog 57 #[.pointer none] w fun e w' => e = .returned (.int .i64 0) ∧ w' = w := by
  go_enter Tryz.func57, Tryz.ntmps57
  go_wp2_with (go_at_call 121; refine none_nil.mono ?_; rintro e w9 ⟨rfl, hw9⟩; rw [hw9]; clear hw9)
  go_ret
  exact ⟨rfl, rfl⟩
theorem ck_any (h : CodAt w cb b k m) : Calls Tryz.prog 88 #[.pointer (some ⟨cb, 0, none⟩)] w fun e w' => e = .returned (.int .i64 (k : Int)) ∧ w' = w := by
  have hA := data_any h
  have hN := none_any h
  clear h
  go_enter Tryz.func88, Tryz.ntmps88
  go_wp2_with (first | (go_at_call 121; refine hN.mono ?_; rintro e w9 ⟨rfl, hw9⟩; rw [hw9]; clear hw9) | (go_at_call 140; refine hA.mono ?_; rintro e w9 ⟨rfl, hw9⟩; rw [hw9]; clear hw9))
  go_ret
  exact ⟨rfl, rfl⟩
theorem cfield_any (h : CodAt w cb b k m) : Calls Tryz.prog 209 #[.pointer (some ⟨cb, 0, none⟩)] w fun e w' => e = .returned (.pointer (some ⟨b, 0, none⟩)) ∧ w' = w := by
  obtain ⟨A, c, h1, _⟩ := h.box
  have k2 := h1.cell 2
  have hN := none_any h
  clear h
  go_enter Tryz.func209, Tryz.ntmps209
  go_wp2_with (go_at_call 121; refine hN.mono ?_; rintro e w9 ⟨rfl, hw9⟩; rw [hw9]; clear hw9)
  go_ret
  exact ⟨rfl, rfl⟩
end
theorem unit_row {k i : Nat} (hi : i < k) : (List.replicate k 0).set i 1 = rowF k i := gt_ext (by rw [List.length_set, List.length_replicate, rowF_len]) fun j hj => by
  rw [List.length_set, List.length_replicate] at hj
  rw [gt_set _ _ _ (by rw [List.length_replicate]; exact hj), rowF_gt hj]
  unfold fac
  rw [if_pos hi]
  by_cases e : j = i
  · rw [if_pos e, if_pos e.symm]
  · rw [if_neg e, if_neg (fun h => e h.symm)]
    unfold gt
    rw [List.getD_eq_getElem?_getD, List.getElem?_replicate]
    split <;> rfl
def rowP (k i j : Nat) : List Nat := (List.range j).map (fac k i) ++ List.replicate (k - j) 0
theorem rowP_zero (k i : Nat) : rowP k i 0 = List.replicate k 0 := by unfold rowP; simp
theorem rowP_end (k i : Nat) : rowP k i k = rowF k i := by unfold rowP rowF; simp
theorem rowP_len {k i j : Nat} (hj : j ≤ k) : (rowP k i j).length = k := by unfold rowP; simp; omega
theorem rowP_next {k i j : Nat} (hj : j < k) : (rowP k i j).set j (fac k i j) = rowP k i (j + 1) := by
  unfold rowP
  rw [List.set_append_right _ _ (by simp), List.range_succ, List.map_append, List.append_assoc]
  congr 1
  obtain ⟨d, hd⟩ : ∃ d, k - j = d + 1 := ⟨k - j - 1, by omega⟩
  rw [hd, show k - (j + 1) = d by omega, List.replicate_succ]
  simp
end
section
set_option maxRecDepth 100000 in
set_option maxHeartbeats 4000000 in
theorem crow_any {w : World} {cb b k m : Nat} (H : CodAt w cb b k m) {i : Nat} (hi : i < k + m) :
    Calls Tryz.prog 177 #[.pointer (some ⟨cb, 0, none⟩), .int .i64 (i : Int)] w fun e w' => ∃ g, e = .returned (.slice (some ⟨g, 0, none⟩) k k) ∧ RdL ByR 1 (fun j => w.heap.size ≤ j) w' (some ⟨g, 0, none⟩) k (rowF k i) ∧ Below w.heap.size w w' := by
  have HC := Lib.hid H
  have hk1 := H.k1
  have hm1 := H.m1
  have hkm := H.km
  have hN := none_any H
  have hH := has_ok H hi
  have q0 : (0 : Int) ≤ (i : Int) := Int.natCast_nonneg _
  have q1 : (i : Int) < ((k + m : Nat) : Int) := by omega
  have q2 : (0 : Int) ≤ (k : Int) := Int.natCast_nonneg _
  have q3 : (k : Int) ≤ 255 := by omega
  clear H
  go_enter Tryz.func177, Tryz.ntmps177
  go_wp2_with (first | (go_at_call 121; refine hN.mono ?_; rintro e w9 ⟨rfl, hw9⟩; rw [hw9]; clear hw9 hN))
  refine hH.mono ?_
  rintro e w2 ⟨rfl, hb⟩
  have hC2 := HC.out.below hb
  obtain ⟨A, c, hbx, hc, hrd⟩ := hC2.box
  have k0 := hbx.cell 0
  have hmk := makeBy k (by omega) w2
  have hz := RowIn.made w2 k 5
  have hbz : Below w2.heap.size w2 (w2.alloc (.cells (Array.replicate k (.int .u8 0)) 5)) := (Below.refl _ _).alloc (Nat.le_refl _) _
  obtain ⟨w5, hw5⟩ : ∃ w5, w2.alloc (.cells (Array.replicate k (.int .u8 0)) 5) = w5 := ⟨_, rfl⟩
  rw [hw5] at hmk hz hbz
  obtain ⟨g, hg⟩ : ∃ g, w2.heap.size = g := ⟨_, rfl⟩
  rw [hg] at hmk hz
  have hgs : w.heap.size ≤ g := by have := hb.size; omega
  have hb5 : Below w.heap.size w w5 := hb.trans (hbz.mono hb.size)
  have HZ := Lib.hid hz
  have HB5 := Lib.hid hb5
  have hbx5 := hbx.below hbz
  have x0 := hbx5.cell 0
  have HC5 := Lib.hid (hC2.below hbz)
  clear hH hb hbx hrd hC2 hbz hb5 hw5 hg
  by_cases hik : i < k
  · have p1 : (i : Int) < (k : Int) := by omega
    have c1 := hz.cell (i := i) (by rw [List.length_replicate]; exact hik)
    have f1 := hz.frozen i
    clear hz
    go_wp2_with fail
    go_ret
    refine ⟨g, rfl, ?_, HB5.out.setCell (by exact hgs) _⟩
    have := (HZ.out.set (i := i) (x := 1) (by rw [List.length_replicate]; exact hik) (by decide)).rd (S := fun j => w.heap.size ≤ j) hgs
    rw [unit_row hik, rowF_len] at this
    exact this
  · have p1 : ¬ (i : Int) < (k : Int) := by omega
    have hz0 : RowIn w5 g (Array.replicate k (.int .u8 0)) (rowP k i 0) := by rw [rowP_zero]; exact hz
    have HZ0 := Lib.hid hz0
    clear hz hz0 HZ
    go_wp2_with fail
    clear hmk x0 k0
    go_loopw [36] (fun vi wr => ∃ (j : Nat) (cur : Array Value), j ≤ k ∧ vi = .int .i64 j ∧ Hid (RowIn wr g cur (rowP k i j)) ∧ Hid (Below w.heap.size w wr)) (fun vi _ => k - (intOf vi).toNat)
    case atStart => exact ⟨0, _, Nat.zero_le _, rfl, HZ0, HB5⟩
    case round =>
      clear HZ0 HB5 HC5 hbx5
      obtain ⟨j, cur, hj, rfl, RW, HB⟩ := hrel
      have p0 : (0 : Int) ≤ (j : Int) := Int.natCast_nonneg _
      by_cases hlt : j < k
      · have p2 : (j : Int) < (k : Int) := by omega
        have hC := (HC.out.below HB.out).below (w' := wr.drew) (Below.refl _ _).drew
        obtain ⟨A, c, hbx, hc, hrd⟩ := hC.box
        have hat := at_any (w := wr.drew) hm1 (by omega) hk1 (by omega) hrd hc (i := i - k) (j := j) (by omega) hlt
        rw [cau_gt (by omega) hlt, show k + (i - k) = i by omega] at hat
        have p3 : IntKind.i64.wrap ((i : Int) - (k : Int)) = ((i - k : Nat) : Int) := by rw [IntKind.wrap_i64]; omega
        have p4 : (i : Int) - (k : Int) = ((i - k : Nat) : Int) := by omega
        have p5 : IntKind.i64.wrap ((i - k : Nat) : Int) = ((i - k : Nat) : Int) := by rw [IntKind.wrap_i64]; omega
        have s1 : wr.drew.cell? ⟨cb, 0, none⟩ = some (.int .i64 k) ∧ wr.drew.cell? ⟨cb, 3, none⟩ = some (.int .i64 m) ∧ wr.drew.cell? ⟨cb, 4, none⟩ = some (.int .i64 k) ∧ wr.drew.cell? ⟨cb, 5, none⟩ = some (.slice A (m * k) c) := ⟨hbx.cell 0, hbx.cell 3, hbx.cell 4, hbx.cell 5⟩
        have hcl := hbx.lt
        have hll := rowP_len (i := i) hj
        clear hC hbx hrd
        go_wp2_with fail
        refine wp_region_L (S := fun w' => w'.cell? ⟨cb, 0, none⟩ = some (.int .i64 k) ∧ w'.cell? ⟨cb, 3, none⟩ = some (.int .i64 m) ∧ w'.cell? ⟨cb, 4, none⟩ = some (.int .i64 k) ∧ w'.cell? ⟨cb, 5, none⟩ = some (.slice A (m * k) c)) [16] (by kernel_rfl) (by first | exact s1 | exact s2) (fun hHeld => ?_)
        refine tkL 0 rfl ?_
        refine tkL 1 rfl ?_
        refine tkL 2 rfl ?_
        refine tkL 3 rfl ?_
        refine tkL 4 rfl ?_
        refine tkL 5 rfl ?_
        refine tkL 6 rfl ?_
        refine tkL 7 rfl ?_
        refine tkL 8 rfl ?_
        refine tkL 9 rfl ?_
        refine tkL 10 rfl ?_
        refine tkL 11 rfl ?_
        refine tkL 12 rfl ?_
        refine tkL 13 rfl ?_
        refine rdL 14 rfl fun K hK => ?_
        try simp (maxSteps := 2000000) only [zz1, zz2, zz3]
        go_simp
        go_at_call 212
        refine hat.mono ?_
        rintro e w6 ⟨rfl, hb6⟩
        have s2 : w6.cell? ⟨cb, 0, none⟩ = some (.int .i64 k) ∧ w6.cell? ⟨cb, 3, none⟩ = some (.int .i64 m) ∧ w6.cell? ⟨cb, 4, none⟩ = some (.int .i64 k) ∧ w6.cell? ⟨cb, 5, none⟩ = some (.slice A (m * k) c) := ⟨(hb6.cell (p := ⟨cb, 0, none⟩) hcl).trans s1.1, (hb6.cell (p := ⟨cb, 3, none⟩) hcl).trans s1.2.1, (hb6.cell (p := ⟨cb, 4, none⟩) hcl).trans s1.2.2.1, (hb6.cell (p := ⟨cb, 5, none⟩) hcl).trans s1.2.2.2⟩
        have c2 := (RW.out.drew.below hb6).cell (i := j) (by omega)
        have f2 := (RW.out.drew.below hb6).frozen j
        have HB6 := Lib.hid hb6
        clear hat hb6
        try (go_wp2_with fail)
        refine hK.out _ _ (by first | exact s1 | exact s2) (fun hHeld => ?_)
        clear hK K
        try simp (maxSteps := 2000000) only [zz1, zz2, zz3, Act.put, zz4, zz5, zz6]
        refine tkL 15 rfl ?_
        refine lsL 16 rfl fun K hK => ?_
        try simp (maxSteps := 2000000) only [zz1, zz2, zz3]
        go_simp
        refine hK.out _ _ ?_
        clear hK K
        try simp (maxSteps := 2000000) only [zz1, zz2, zz3, Act.put, zz4, zz5, zz6]
        refine wpAnyL_done (by kernel_rfl) ?_ _
        have r5 := (RW.out.drew.below HB6.out).set (i := j) (x := fac k i j) (by omega) (fac_lt _ _ _)
        rw [rowP_next hlt] at r5
        have b5 := (HB.out.drew.trans (HB6.out.mono HB.out.size)).setCell (p := ⟨g, j, none⟩) hgs (.int .u8 (fac k i j : Int))
        have R5 := Lib.hid r5
        have B5 := Lib.hid b5
        clear r5 b5 s1 s2 hHeld c2 f2
        go_wp2_with fail
        exact ⟨⟨j + 1, _, by omega, by go_num, R5, B5⟩, by simp [intOf]; omega⟩
      · have p2 : ¬ (j : Int) < (k : Int) := by omega
        obtain rfl : j = k := by omega
        go_wp2_with fail
        go_ret
        refine ⟨g, rfl, ?_, HB.out⟩
        have := RW.out.rd (S := fun i => w.heap.size ≤ i) hgs
        rw [rowP_end, rowF_len] at this
        exact this
end
section

theorem risF_next {a b i : Nat} (h : a + i < b) : risF a (a + (i + 1)) = risF a (a + i) ++ [a + i] := by
  unfold risF
  rw [show a + (i + 1) - a = i + 1 by omega, show a + i - a = i by omega, List.range_succ, List.map_append]; rfl
set_option maxRecDepth 100000 in
set_option maxHeartbeats 4000000 in
theorem rising_any {w : World} {a b : Nat} (hab : a ≤ b) (hb : b ≤ 255) :
    Calls Tryz.prog 134 #[.int .i64 (a : Int), .int .i64 (b : Int)] w fun e w' => ∃ A c, e = .returned (.slice A (b - a) c) ∧ b - a ≤ c ∧ RdL ByR 1 (fun j => w.heap.size ≤ j) w' A (b - a) (risF a b) ∧ Below w.heap.size w w' := by
  have q0 : (0 : Int) ≤ (a : Int) := Int.natCast_nonneg _
  have q1 : (b : Int) ≤ 255 := by omega
  have q2 : (a : Int) ≤ (b : Int) := by omega
  have q3 : IntKind.i64.wrap ((b : Int) - (a : Int)) = ((b - a : Nat) : Int) := by rw [IntKind.wrap_i64]; omega
  have q4 : (b : Int) - (a : Int) = ((b - a : Nat) : Int) := by omega
  have q5 : IntKind.i64.wrap ((b - a : Nat) : Int) = ((b - a : Nat) : Int) := by rw [IntKind.wrap_i64]; omega
  go_enter Tryz.func134, Tryz.ntmps134
  go_wp2_with (at_make; refine wpList_make0 ByR (fun _ => True) sl_by rfl rfl (base := w.heap.size) rfl rfl (b - a) (by omega) (by omega) (by unfold maxLen; omega) (by (first | (with_reducible exact Nat.le_refl _) | omega | (simp only [World.size_alloc, World.size_setCell, World.size_drew] <;> omega))) ?_; intro y hys hown; have hyb : Below w.heap.size w y.to := y.ok; have HO := Lib.hid hown; have HB := Lib.hid hyb; clear hown hyb hys)
  go_loopw [5, 6] (fun vs vi wr => ∃ (i : Nat) (A : Option Addr) (c : Nat), i ≤ b - a ∧ vi = .int .i64 ((a + i : Nat) : Int) ∧ vs = .slice A i c ∧ i ≤ c ∧ Hid (OwnL ByR 5 1 w.heap.size (fun _ => True) wr (.slice A i c) i (risF a (a + i))) ∧ Hid (Below w.heap.size w wr)) (fun _ vi _ => b - (intOf vi).toNat)
  case atStart => exact ⟨0, _, _, Nat.zero_le _, rfl, rfl, Nat.zero_le _, by rw [show risF a (a + 0) = [] by unfold risF; simp]; exact HO, HB⟩
  case round =>
    clear HO HB
    obtain ⟨i, A, c, hi, rfl, rfl, hc, HO, HB⟩ := hrel
    have p0 : (0 : Int) ≤ ((a + i : Nat) : Int) := Int.natCast_nonneg _
    by_cases hlt : i < b - a
    · have p1 : ((a + i : Nat) : Int) < (b : Int) := by omega
      have p2 : IntKind.u8.wrap ((a + i : Nat) : Int) = ((a + i : Nat) : Int) := by rw [IntKind.wrap_u8]; omega
      have p3 : (a : Int) + (i : Int) < (b : Int) := by omega
      have p4 : IntKind.u8.wrap ((a : Int) + (i : Int)) = (a : Int) + (i : Int) := by rw [IntKind.wrap_u8]; omega
      have hnx := risF_next (a := a) (b := b) (i := i) (by omega)
      have HN := Lib.hid hnx
      have hbz := HB.out.size
      clear hnx
      go_wp2_with (at_builtin; go_must (refine wpList_push1 ByR.stable ByR.one sl_by (by rfl) (by rfl) (base := w.heap.size) (S := fun _ => True) (cs := #[.int .u8 ((a + i : Nat) : Int)]) (y := a + i) (by rfl) (by rfl) HO.out (by rfl) ⟨by omega, rfl⟩ (by unfold maxLen; omega) (by omega) hbz ?_); intro A8 c8 u8 hc8 own9 hlt8 hb8 hat8; rw [← HN.out] at own9; have HO9 := Lib.hid own9; have HB9 := Lib.hid (HB.out.trans hb8); clear own9 hb8 hlt8 hat8)
      exact ⟨⟨i + 1, A8, c8, by omega, by go_num, rfl, hc8, HO9, HB9⟩, by simp [intOf]; omega⟩
    · have p1 : ¬ ((a + i : Nat) : Int) < (b : Int) := by omega
      have p3 : ¬ (a : Int) + (i : Int) < (b : Int) := by omega
      obtain rfl : i = b - a := by omega
      go_wp2_with fail
      go_ret
      obtain ⟨A', c', e, _, hr⟩ := HO.out.rd (S' := fun k => w.heap.size ≤ k) (fun _ hk => hk) (fun cs x hx => hx)
      injection e with e1 _ e2
      subst e1; subst e2
      rw [show a + (b - a) = b by omega] at hr
      exact ⟨A, c, rfl, by omega, hr, HB.out⟩
end
end Go.Proofs.YtihnlhfngmbglaaGreat
