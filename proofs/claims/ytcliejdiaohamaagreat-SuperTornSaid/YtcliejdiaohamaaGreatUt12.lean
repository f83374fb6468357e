/-
  The drives behind the writes of a stripe's shards: plain.
  Drives and a coder in the midst of a law.
  A law's drives and coder are made.
  A stripe in a law: what Get, Whole and Put give.
  Drives that have a stripe's shard, and drives that lost it.
  Rot of a drive among others, whatever is asked, and the code that it answers.
  Drives and a coder in the midst of a law, beside blocks that stay as they are.
  Drives that die, one after another: plain; how many are left.
  Drives that lost a place: plain.
  A stripe that was put; another one put at its place: plain.
  A stripe that was put and flushed; drives that lost a place: plain.
  Mend, by which drives have their shard.
  A stripe's shards on the drives, whatever happens to them: plain.
  Drives, a coder and a pool in the midst of a law, beside blocks that stay as they are.
  How many bits of a word are set: plain.
  Words of bits as places that are taken: plain.
  The map of places that are taken: the small questions, Set, Count.
  The map of places that are taken: New; the least free places.
  The least free places of the map.
  Least; a pool's small questions.
  A pool: the small questions, Free, places.
  A pool: generations; Take.
  A pool gives out places; a new pool.
  A new pool; a pool's copy.
  Blobs: how many stripes, their names, pieces.
  Places and generations for a value.
  A value is put.
  Whether a blob may be; how long its stripes should be.
  A value is got.
  A law's base: rows, and places of a pool: is it small?
  A law's base: drives, a coder and a pool are made.
  A value is put: no room, too long.
  Without drives, a coder or a pool nothing is put or got; too long a value is not put.
  What is taken of a pool is free no more; a value's stripes lie on the drives as they were put, and stay.
  A long text's stripes: how much room, how many, which part.
-/
import Derived.Test.YtcliejdiaohamaaGreatUt11
import Derived.Test.YtcliejdiaohamaaGreatUt2
import Derived.Test.YtcliejdiaohamaaGreatUt1
import Derived.Test.YtcliejdiaohamaaGreatRows
import Derived.Test.YtcliejdiaohamaaGreatUt4
set_option linter.unusedSimpArgs false
set_option linter.unusedVariables false
namespace Go.Proofs.YtcliejdiaohamaaGreat
open Go.RowKit Go.Cib
attribute [local go_sem] cell_set Later.cell Later.frozen Grw.cell Grw.frozen
def deadL (sts : List DSt) (d : Nat) : Bool := ((sts[d]?).map (·.dead)).getD true
def wrG (n : Nat) (r : Ref) (size : Nat) (wh : Nat → Bool) (rw : Nat → List Nat) (N d : Nat) (st : DSt) : DSt :=
  if wh (ixN N r.place d) = true then wrDA n st (r.place : Int) (wrI (shR r (ixN N r.place d) size (rw (ixN N r.place d)))) else st
section
variable {n size : Nat} {r : Ref} {wh : Nat → Bool} {rw : Nat → List Nat} {sts : List DSt}
theorem wrS_at (hN : 1 ≤ sts.length) : ∀ i, i ≤ sts.length → (∀ d st, sts[d]? = some st → (wrS n r size wh rw sts i).1[d]? = some (if ixN sts.length r.place d < i then wrG n r size wh rw sts.length d st else st)) ∧
    (wrS n r size wh rw sts i).2 = ((List.range i).filter fun j => wh j && !deadL sts (homeN sts.length r.place j)).length
  | 0, _ => ⟨fun d st h => by rw [if_neg (by omega)]; exact h, rfl⟩
  | i + 1, hi => by
    obtain ⟨h1, h2⟩ := wrS_at hN i (by omega)
    have hlt : homeN sts.length r.place i < sts.length := homeN_lt hN
    have hix : ixN sts.length r.place (homeN sts.length r.place i) = i := ix_home hN (by omega)
    obtain ⟨s0, hs0⟩ : ∃ s0, sts[homeN sts.length r.place i]? = some s0 := ⟨_, List.getElem?_eq_getElem hlt⟩
    have hcur := h1 _ _ hs0
    rw [hix, if_neg (by omega)] at hcur
    rw [List.range_succ, List.filter_append, List.length_append]
    cases hw : wh i with
    | false =>
      rw [wrS_skip hw]
      refine ⟨fun d st hd => ?_, ?_⟩
      · rw [h1 d st hd]
        by_cases e : ixN sts.length r.place d = i
        · rw [if_neg (by omega), if_pos (by omega)]
          unfold wrG
          rw [e, hw]; rfl
        · by_cases e2 : ixN sts.length r.place d < i
          · rw [if_pos e2, if_pos (by omega)]
          · rw [if_neg e2, if_neg (by omega)]
      · rw [h2, List.filter_cons_of_neg (by simp [hw])]; rfl
    | true =>
      rw [wrS_do hw hcur]
      refine ⟨fun d st hd => ?_, ?_⟩
      · have hdl := (List.getElem?_eq_some_iff.1 hd).1
        by_cases e : ixN sts.length r.place d = i
        · have e3 : d = homeN sts.length r.place i := by rw [← e, home_ix hN hdl]
          subst e3
          have : s0 = st := Option.some.inj (hs0.symm.trans hd)
          subst this
          rw [List.getElem?_set_self (by rw [wrS_len]; exact hlt), if_pos (by omega)]
          unfold wrG
          rw [hix, if_pos hw]
        · have e3 : homeN sts.length r.place i ≠ d := fun h => e (by rw [← h]; exact hix)
          rw [List.getElem?_set_ne e3, h1 d st hd]
          by_cases e2 : ixN sts.length r.place d < i
          · rw [if_pos e2, if_pos (by omega)]
          · rw [if_neg e2, if_neg (by omega)]
      · rw [h2]
        have hdd : deadL sts (homeN sts.length r.place i) = s0.dead := by unfold deadL; rw [hs0]; rfl
        cases hb : s0.dead with
        | true => rw [if_pos rfl, List.filter_cons_of_neg (by simp [hw, hdd, hb])]; rfl
        | false => rw [if_neg (by simp), List.filter_cons_of_pos (by simp [hw, hdd, hb])]; rfl
/-- The drives behind it, each by itself. -/
theorem wrS_map (hN : 1 ≤ sts.length) : (wrS n r size wh rw sts sts.length).1 = sts.mapIdx (wrG n r size wh rw sts.length) := by
  apply List.ext_getElem?
  intro d
  rw [List.getElem?_mapIdx]
  by_cases hd : d < sts.length
  · have h := (wrS_at (n := n) (size := size) (r := r) (wh := wh) (rw := rw) hN sts.length (Nat.le_refl _)).1 d _ (List.getElem?_eq_getElem hd)
    rw [h, List.getElem?_eq_getElem hd, if_pos (ixN_lt hN)]; rfl
  · rw [List.getElem?_eq_none (by rw [wrS_len]; omega), List.getElem?_eq_none (by omega)]; rfl
theorem wrS_taken (hN : 1 ≤ sts.length) : (wrS n r size wh rw sts sts.length).2 = ((List.range sts.length).filter fun j => wh j && !deadL sts (homeN sts.length r.place j)).length := (wrS_at hN sts.length (Nat.le_refl _)).2
/-- All of a stripe: as many as aren't dead. -/
theorem wrS_all (hN : 1 ≤ sts.length) : (wrS n r size (fun _ => true) rw sts sts.length).2 = ((List.range sts.length).filter fun d => !deadL sts d).length := by
  rw [wrS_taken hN, ← home_count hN (p := r.place) (fun d => !deadL sts d)]; rfl
end
theorem wrDA_dead {n : Nat} {st : DSt} (h : st.dead = true) (z : Int) (bs : List Int) : wrDA n st z bs = st := by
  unfold wrDA
  rw [if_neg]
  intro h2
  unfold readyE at h2
  rw [h] at h2
  exact absurd h2.1 (by rw [if_pos rfl]; decide)
theorem wrDA_live {n z : Nat} {st : DSt} (h : st.dead = false) (hz : z < n) {bs : List Int} (hl : bs.length = 64) : wrDA n st (z : Int) bs = st.write (z : Int) bs := by
  unfold wrDA
  rw [if_pos]
  refine ⟨?_, hl⟩
  unfold readyE
  rw [h]
  simp [hz]
theorem wrI_len {x : Shd} (h : x.body.length = 44) : (wrI x).length = 64 := by unfold wrI; rw [List.length_map, sncS_len h]
/-! ### What is read -/
section
variable {sts : List DSt} {k i : Nat} {r : Ref} {st : DSt}
theorem stR_at (h : sts[homeN sts.length r.place i]? = some st) : stR sts k r i = rdS st k r i := by unfold stR; rw [h]
theorem rdS_dead (h : st.dead = true) : rdS st k r i = none := by unfold rdS; rw [if_pos h]
theorem rdS_zero (h : st.seen r.place = rep 0) : rdS st k r i = none := by
  unfold rdS
  split
  · rfl
  · unfold secN
    rw [h]
    exact rdX_zero k r i
theorem rdS_snc {x : Shd} (hx : x.ok) (hk : kindB x.kind = true) (h : st.seen r.place = wrI x) : rdS st k r i = if st.dead = false ∧ isB x r i = true ∧ x.size ≤ k * 44 then some x else none := by
  unfold rdS
  cases hd : st.dead with
  | true => rw [if_pos rfl, if_neg (by simp)]
  | false =>
    rw [if_neg (by simp)]
    unfold secN
    rw [h]
    unfold wrI
    rw [toNat_map, rdX_snc hx hk]
    by_cases h2 : isB x r i = true ∧ x.size ≤ k * 44
    · rw [if_pos h2, if_pos ⟨rfl, h2⟩]
    · rw [if_neg h2, if_neg (fun h3 => h2 h3.2)]
end
theorem isB_same (r : Ref) (i size : Nat) (row : List Nat) : isB (shR r i size row) r i = true := by unfold isB shR; simp
theorem isB_other {r r' : Ref} (h : r.kind ≠ r'.kind ∨ r.gen ≠ r'.gen) (i j size : Nat) (row : List Nat) : isB (shR r i size row) r' j = false := by
  unfold isB shR
  rcases h with h | h
  · simp [h]
  · simp [h]
end Go.Proofs.YtcliejdiaohamaaGreat

set_option linter.unusedSimpArgs false
set_option linter.unusedVariables false
namespace Go.Proofs.YtcliejdiaohamaaGreat
open Go.RowKit Go.Cib
attribute [local go_sem] cell_set Later.cell Later.frozen Grw.cell Grw.frozen
def mayB (k m : Int) : Bool := decide (1 ≤ k ∧ 1 ≤ m ∧ k ≤ 255 ∧ m ≤ 255 - k)
set_option maxRecDepth 100000 in
set_option maxHeartbeats 4000000 in
theorem may_any {w : World} (k m : Int) :
    Calls Tryz.prog 31 #[.int .i64 k, .int .i64 m] w fun e w' => e = .returned (.bool (mayB k m)) ∧ w' = w := by
  go_enter Tryz.func31, Tryz.ntmps31
  by_cases h1 : k ≥ 1
  · by_cases h2 : m ≥ 1
    · by_cases h3 : k ≤ 255
      · by_cases h4 : m ≤ 255 - k
        · have h5 : m ≤ 255 - k := h4
          go_wp2_with fail
          go_ret
          exact ⟨by rw [show mayB k m = true from decide_eq_true (by omega)]; simp [h4], rfl⟩
        · go_wp2_with fail
          go_ret
          exact ⟨by rw [show mayB k m = false from decide_eq_false (by omega)]; simp <;> omega, rfl⟩
      · go_wp2_with fail
        go_ret
        exact ⟨by rw [show mayB k m = false from decide_eq_false (by omega)]; simp <;> omega, rfl⟩
    · go_wp2_with fail
      go_ret
      exact ⟨by rw [show mayB k m = false from decide_eq_false (by omega)]; simp <;> omega, rfl⟩
  · go_wp2_with fail
    go_ret
    exact ⟨by rw [show mayB k m = false from decide_eq_false (by omega)]; simp <;> omega, rfl⟩

theorem CodF.bound {C : Nat → Prop} {w : World} {cb b k m : Nat} (h : CodF C w cb b k m) : CodF (fun j => C j ∧ j < w.heap.size) w cb b k m := by
  obtain ⟨A, c, h1, h2, h3⟩ := h.box
  exact ⟨⟨A, c, h1, h2, h3.stable ByR.stable fun j hj hl => ⟨⟨hj, hl⟩, rfl⟩⟩, ⟨h.cc, h1.lt⟩, ⟨h.cf, h.fld.lt⟩, h.fld, h.k1, h.m1, h.km⟩
/-- Drives and a coder, all of whose blocks are younger than the law's call. -/
structure SMid (w0 w : World) (a cb bf k m n : Nat) (sts : List DSt) : Prop where
  bel : Below w0.heap.size w0 w
  ex : ∃ U C, ArrAt U w a n sts ∧ CodF C w cb bf k m ∧ (∀ j, U j → w0.heap.size ≤ j) ∧ (∀ j, C j → ¬ U j ∧ j < w.heap.size)
  len : sts.length = k + m
  n1 : 1 ≤ n
  n2 : n ≤ 600
section
variable {w0 w w' : World} {a cb bf k m n : Nat} {sts : List DSt}
theorem SMid.cod (h : SMid w0 w a cb bf k m n sts) : CodAt w cb bf k m := by
  obtain ⟨U, C, _, hC, _⟩ := h.ex
  exact hC.at
theorem SMid.k1 (h : SMid w0 w a cb bf k m n sts) : 1 ≤ k := h.cod.k1
theorem SMid.m1 (h : SMid w0 w a cb bf k m n sts) : 1 ≤ m := h.cod.m1
theorem SMid.km (h : SMid w0 w a cb bf k m n sts) : k + m ≤ 255 := h.cod.km
theorem SMid.below (h : SMid w0 w a cb bf k m n sts) (hb : Below w.heap.size w w') : SMid w0 w' a cb bf k m n sts := by
  obtain ⟨U, C, hA, hC, hU, hd⟩ := h.ex
  exact ⟨h.bel.trans (hb.mono h.bel.size), ⟨U, C, hA.below hb, hC.below hb, hU, fun j hj => ⟨(hd j hj).1, Nat.lt_of_lt_of_le (hd j hj).2 hb.size⟩⟩, h.len, h.n1, h.n2⟩
theorem SMid.ok (h : SMid w0 w a cb bf k m n sts) : ∀ st ∈ sts, st.ok n := by
  obtain ⟨U, C, hA, _⟩ := h.ex
  exact hA.ok
/-- A call that went on with the drives. -/
theorem SMid.step {sts' : List DSt} {f : FuncId} {args : Array Value} {Q : Ending → World → Prop} (h : SMid w0 w a cb bf k m n sts) (hl : sts'.length = sts.length)
    (hc : ∀ U, ArrAt U w a n sts → (∀ j, U j → w0.heap.size ≤ j) → Calls Tryz.prog f args w fun e w' => Q e w' ∧ AUpd U w w' a n sts') :
    Calls Tryz.prog f args w fun e w' => Q e w' ∧ SMid w0 w' a cb bf k m n sts' := by
  obtain ⟨U, C, hA, hC, hU, hd⟩ := h.ex
  refine (hc U hA hU).mono ?_
  rintro e w' ⟨hq, U', hA', hU', hK⟩
  refine ⟨hq, h.bel.trans (hK.below h.bel.size hU), ⟨U', C, hA', hC.keep hK (fun j hj => (hd j hj).1), fun j hj => ?_, fun j hj => ⟨fun hu => (hd j hj).1 (hU' j hu (hd j hj).2), Nat.lt_of_lt_of_le (hd j hj).2 hK.size⟩⟩, by rw [hl, h.len], h.n1, h.n2⟩
  by_cases hlt : j < w.heap.size
  · exact hU j (hU' j hj hlt)
  · have := h.bel.size; omega
variable {r : Ref}
theorem get_mid (h : SMid w0 w a cb bf k m n sts) (hr : r.ok n) (hR : RdOk sts r.place) :
    Calls Tryz.prog 111 #[.pointer (some ⟨a, 0, none⟩), .pointer (some ⟨cb, 0, none⟩), .agg (refC r)] w fun e w' => GetE w (stR sts k r) k (k + m) e w' := by
  obtain ⟨U, C, ⟨v, Fs, ps, hA⟩, hC, hU, hd⟩ := h.ex
  exact sget_any (Lib.hid hA) hC.at h.len hr hR
end
end Go.Proofs.YtcliejdiaohamaaGreat

set_option linter.unusedSimpArgs false
set_option linter.unusedVariables false
namespace Go.Proofs.YtcliejdiaohamaaGreat
open Go.RowKit Go.Cib
attribute [local go_sem] cell_set Later.cell Later.frozen Grw.cell Grw.frozen
def smallB (k m s : Int) : Bool := decide (1 ≤ k ∧ 1 ≤ m ∧ k + m ≤ 10 ∧ 1 ≤ s ∧ s ≤ 8)
def geoC (k m s : Int) : Array Value := #[.int .i64 k, .int .i64 m, .int .i64 s]
set_option maxRecDepth 100000 in
set_option maxHeartbeats 4000000 in
theorem small_any {w : World} (k m s : Int) : Calls Tryz.prog 21 #[.agg (geoC k m s)] w fun e w' => e = .returned (.bool (smallB k m s)) ∧ Below w.heap.size w w' := by
  have hma := fun w => may_any (w := w) k m
  have hb0 : Below w.heap.size w (w.alloc (.cells (geoC k m s) 31)) := (Below.refl _ _).alloc (Nat.le_refl _) _
  unfold geoC at hb0 ⊢
  go_enter Tryz.func21, Tryz.ntmps21
  cases hm : mayB k m with
  | false =>
    rw [hm] at hma
    have hs : Hid (smallB k m s = false) := Lib.hid (by
      unfold mayB at hm
      have := of_decide_eq_false hm
      exact decide_eq_false (by omega))
    go_wp2_with (go_at_call 31; refine (hma _).mono ?_; rintro e w3 ⟨rfl, hw3⟩; rw [hw3]; clear hw3 hma)
    go_ret
    exact ⟨by rw [hs.out]; rfl, hb0⟩
  | true =>
    rw [hm] at hma
    have hm' := of_decide_eq_true hm
    have q0 : IntKind.i64.wrap (k + m) = k + m := by rw [IntKind.wrap_i64]; omega
    by_cases h1 : k + m ≤ 10
    · by_cases h2 : s ≥ 1
      · by_cases h3 : s ≤ 8
        · have hs := Lib.hid (show smallB k m s = true from decide_eq_true (by omega))
          go_wp2_with (go_at_call 31; refine (hma _).mono ?_; rintro e w3 ⟨rfl, hw3⟩; rw [hw3]; clear hw3 hma)
          go_ret
          exact ⟨by rw [hs.out]; simp [h3], hb0⟩
        · have hs := Lib.hid (show smallB k m s = false from decide_eq_false (by omega))
          go_wp2_with (go_at_call 31; refine (hma _).mono ?_; rintro e w3 ⟨rfl, hw3⟩; rw [hw3]; clear hw3 hma)
          go_ret
          exact ⟨by rw [hs.out]; simp [h3] <;> omega, hb0⟩
      · have hs := Lib.hid (show smallB k m s = false from decide_eq_false (by omega))
        go_wp2_with (go_at_call 31; refine (hma _).mono ?_; rintro e w3 ⟨rfl, hw3⟩; rw [hw3]; clear hw3 hma)
        go_ret
        exact ⟨by rw [hs.out]; simp [h2] <;> omega, hb0⟩
    · have hs := Lib.hid (show smallB k m s = false from decide_eq_false (by omega))
      go_wp2_with (go_at_call 31; refine (hma _).mono ?_; rintro e w3 ⟨rfl, hw3⟩; rw [hw3]; clear hw3 hma)
      go_ret
      exact ⟨by rw [hs.out]; simp [h1] <;> omega, hb0⟩
set_option maxRecDepth 100000 in
set_option maxHeartbeats 8000000 in
theorem made_law {w0 w : World} {k m n : Nat} (hbel : Below w0.heap.size w0 w) (k1 : 1 ≤ k) (m1 : 1 ≤ m) (km : k + m ≤ 255) (n1 : 1 ≤ n) (n2 : n ≤ 600) :
    Calls Tryz.prog 14 #[.agg (geoC k m n)] w fun e w' => ∃ a cb bf, e = .returned (.tuple #[.pointer (some ⟨a, 0, none⟩), .pointer (some ⟨cb, 0, none⟩)]) ∧ SMid w0 w' a cb bf k m n (List.replicate (k + m) (DSt.new n)) ∧ Below w.heap.size w w' := by
  have hb0 : Below w.heap.size w (w.alloc (.cells (geoC k m n) 31)) := (Below.refl _ _).alloc (Nat.le_refl _) _
  have bG := BoxAt.new w (geoC k m n) 31
  obtain ⟨N, hN⟩ : ∃ N, k + m = N := ⟨_, rfl⟩
  have hnw := fun w => anew_any N n (by omega) (by omega) n1 n2 w
  have hfn := fun w => fldnew_any (w := w)
  have hcn := fun w b base F hb => new_anyS (w := w) (b := b) (base := base) (k := k) (m := m) F hb k1 m1 km
  have q0 : (k : Int) + (m : Int) = (N : Int) := by omega
  have q1 : IntKind.i64.wrap (N : Int) = (N : Int) := by rw [IntKind.wrap_i64]; omega
  have HN := Lib.hid hN
  unfold geoC at hb0 bG ⊢
  go_enter Tryz.func14, Tryz.ntmps14
  go_wp2_with fail
  obtain ⟨wA, hwA⟩ : ∃ wA, w.alloc (.cells #[.int .i64 (k : Int), .int .i64 (m : Int), .int .i64 (n : Int)] 31) = wA := ⟨_, rfl⟩
  rw [hwA] at hb0 bG ⊢
  obtain ⟨q, hq⟩ : ∃ q, w.heap.size = q := ⟨_, rfl⟩
  have HQ := Lib.hid hq
  rw [hq] at bG ⊢
  clear hwA hN hq
  have bGd : BoxAt wA.drew q #[.int .i64 (k : Int), .int .i64 (m : Int), .int .i64 (n : Int)] := bG.keep rfl
  have hd : Below w.heap.size w wA.drew := hb0.drew
  have s0 : wA.drew.cell? ⟨q, 0, none⟩ = some (.int .i64 (k : Int)) ∧ wA.drew.cell? ⟨q, 1, none⟩ = some (.int .i64 (m : Int)) ∧ wA.drew.cell? ⟨q, 2, none⟩ = some (.int .i64 (n : Int)) := ⟨bGd.cell 0, bGd.cell 1, bGd.cell 2⟩
  refine wp_region_held_drew (S := fun w' => w'.cell? ⟨q, 0, none⟩ = some (.int .i64 (k : Int)) ∧ w'.cell? ⟨q, 1, none⟩ = some (.int .i64 (m : Int)) ∧ w'.cell? ⟨q, 2, none⟩ = some (.int .i64 (n : Int))) (by kernel_rfl) (by first | exact s0 | exact s5 | exact s6 | exact s7) (fun hHeld => ?_)
  refine wpAnyH_take (i := 0) (v := ?_) rfl (by kernel_rfl) (by kernel_rfl) (by kernel_rfl) (fun _ _ _ h => h) (Or.inl ⟨by first | kernel_rfl | rfl, ?_⟩) (by assumption) ?_
  rotate_left
  · (intro wq hSw; (try dsimp only at hSw); (try simp (maxSteps := 2000000) only [zz1, zz2, zz3]); go_simp); try with_reducible rfl
  try simp (maxSteps := 2000000) only [zz1, zz2, zz3, Act.put, zz4, zz5, zz6]
  refine wpAnyH_take (i := 1) (v := ?_) rfl (by kernel_rfl) (by kernel_rfl) (by kernel_rfl) (fun _ _ _ h => h) (Or.inl ⟨by first | kernel_rfl | rfl, ?_⟩) (by assumption) ?_
  rotate_left
  · (intro wq hSw; (try dsimp only at hSw); (try simp (maxSteps := 2000000) only [zz1, zz2, zz3]); go_simp); try with_reducible rfl
  try simp (maxSteps := 2000000) only [zz1, zz2, zz3, Act.put, zz4, zz5, zz6]
  refine wpAnyH_take (i := 2) (v := ?_) rfl (by kernel_rfl) (by kernel_rfl) (by kernel_rfl) (fun _ _ _ h => h) (Or.inl ⟨by first | kernel_rfl | rfl, ?_⟩) (by assumption) ?_
  rotate_left
  · (intro wq hSw; (try dsimp only at hSw); (try simp (maxSteps := 2000000) only [zz1, zz2, zz3]); go_simp); try with_reducible rfl
  try simp (maxSteps := 2000000) only [zz1, zz2, zz3, Act.put, zz4, zz5, zz6]
  refine wpAnyH_take (i := 3) (v := ?_) rfl (by kernel_rfl) (by kernel_rfl) (by kernel_rfl) (fun _ _ _ h => h) (Or.inl ⟨by first | kernel_rfl | rfl, ?_⟩) (by assumption) ?_
  rotate_left
  · (intro wq hSw; (try dsimp only at hSw); (try simp (maxSteps := 2000000) only [zz1, zz2, zz3]); go_simp); try with_reducible rfl
  try simp (maxSteps := 2000000) only [zz1, zz2, zz3, Act.put, zz4, zz5, zz6]
  refine wpAnyH_take (i := 4) (v := ?_) rfl (by kernel_rfl) (by kernel_rfl) (by kernel_rfl) (fun _ _ _ h => h) (Or.inl ⟨by first | kernel_rfl | rfl, ?_⟩) (by assumption) ?_
  rotate_left
  · (intro wq hSw; (try dsimp only at hSw); (try simp (maxSteps := 2000000) only [zz1, zz2, zz3]); go_simp); try with_reducible rfl
  try simp (maxSteps := 2000000) only [zz1, zz2, zz3, Act.put, zz4, zz5, zz6]
  refine wpAnyH_take (i := 5) (v := ?_) rfl (by kernel_rfl) (by kernel_rfl) (by kernel_rfl) (fun _ _ _ h => h) (Or.inl ⟨by first | kernel_rfl | rfl, ?_⟩) (by assumption) ?_
  rotate_left
  · (intro wq hSw; (try dsimp only at hSw); (try simp (maxSteps := 2000000) only [zz1, zz2, zz3]); go_simp); try with_reducible rfl
  try simp (maxSteps := 2000000) only [zz1, zz2, zz3, Act.put, zz4, zz5, zz6]
  refine wpAnyH_take (i := 6) (v := ?_) rfl (by kernel_rfl) (by kernel_rfl) (by kernel_rfl) (fun _ _ _ h => h) (Or.inl ⟨by first | kernel_rfl | rfl, ?_⟩) (by assumption) ?_
  rotate_left
  · (intro wq hSw; (try dsimp only at hSw); (try simp (maxSteps := 2000000) only [zz1, zz2, zz3]); go_simp); try with_reducible rfl
  try simp (maxSteps := 2000000) only [zz1, zz2, zz3, Act.put, zz4, zz5, zz6]
  refine wpAnyH_take (i := 9) (v := ?_) rfl (by kernel_rfl) (by kernel_rfl) (by kernel_rfl) (fun _ _ _ h => h) (Or.inl ⟨by first | kernel_rfl | rfl, ?_⟩) (by assumption) ?_
  rotate_left
  · (intro wq hSw; (try dsimp only at hSw); (try simp (maxSteps := 2000000) only [zz1, zz2, zz3]); go_simp); try with_reducible rfl
  try simp (maxSteps := 2000000) only [zz1, zz2, zz3, Act.put, zz4, zz5, zz6]
  refine wpAnyH_take (i := 10) (v := ?_) rfl (by kernel_rfl) (by kernel_rfl) (by kernel_rfl) (fun _ _ _ h => h) (Or.inl ⟨by first | kernel_rfl | rfl, ?_⟩) (by assumption) ?_
  rotate_left
  · (intro wq hSw; (try dsimp only at hSw); (try simp (maxSteps := 2000000) only [zz1, zz2, zz3]); go_simp); try with_reducible rfl
  try simp (maxSteps := 2000000) only [zz1, zz2, zz3, Act.put, zz4, zz5, zz6]
  refine wpAnyH_take (i := 11) (v := ?_) rfl (by kernel_rfl) (by kernel_rfl) (by kernel_rfl) (fun _ _ _ h => h) (Or.inl ⟨by first | kernel_rfl | rfl, ?_⟩) (by assumption) ?_
  rotate_left
  · (intro wq hSw; (try dsimp only at hSw); (try simp (maxSteps := 2000000) only [zz1, zz2, zz3]); go_simp); try with_reducible rfl
  try simp (maxSteps := 2000000) only [zz1, zz2, zz3, Act.put, zz4, zz5, zz6]
  refine wpAnyH_take (i := 12) (v := ?_) rfl (by kernel_rfl) (by kernel_rfl) (by kernel_rfl) (fun _ _ _ h => h) (Or.inl ⟨by first | kernel_rfl | rfl, ?_⟩) (by assumption) ?_
  rotate_left
  · (intro wq hSw; (try dsimp only at hSw); (try simp (maxSteps := 2000000) only [zz1, zz2, zz3]); go_simp); try with_reducible rfl
  try simp (maxSteps := 2000000) only [zz1, zz2, zz3, Act.put, zz4, zz5, zz6]
  refine wpAnyH_ready (rs := [7]) (by kernel_rfl) (by simp) ?_
  refine AllReadyH.cons rfl (fun K hK => ?_) AllReadyH.nil
  try simp (maxSteps := 2000000) only [zz1, zz2, zz3]
  go_simp
  go_at_call 68
  refine (hnw _).mono ?_
  clear hnw
  rintro e w5 ⟨a, U, rfl, hA, hU, hb5⟩
  have bG5 := bGd.below hb5
  have s5 : w5.cell? ⟨q, 0, none⟩ = some (.int .i64 (k : Int)) ∧ w5.cell? ⟨q, 1, none⟩ = some (.int .i64 (m : Int)) ∧ w5.cell? ⟨q, 2, none⟩ = some (.int .i64 (n : Int)) := ⟨bG5.cell 0, bG5.cell 1, bG5.cell 2⟩
  have hw5 : Below w.heap.size w w5 := hd.trans (hb5.mono hd.size)
  have HA5 := Lib.hid hA
  have HU5 := Lib.hid hU
  clear hA hU
  try (go_wp2_with fail)
  refine hK.out _ _ (by first | exact s0 | exact s5 | exact s6 | exact s7) (fun hHeld => ?_)
  clear hK K
  try simp (maxSteps := 2000000) only [zz1, zz2, zz3, Act.put, zz4, zz5, zz6]
  refine wpAnyH_ready (rs := [8]) (by kernel_rfl) (by simp) ?_
  refine AllReadyH.cons rfl (fun K hK => ?_) AllReadyH.nil
  try simp (maxSteps := 2000000) only [zz1, zz2, zz3]
  go_simp
  go_at_call 30
  refine (hfn _).mono ?_
  clear hfn
  rintro e w6 ⟨rfl, hF, hb6⟩
  have bG6 := bG5.below hb6
  have s6 : w6.cell? ⟨q, 0, none⟩ = some (.int .i64 (k : Int)) ∧ w6.cell? ⟨q, 1, none⟩ = some (.int .i64 (m : Int)) ∧ w6.cell? ⟨q, 2, none⟩ = some (.int .i64 (n : Int)) := ⟨bG6.cell 0, bG6.cell 1, bG6.cell 2⟩
  have hw6 : Below w.heap.size w w6 := hw5.trans (hb6.mono hw5.size)
  have HF6 := Lib.hid hF
  clear hF
  try (go_wp2_with fail)
  refine hK.out _ _ (by first | exact s0 | exact s5 | exact s6 | exact s7) (fun hHeld => ?_)
  clear hK K
  try simp (maxSteps := 2000000) only [zz1, zz2, zz3, Act.put, zz4, zz5, zz6]
  refine wpAnyH_ready (rs := [13]) (by kernel_rfl) (by simp) ?_
  refine AllReadyH.cons rfl (fun K hK => ?_) AllReadyH.nil
  try simp (maxSteps := 2000000) only [zz1, zz2, zz3]
  go_simp
  go_at_call 29
  refine (hcn _ _ w5.heap.size HF6.out (Nat.le_refl _)).mono ?_
  clear hcn
  rintro e w7 ⟨cb, rfl, hC, hkp⟩
  have hk57 : Keep (fun j => w5.heap.size ≤ j) w5 w7 := (Keep.of_below (F := fun j => w5.heap.size ≤ j) hb6).trans hkp (fun j e _ => by rw [e]; exact Nat.le_refl _)
  have hb57 : Below w5.heap.size w5 w7 := hk57.below (Nat.le_refl _) (fun j h => h)
  have bG7 := bG5.below hb57
  have s7 : w7.cell? ⟨q, 0, none⟩ = some (.int .i64 (k : Int)) ∧ w7.cell? ⟨q, 1, none⟩ = some (.int .i64 (m : Int)) ∧ w7.cell? ⟨q, 2, none⟩ = some (.int .i64 (n : Int)) := ⟨bG7.cell 0, bG7.cell 1, bG7.cell 2⟩
  have hw7 : Below w.heap.size w w7 := hw5.trans (hb57.mono hw5.size)
  have HC7 := Lib.hid hC
  clear hC
  try (go_wp2_with fail)
  refine hK.out _ _ (by first | exact s0 | exact s5 | exact s6 | exact s7) (fun hHeld => ?_)
  clear hK K
  try simp (maxSteps := 2000000) only [zz1, zz2, zz3, Act.put, zz4, zz5, zz6]
  refine wpAnyH_take (i := 14) (v := ?_) rfl (by kernel_rfl) (by kernel_rfl) (by kernel_rfl) (fun _ _ _ h => h) (Or.inl ⟨by first | kernel_rfl | rfl, ?_⟩) (by assumption) ?_
  rotate_left
  · (intro wq hSw; (try dsimp only at hSw); (try simp (maxSteps := 2000000) only [zz1, zz2, zz3]); go_simp); try with_reducible rfl
  try simp (maxSteps := 2000000) only [zz1, zz2, zz3, Act.put, zz4, zz5, zz6]
  refine wpAnyH_take (i := 15) (v := ?_) rfl (by kernel_rfl) (by kernel_rfl) (by kernel_rfl) (fun _ _ _ h => h) (Or.inl ⟨by first | kernel_rfl | rfl, ?_⟩) (by assumption) ?_
  rotate_left
  · (intro wq hSw; (try dsimp only at hSw); (try simp (maxSteps := 2000000) only [zz1, zz2, zz3]); go_simp); try with_reducible rfl
  try simp (maxSteps := 2000000) only [zz1, zz2, zz3, Act.put, zz4, zz5, zz6]
  refine wpAnyH_done (by kernel_rfl) ?_ _
  have hsz0 : w.heap.size ≤ wA.drew.heap.size := hd.size
  have HFIN := Lib.hid (show SMid w0 w7 a cb w5.heap.size k m n (List.replicate N (DSt.new n)) from
    ⟨hbel.trans (hw7.mono hbel.size), ⟨U, fun j => w5.heap.size ≤ j ∧ j < w7.heap.size, HA5.out.below hb57, HC7.out.bound, fun j hj => by have h1 := HU5.out j hj; have h2 := hbel.size; omega, fun j hj => ⟨fun hu => by have := HA5.out.lt hu; omega, hj.2⟩⟩, by rw [List.length_replicate, HN.out], n1, n2⟩)
  have HB7 := Lib.hid hw7
  clear s0 s5 s6 s7 bG bGd bG5 bG6 bG7 hHeld hb5 hb6 hkp hk57 hb57 hw5 hw6 hw7 hd hb0
  go_wp2_with fail
  go_ret2
  exact ⟨a, cb, _, rfl, by rw [HN.out]; exact HFIN.out, HB7.out⟩
end Go.Proofs.YtcliejdiaohamaaGreat

set_option linter.unusedSimpArgs false
set_option linter.unusedVariables false
namespace Go.Proofs.YtcliejdiaohamaaGreat
open Go.RowKit Go.Cib
attribute [local go_sem] cell_set Later.cell Later.frozen Grw.cell Grw.frozen
def cntP (P : Nat → Bool) (N : Nat) : Nat := ((List.range N).filter P).length
def GotE (w : World) (k c len : Nat) (xs : List Nat) (e : Ending) (w' : World) : Prop := Below w.heap.size w w' ∧
  ((c < k ∧ e = .returned (.tuple #[.slice none 0 0, .int .i64 130])) ∨
   (k ≤ c ∧ ∃ A cp, e = .returned (.tuple #[.slice A len cp, .int .i64 0]) ∧ len ≤ cp ∧ RdL ByR 1 (fun j => w.heap.size ≤ j) w' A len xs))
section
variable {w0 w : World} {a cb bf k m n : Nat} {sts : List DSt} {r : Ref} {P : Nat → Bool} {xs : List Nat}
theorem std_whole (hP : ∀ i, i < k + m → stR sts k r i = if P i = true then some (shR r i xs.length (codeRow k 44 (splF 44 xs k k) i)) else none) : (wholeF (stR sts k r) (k + m)).1 = stdL P r xs.length (codeRow k 44 (splF 44 xs k k)) (k + m) ∧ (0 < cntP P (k + m) → (wholeF (stR sts k r) (k + m)).2 = xs.length) := by
  obtain ⟨h1, h2⟩ := whole_std hP (k + m) (Nat.le_refl _)
  refine ⟨h1, fun hc => h2 ?_⟩
  rw [h1, stdL_len]
  exact hc
theorem get_std (h : SMid w0 w a cb bf k m n sts) (hr : r.ok n) (hV : ∀ st ∈ sts, GoodV (st.seen r.place)) (hx : Byt xs) (hl : xs.length ≤ k * 44)
    (hP : ∀ i, i < k + m → stR sts k r i = if P i = true then some (shR r i xs.length (codeRow k 44 (splF 44 xs k k) i)) else none) :
    Calls Tryz.prog 111 #[.pointer (some ⟨a, 0, none⟩), .pointer (some ⟨cb, 0, none⟩), .agg (refC r)] w fun e w' => GotE w k (cntP P (k + m)) xs.length xs e w' := by
  refine (get_mid h hr (rdOk_of hV)).mono ?_
  obtain ⟨e1, e2⟩ := std_whole hP
  have hk1 := h.k1
  have hcl : (wholeF (stR sts k r) (k + m)).1.length = cntP P (k + m) := by rw [e1, stdL_len]; rfl
  rintro e w' ⟨hb, ⟨hc, rfl⟩ | ⟨hc, A, c, rfl, hcc, hr2⟩⟩
  · exact ⟨hb, .inl ⟨by rw [← hcl]; exact hc, rfl⟩⟩
  · rw [hcl] at hc
    have e3 := e2 (by omega)
    rw [e1, e3, stdL_rows] at hr2
    have hD := splF_shp (width := 44) hx k
    rw [out_std (m := m) hD (by omega) hk1 h.km (by unfold cntP at hc; omega) (by omega), allR_data hD, spl_pre k hl] at hr2
    rw [e3] at hcc
    exact ⟨hb, .inr ⟨by omega, A, c, by rw [e3], hcc, hr2⟩⟩
end
/-- What a drive is behind a Put. -/
def putQ (n k N : Nat) (r : Ref) (xs : List Nat) (d : Nat) (st : DSt) : DSt := wrG n r xs.length (fun _ => true) (codeRow k 44 (splF 44 xs k k)) N d st
def putX (k N : Nat) (r : Ref) (xs : List Nat) (d : Nat) : Shd := shR r (ixN N r.place d) xs.length (codeRow k 44 (splF 44 xs k k) (ixN N r.place d))
theorem row44 {xs : List Nat} (hx : Byt xs) (k i : Nat) : (codeRow k 44 (splF 44 xs k k) i).length = 44 ∧ Byt (codeRow k 44 (splF 44 xs k k) i) := codeRow_ok (splF_shp (width := 44) hx k) i
theorem shR_ok {r : Ref} {n : Nat} (hr : r.ok n) (hn : n ≤ 600) (hg : Hid (r.gen < 2 ^ 64)) {i size : Nat} (hi : i < 256) (hs : size < 65536) {row : List Nat} (hl : row.length = 44) (hb : Byt row) : (shR r i size row).ok :=
  ⟨by have := hr.k4; show r.kind < 256; omega, hi, by have := hr.p; show r.place < 65536; omega, hg.out, hs, hl, hb⟩
theorem putX_ok {r : Ref} {n k N : Nat} (hr : r.ok n) (hn : n ≤ 600) (hg : Hid (r.gen < 2 ^ 64)) {xs : List Nat} (hx : Byt xs) (hl : xs.length < 65536) (hN : 1 ≤ N) (hN2 : N ≤ 255) (d : Nat) : (putX k N r xs d).ok :=
  shR_ok hr hn hg (by have := ixN_lt (n := N) (p := r.place) (d := d) hN; omega) hl (row44 hx k _).1 (row44 hx k _).2
theorem putX_kind {r : Ref} {n k N : Nat} (hr : r.ok n) (xs : List Nat) (d : Nat) : kindB (putX k N r xs d).kind = true := decide_eq_true ⟨hr.k1, hr.k4⟩
theorem putQ_live {n k N d : Nat} {r : Ref} (hr : r.ok n) {xs : List Nat} (hx : Byt xs) {st : DSt} (h : st.dead = false) : putQ n k N r xs d st = st.write (r.place : Int) (wrI (putX k N r xs d)) := by
  unfold putQ wrG
  rw [if_pos rfl]
  exact wrDA_live h hr.p (wrI_len (x := putX k N r xs d) (row44 hx k _).1)
theorem putQ_dead {n k N d : Nat} {r : Ref} {xs : List Nat} {st : DSt} (h : st.dead = true) : putQ n k N r xs d st = st := by
  unfold putQ wrG
  rw [if_pos rfl, wrDA_dead h]
theorem putQ_cache {n k N d : Nat} {r : Ref} {xs : List Nat} {st : DSt} : (putQ n k N r xs d st).cache.length ≤ st.cache.length + 1 := by
  unfold putQ wrG
  rw [if_pos rfl]
  exact wrDA_cache _ _ _
def liveC (sts : List DSt) : Nat := cntP (fun d => !deadL sts d) sts.length
section
variable {w0 w : World} {a cb bf k m n : Nat} {sts : List DSt} {r : Ref} {xs : List Nat}
end
/-! ### Drives that are dead -/
def goneS (n : Nat) (l : List Int) (d : Nat) (st : DSt) : DSt := if (d : Int) ∈ l then DSt.gone n else st
theorem goneS_nil (n : Nat) (sts : List DSt) : sts.mapIdx (goneS n []) = sts := by
  apply List.ext_getElem?
  intro d
  rw [List.getElem?_mapIdx]
  cases sts[d]? with
  | none => rfl
  | some st => simp [goneS]
theorem failA_gone (n : Nat) (sts : List DSt) (l : List Int) (d : Int) : failA n (sts.mapIdx (goneS n l)) d = sts.mapIdx (goneS n (l ++ [d])) := by
  unfold failA
  rw [List.length_mapIdx]
  by_cases hd : 0 ≤ d ∧ d < sts.length
  · rw [if_pos hd]
    obtain ⟨j, rfl⟩ : ∃ j : Nat, d = (j : Int) := ⟨d.toNat, by omega⟩
    rw [Int.toNat_natCast]
    have hj : j < sts.length := by omega
    apply List.ext_getElem?
    intro i
    rw [List.getElem?_mapIdx]
    by_cases e : j = i
    · subst e
      rw [List.getElem?_set_self (by rw [List.length_mapIdx]; exact hj), List.getElem?_eq_getElem hj]
      unfold goneS
      simp
    · rw [List.getElem?_set_ne e, List.getElem?_mapIdx]
      cases sts[i]? with
      | none => rfl
      | some st =>
        unfold goneS
        have : ¬ ((i : Int) = (j : Int)) := by omega
        simp [this]
  · rw [if_neg hd]
    apply List.ext_getElem?
    intro i
    rw [List.getElem?_mapIdx, List.getElem?_mapIdx]
    cases hi : sts[i]? with
    | none => rfl
    | some st =>
      have hil := (List.getElem?_eq_some_iff.1 hi).1
      unfold goneS
      have : ¬ ((i : Int) = d) := by omega
      simp [this]
theorem gone_seen {n z : Nat} (hz : z < n) : (DSt.gone n).seen z = rep 0 := DSt.seen_new hz
end Go.Proofs.YtcliejdiaohamaaGreat

set_option linter.unusedSimpArgs false
set_option linter.unusedVariables false
namespace Go.Proofs.YtcliejdiaohamaaGreat
open Go.RowKit Go.Cib
attribute [local go_sem] cell_set Later.cell Later.frozen Grw.cell Grw.frozen
def HasS (k N : Nat) (r : Ref) (xs : List Nat) (d : Nat) (st : DSt) : Prop := st.dead = false ∧ st.seen r.place = wrI (putX k N r xs d)
def LostS (k : Nat) (r : Ref) (st : DSt) : Prop := GoodV (st.seen r.place) ∧ ∀ i, rdS st k r i = none
section
variable {sts : List DSt} {k N n : Nat} {r : Ref} {xs : List Nat} {g : Nat → Bool}
theorem view_of (hr : r.ok n) (hn : n ≤ 600) (hg : Hid (r.gen < 2 ^ 64)) (hx : Byt xs) (hk : k ≤ 255) (hl : xs.length ≤ k * 44) (hN : 1 ≤ N) (hN2 : N ≤ 255) (hlen : sts.length = N)
    (hc : ∀ d st, sts[d]? = some st → (g d = true ∧ HasS k N r xs d st) ∨ (g d = false ∧ LostS k r st)) :
    (∀ st ∈ sts, GoodV (st.seen r.place)) ∧ ∀ i, i < N → stR sts k r i = if g (homeN N r.place i) = true then some (shR r i xs.length (codeRow k 44 (splF 44 xs k k) i)) else none := by
  have hX := fun d => putX_ok (k := k) hr hn hg hx (by omega) hN hN2 d
  constructor
  · intro st hst
    obtain ⟨d, hd, rfl⟩ := List.mem_iff_getElem.1 hst
    rcases hc d _ (List.getElem?_eq_getElem hd) with ⟨_, h⟩ | ⟨_, h⟩
    · rw [h.2]; exact goodV_wr (hX d)
    · exact h.1
  · intro i hi
    have hlt : homeN N r.place i < sts.length := by rw [hlen]; exact homeN_lt hN
    have hst : sts[homeN sts.length r.place i]? = some sts[homeN N r.place i] := by rw [hlen]; exact List.getElem?_eq_getElem hlt
    rw [stR_at hst]
    rcases hc _ _ (List.getElem?_eq_getElem hlt) with ⟨h0, h⟩ | ⟨h0, h⟩
    · rw [if_pos h0, rdS_snc (hX _) (putX_kind hr xs _) h.2]
      have e : putX k N r xs (homeN N r.place i) = shR r i xs.length (codeRow k 44 (splF 44 xs k k) i) := by unfold putX; rw [ix_home hN hi]
      rw [e, if_pos ⟨h.1, isB_same r i _ _, hl⟩]
    · rw [if_neg (by rw [h0]; simp), h.2]
theorem lost_dead {st : DSt} (h : st.dead = true) (hv : GoodV (st.seen r.place)) : LostS k r st := ⟨hv, fun _ => rdS_dead h⟩
theorem lost_zero {st : DSt} (h : st.seen r.place = rep 0) : LostS k r st := ⟨by rw [h]; exact goodV_zero, fun _ => rdS_zero h⟩
/-- Another stripe's shard. -/
theorem lost_other {st : DSt} {q : Ref} {d : Nat} {ys : List Nat} (hx : (putX k N q ys d).ok) (hk : kindB q.kind = true) (hne : q.kind ≠ r.kind ∨ q.gen ≠ r.gen) (h : st.seen r.place = wrI (putX k N q ys d)) : LostS k r st := ⟨by rw [h]; exact goodV_wr hx, fun i => by
  rw [rdS_snc hx hk h, if_neg]
  intro h2
  unfold putX at h2
  rw [isB_other hne] at h2
  exact absurd h2.2.1 (by decide)⟩
theorem has_put {st : DSt} (hr : r.ok n) (hx : Byt xs) (h : st.dead = false) {d : Nat} : HasS k N r xs d (putQ n k N r xs d st) := by
  rw [putQ_live hr hx h]
  exact ⟨h, by rw [DSt.seen_write, if_pos rfl]⟩
end
section
variable {w0 w : World} {a cb bf k m n : Nat} {sts : List DSt} {r : Ref} {g : Nat → Bool} {xs : List Nat}
/-- Get, by which drives have their shard. -/
theorem get_view (h : SMid w0 w a cb bf k m n sts) (hr : r.ok n) (hg : Hid (r.gen < 2 ^ 64)) (hx : Byt xs) (hl : xs.length ≤ k * 44)
    (hc : ∀ d st, sts[d]? = some st → (g d = true ∧ HasS k (k + m) r xs d st) ∨ (g d = false ∧ LostS k r st)) :
    Calls Tryz.prog 111 #[.pointer (some ⟨a, 0, none⟩), .pointer (some ⟨cb, 0, none⟩), .agg (refC r)] w fun e w' => GotE w k (cntP g (k + m)) xs.length xs e w' := by
  have h1 := h.k1
  have h2 := h.km
  obtain ⟨v1, v2⟩ := view_of (N := k + m) hr h.n2 hg hx (by omega) hl (by omega) h2 h.len hc
  have h3 := get_std (P := fun i => g (homeN (k + m) r.place i)) h hr v1 hx hl v2
  have e : cntP (fun i => g (homeN (k + m) r.place i)) (k + m) = cntP g (k + m) := home_count (by omega) g
  rw [e] at h3
  exact h3
end
/-! ### Drives made, a stripe put, some dead -/
def newS (n N : Nat) : List DSt := List.replicate N (DSt.new n)
theorem newS_at {n N d : Nat} {st : DSt} (h : (newS n N)[d]? = some st) : st = DSt.new n ∧ d < N := by
  unfold newS at h
  rw [List.getElem?_replicate] at h
  split at h
  · rename_i h2; cases h; exact ⟨rfl, h2⟩
  · cases h
theorem mapIdx_at {f : Nat → DSt → DSt} {sts : List DSt} {d : Nat} {st : DSt} (h : (sts.mapIdx f)[d]? = some st) : ∃ s1, sts[d]? = some s1 ∧ st = f d s1 := by
  rw [List.getElem?_mapIdx] at h
  cases h1 : sts[d]? with
  | none => rw [h1] at h; cases h
  | some s1 => rw [h1] at h; exact ⟨s1, rfl, (Option.some.inj h).symm⟩
end Go.Proofs.YtcliejdiaohamaaGreat

set_option linter.unusedSimpArgs false
set_option linter.unusedVariables false
namespace Go.Proofs.YtcliejdiaohamaaGreat
open Go.RowKit Go.Cib
attribute [local go_sem] cell_set Later.cell Later.frozen Grw.cell Grw.frozen

section
variable {d bad : Bool} {n : Nat} {z off mask : Int}
end
end Go.Proofs.YtcliejdiaohamaaGreat

set_option linter.unusedSimpArgs false
set_option linter.unusedVariables false
namespace Go.Proofs.YtcliejdiaohamaaGreat
open Go.RowKit Go.Cib
attribute [local go_sem] cell_set Later.cell Later.frozen Grw.cell Grw.frozen
/-- As SMid, and none of X's blocks is the drives'. -/
def SMidX (X : Nat → Prop) (w0 w : World) (a cb bf k m n : Nat) (sts : List DSt) : Prop :=
  Below w0.heap.size w0 w ∧ (∃ U C, ArrAt U w a n sts ∧ CodF C w cb bf k m ∧ (∀ j, U j → w0.heap.size ≤ j) ∧ (∀ j, C j → ¬ U j ∧ j < w.heap.size) ∧ (∀ j, X j → ¬ U j ∧ j < w.heap.size)) ∧ sts.length = k + m ∧ 1 ≤ n ∧ n ≤ 600
/-- X's blocks are as they were. -/
def KpX (X : Nat → Prop) (w w' : World) : Prop := (∀ j, X j → w'.heap[j]? = w.heap[j]?) ∧ w.heap.size ≤ w'.heap.size
theorem KpX.refl {X : Nat → Prop} {w : World} : KpX X w w := ⟨fun _ _ => rfl, Nat.le_refl _⟩
theorem KpX.trans {X : Nat → Prop} {w w' w2 : World} (h : KpX X w w') (h2 : KpX X w' w2) : KpX X w w2 := ⟨fun j hj => (h2.1 j hj).trans (h.1 j hj), Nat.le_trans h.2 h2.2⟩
theorem KpX.mono {X Y : Nat → Prop} {w w' : World} (h : KpX X w w') (hy : ∀ j, Y j → X j) : KpX Y w w' := ⟨fun j hj => h.1 j (hy j hj), h.2⟩
theorem KpX.of_below {X : Nat → Prop} {w w' : World} (h : Below w.heap.size w w') (hx : ∀ j, X j → j < w.heap.size) : KpX X w w' := ⟨fun j hj => h.block j (hx j hj), h.size⟩
theorem KpX.box {X : Nat → Prop} {w w' : World} (h : KpX X w w') {b : Nat} {cs : Array Value} (hb : BoxAt w b cs) (hx : X b) : BoxAt w' b cs := hb.keep (h.1 b hx)
theorem KpX.rd {X : Nat → Prop} {w w' : World} (h : KpX X w w') {T : Type} {R : (Nat → Prop) → World → List Value → T → Prop} (hR : Stable R) {s : Nat} {S : Nat → Prop} {A : Option Addr} {g : Nat} {xs : List T} (r : RdL R s S w A g xs) (hx : ∀ j, S j → X j) : RdL R s S w' A g xs :=
  r.stable hR fun j hj _ => ⟨hj, h.1 j (hx j hj)⟩
section
variable {X Y : Nat → Prop} {w0 w w' : World} {a cb bf k m n : Nat} {sts : List DSt} {r : Ref}
theorem SMidX.mid (h : SMidX X w0 w a cb bf k m n sts) : SMid w0 w a cb bf k m n sts := by
  obtain ⟨hb, ⟨U, C, hA, hC, hU, hd, _⟩, hl, h1, h2⟩ := h
  exact ⟨hb, ⟨U, C, hA, hC, hU, hd⟩, hl, h1, h2⟩
theorem SMid.x0 (h : SMid w0 w a cb bf k m n sts) : SMidX (fun j => j < w0.heap.size) w0 w a cb bf k m n sts := by
  obtain ⟨U, C, hA, hC, hU, hd⟩ := h.ex
  exact ⟨h.bel, ⟨U, C, hA, hC, hU, hd, fun j hj => ⟨fun hu => by have := hU j hu; omega, Nat.lt_of_lt_of_le hj h.bel.size⟩⟩, h.len, h.n1, h.n2⟩
theorem SMidX.bel (h : SMidX X w0 w a cb bf k m n sts) : Below w0.heap.size w0 w := h.1
theorem SMidX.len (h : SMidX X w0 w a cb bf k m n sts) : sts.length = k + m := h.2.2.1
theorem SMidX.lt (h : SMidX X w0 w a cb bf k m n sts) {j : Nat} (hj : X j) : j < w.heap.size := by
  obtain ⟨_, ⟨U, C, _, _, _, _, hx⟩, _⟩ := h
  exact (hx j hj).2
theorem SMidX.sub (h : SMidX X w0 w a cb bf k m n sts) (hy : ∀ j, Y j → X j) : SMidX Y w0 w a cb bf k m n sts := by
  obtain ⟨hb, ⟨U, C, hA, hC, hU, hd, hx⟩, hl, h1, h2⟩ := h
  exact ⟨hb, ⟨U, C, hA, hC, hU, hd, fun j hj => hx j (hy j hj)⟩, hl, h1, h2⟩
/-- New blocks stay, too. -/
theorem SMidX.below (h : SMidX X w0 w a cb bf k m n sts) (hb : Below w.heap.size w w') : SMidX (fun j => X j ∨ (w.heap.size ≤ j ∧ j < w'.heap.size)) w0 w' a cb bf k m n sts := by
  obtain ⟨h0, ⟨U, C, hA, hC, hU, hd, hx⟩, hl, h1, h2⟩ := h
  refine ⟨h0.trans (hb.mono h0.size), ⟨U, C, hA.below hb, hC.below hb, hU, fun j hj => ⟨(hd j hj).1, Nat.lt_of_lt_of_le (hd j hj).2 hb.size⟩, fun j hj => ?_⟩, hl, h1, h2⟩
  rcases hj with hj | hj
  · exact ⟨(hx j hj).1, Nat.lt_of_lt_of_le (hx j hj).2 hb.size⟩
  · exact ⟨fun hu => by have := hA.lt hu; omega, hj.2⟩
theorem SMidX.below' (h : SMidX X w0 w a cb bf k m n sts) (hb : Below w.heap.size w w') : SMidX X w0 w' a cb bf k m n sts := (h.below hb).sub fun j hj => .inl hj
/-- A call that went on with the drives. -/
theorem SMidX.step {sts' : List DSt} {f : FuncId} {args : Array Value} {Q : Ending → World → Prop} (h : SMidX X w0 w a cb bf k m n sts) (hl : sts'.length = sts.length)
    (hc : ∀ U, ArrAt U w a n sts → (∀ j, U j → w0.heap.size ≤ j) → (∀ j, X j → ¬ U j ∧ j < w.heap.size) → Calls Tryz.prog f args w fun e w' => Q e w' ∧ AUpd U w w' a n sts') :
    Calls Tryz.prog f args w fun e w' => Q e w' ∧ SMidX X w0 w' a cb bf k m n sts' ∧ KpX X w w' := by
  obtain ⟨h0, ⟨U, C, hA, hC, hU, hd, hx⟩, hl0, h1, h2⟩ := h
  refine (hc U hA hU hx).mono ?_
  rintro e w' ⟨hq, U', hA', hU', hK⟩
  refine ⟨hq, ⟨h0.trans (hK.below h0.size hU), ⟨U', C, hA', hC.keep hK (fun j hj => (hd j hj).1), fun j hj => ?_, fun j hj => ⟨fun hu => (hd j hj).1 (hU' j hu (hd j hj).2), Nat.lt_of_lt_of_le (hd j hj).2 hK.size⟩, fun j hj => ⟨fun hu => (hx j hj).1 (hU' j hu (hx j hj).2), Nat.lt_of_lt_of_le (hx j hj).2 hK.size⟩⟩, by rw [hl, hl0], h1, h2⟩, fun j hj => hK.block j (hx j hj).2 (hx j hj).1, hK.size⟩
  by_cases hlt : j < w.heap.size
  · exact hU j (hU' j hj hlt)
  · have := h0.size; omega
theorem SMidX.cod (h : SMidX X w0 w a cb bf k m n sts) : CodAt w cb bf k m := h.mid.cod
theorem SMidX.pos (h : SMidX X w0 w a cb bf k m n sts) : 1 ≤ k ∧ 1 ≤ m ∧ k + m ≤ 255 ∧ 1 ≤ n ∧ n ≤ 600 := ⟨h.mid.k1, h.mid.m1, h.mid.km, h.2.2.2.1, h.2.2.2.2⟩
theorem put_x (h : SMidX X w0 w a cb bf k m n sts) (hr : r.ok n) (hg : Hid (r.gen < 2 ^ 64)) (hcl : ∀ st ∈ sts, st.cache.length < 900000)
    {A : Option Addr} {c len : Nat} {S : Nat → Prop} {xs : List Nat} (R : RdL ByR 1 S w A len xs) (hc : len ≤ c) (hlx : len ≤ k * 44) :
    Calls Tryz.prog 70 #[.pointer (some ⟨a, 0, none⟩), .pointer (some ⟨cb, 0, none⟩), .agg (refC r), .slice A len c] w fun e w' =>
      e = .returned (.tuple #[.int .i64 (liveC sts : Int), .int .i64 0]) ∧ SMidX X w0 w' a cb bf k m n (sts.mapIdx (putQ n k (k + m) r xs)) ∧ KpX X w w' := by
  have hp := h.pos
  have hN : 1 ≤ sts.length := by have := h.len; omega
  have hl := h.len
  have e2 : putQ n k sts.length r xs = wrG n r len (fun _ => true) (codeRow k 44 (splF 44 xs k k)) sts.length := by
    funext d st
    unfold putQ
    rw [R.1]
  refine h.step (Q := fun e _ => e = .returned (.tuple #[.int .i64 (liveC sts : Int), .int .i64 0])) (by simp) fun U hA _ _ => ?_
  refine (sput_any hA h.cod hl hr (by omega) hg hcl R hc hlx).mono ?_
  rintro e w' ⟨he, hu⟩
  rw [← hl, wrS_all hN] at he
  rw [← hl, wrS_map hN] at hu
  rw [← hl, e2]
  exact ⟨he, hu⟩
theorem fail_x (h : SMidX X w0 w a cb bf k m n sts) (d : Int) :
    Calls Tryz.prog 26 #[.pointer (some ⟨a, 0, none⟩), .int .i64 d] w fun e w' => e = .returned (.int .i64 (if 0 ≤ d ∧ d < sts.length then 0 else 2)) ∧ SMidX X w0 w' a cb bf k m n (failA n sts d) ∧ KpX X w w' :=
  h.step (Q := fun e _ => e = .returned (.int .i64 (if 0 ≤ d ∧ d < sts.length then 0 else 2))) (by unfold failA; split <;> simp) fun U hA _ _ => afail_any (Lib.hid hA) (by have := h.len; have := h.pos; omega) d
theorem flush_x (h : SMidX X w0 w a cb bf k m n sts) (hcl : ∀ st ∈ sts, st.cache.length < 1000000) :
    Calls Tryz.prog 23 #[.pointer (some ⟨a, 0, none⟩)] w fun e w' => e = .returned (.int .i64 (cnt (aliveL sts))) ∧ SMidX X w0 w' a cb bf k m n (sts.map flushG) ∧ KpX X w w' :=
  h.step (Q := fun e _ => e = .returned (.int .i64 (cnt (aliveL sts)))) (by simp) fun U hA _ _ => aflush_any (Lib.hid hA) (by have := h.len; have := h.pos; omega) (by have := h.len; have := h.pos; omega) (Lib.hid hcl)
theorem crash_x (h : SMidX X w0 w a cb bf k m n sts) (hcl : ∀ st ∈ sts, st.cache.length < 1000000) {S : Nat → Prop} {A : Option Addr} {g c : Nat} {ks : List (List Bool)} (R : RdL BoolsR 1 S w A g ks) (hS : ∀ j, S j → X j) :
    Calls Tryz.prog 25 #[.pointer (some ⟨a, 0, none⟩), .slice A g c] w fun e w' => e = .returned (.tuple #[]) ∧ SMidX X w0 w' a cb bf k m n (sts.mapIdx (crashG ks)) ∧ KpX X w w' :=
  h.step (Q := fun e _ => e = .returned (.tuple #[])) (by simp) fun U hA _ hx => acrash_any (Lib.hid hA) (by have := h.len; have := h.pos; omega) (by have := h.len; have := h.pos; omega) (Lib.hid hcl) (Lib.hid R) (fun j hj => hx j (hS j hj))
theorem dead_x (h : SMidX X w0 w a cb bf k m n sts) {d : Nat} {st : DSt} (hst : sts[d]? = some st) :
    Calls Tryz.prog 27 #[.pointer (some ⟨a, 0, none⟩), .int .i64 (d : Int)] w fun e w' => e = .returned (.bool st.dead) ∧ Below w.heap.size w w' := by
  obtain ⟨h0, ⟨U, C, ⟨v, Fs, ps, hA⟩, _⟩, _⟩ := h
  exact adead_in (Lib.hid hA) d hst
end
theorem RdL.bound {X : Type} {R : (Nat → Prop) → World → List Value → X → Prop} (hR : Stable R) {s : Nat} {S : Nat → Prop} {w : World} {A : Option Addr} {n : Nat} {xs : List X} (h : RdL R s S w A n xs) : RdL R s (fun j => S j ∧ j < w.heap.size) w A n xs := h.stable hR fun j hj hl => ⟨⟨hj, hl⟩, rfl⟩
theorem cache_new {n N : Nat} : ∀ st ∈ newS n N, st.cache.length < 900000 := fun st hst => by
  obtain ⟨d, hd, rfl⟩ := List.mem_iff_getElem.1 hst
  rw [(newS_at (List.getElem?_eq_getElem hd)).1]
  show ([] : List (Int × List Int)).length < 900000
  decide
end Go.Proofs.YtcliejdiaohamaaGreat

set_option linter.unusedSimpArgs false
set_option linter.unusedVariables false
namespace Go.Proofs.YtcliejdiaohamaaGreat
open Go.RowKit Go.Cib
attribute [local go_sem] cell_set Later.cell Later.frozen Grw.cell Grw.frozen
theorem cnt_put1 (p q : Nat → Bool) (a : Nat) : ∀ N, a < N → (∀ j, j ≠ a → q j = p j) → p a = false → q a = true → ((List.range N).filter q).length = ((List.range N).filter p).length + 1 := by
  have same : ∀ N, N ≤ a → (∀ j, j ≠ a → q j = p j) → (List.range N).filter q = (List.range N).filter p := fun N h hj => List.filter_congr fun x hx => hj x (by have := List.mem_range.1 hx; omega)
  intro N hN hj hp hq
  induction N with
  | zero => omega
  | succ N ih =>
    rw [List.range_succ, List.filter_append, List.filter_append, List.length_append, List.length_append]
    by_cases e : a = N
    · subst e
      rw [same a (Nat.le_refl _) hj, List.filter_cons_of_pos hq, List.filter_cons_of_neg (by rw [hp]; simp)]
      rfl
    · rw [ih (by omega)]
      have h1 := hj N (fun h => e h.symm)
      cases hb : p N with
      | true => rw [List.filter_cons_of_pos (by rw [h1]; exact hb), List.filter_cons_of_pos hb, List.filter_nil, List.filter_nil]; exact Nat.add_right_comm ..
      | false => rw [List.filter_cons_of_neg (by rw [h1, hb]; simp), List.filter_cons_of_neg (by rw [hb]; simp), List.filter_nil, List.filter_nil]; exact Nat.add_right_comm ..
def leftB (D : List Int) (d : Nat) : Bool := decide ((d : Int) ∉ D)
theorem leftB_iff {D : List Int} {d : Nat} : leftB D d = true ↔ (d : Int) ∉ D := by unfold leftB; simp
theorem leftB_no {D : List Int} {d : Nat} : leftB D d = false ↔ (d : Int) ∈ D := by unfold leftB; simp
theorem cntP_congr {p q : Nat → Bool} {n : Nat} (h : ∀ d, d < n → p d = q d) : cntP p n = cntP q n := by
  unfold cntP
  rw [List.filter_congr fun x hx => h x (List.mem_range.1 hx)]
theorem cntP_none (n : Nat) : cntP (fun _ => false) n = 0 := by unfold cntP; rw [List.filter_eq_nil_iff.2 (fun a _ => by decide)]; rfl
theorem cntP_all (n : Nat) : cntP (fun _ => true) n = n := by unfold cntP; rw [List.filter_eq_self.2 (fun a _ => rfl), List.length_range]
/-- As list of drives: those in the list died. -/
theorem goneS_at {n d : Nat} {sts : List DSt} {l : List Int} {st : DSt} (h : (sts.mapIdx (goneS n l))[d]? = some st) : ((d : Int) ∈ l ∧ st = DSt.gone n) ∨ ((d : Int) ∉ l ∧ sts[d]? = some st) := by
  obtain ⟨s1, h1, rfl⟩ := mapIdx_at h
  unfold goneS
  by_cases hl : (d : Int) ∈ l
  · rw [if_pos hl]; exact .inl ⟨hl, rfl⟩
  · rw [if_neg hl]; exact .inr ⟨hl, h1⟩
theorem goneS_next {n : Nat} {sts : List DSt} {l : List Int} {i : Nat} {x : Int} (hx : l[i]? = some x) : failA n (sts.mapIdx (goneS n (l.take i))) x = sts.mapIdx (goneS n (l.take (i + 1))) := by
  rw [failA_gone, List.take_add_one, hx]; rfl
theorem lost_gone {k n : Nat} {r : Ref} (hr : r.ok n) : LostS k r (DSt.gone n) := lost_zero (gone_seen hr.p)
end Go.Proofs.YtcliejdiaohamaaGreat

set_option linter.unusedSimpArgs false
set_option linter.unusedVariables false
namespace Go.Proofs.YtcliejdiaohamaaGreat
open Go.RowKit Go.Cib
attribute [local go_sem] cell_set Later.cell Later.frozen Grw.cell Grw.frozen
/-- What became of a drive. -/
def HurtD (n z : Nat) (st st' : DSt) : Prop := st' = DSt.gone n ∨ ∃ off mask : Nat, off ≤ 60 ∧ mask ≠ 0 ∧ mask < 4294967296 ∧ st.dead = false ∧ st' = st.rot z off (mask : Int)
structure HurtS (n z : Nat) (sts : List DSt) (D : List Int) (sts' : List DSt) : Prop where
  len : sts'.length = sts.length
  all : ∀ (d : Nat) st st', sts[d]? = some st → sts'[d]? = some st' → ((d : Int) ∉ D ∧ st' = st) ∨ ((d : Int) ∈ D ∧ HurtD n z st st')
theorem HurtS.none (n z : Nat) (sts : List DSt) : HurtS n z sts [] sts := ⟨rfl, fun d st st' h h' => .inl ⟨by simp, (Option.some.inj (h.symm.trans h')).symm⟩⟩
theorem HurtS.at {n z : Nat} {sts sts' : List DSt} {D : List Int} (h : HurtS n z sts D sts') {x : Int} (hx : 0 ≤ x ∧ x < (sts.length : Int)) (hn : x ∉ D) : ∃ st, sts[x.toNat]? = some st ∧ sts'[x.toNat]? = some st := by
  have h1 : x.toNat < sts.length := by omega
  refine ⟨sts[x.toNat], List.getElem?_eq_getElem h1, ?_⟩
  have h2 : x.toNat < sts'.length := by rw [h.len]; exact h1
  rw [List.getElem?_eq_getElem h2]
  rcases h.all x.toNat _ _ (List.getElem?_eq_getElem h1) (List.getElem?_eq_getElem h2) with ⟨_, e⟩ | ⟨hd, _⟩
  · rw [e]
  · rw [show ((x.toNat : Nat) : Int) = x by omega] at hd
    exact absurd hd hn
theorem HurtS.next {n z : Nat} {sts sts' : List DSt} {D : List Int} (h : HurtS n z sts D sts') {x : Int} (hx : 0 ≤ x ∧ x < (sts.length : Int)) (hn : x ∉ D) {st st' : DSt} (hst : sts[x.toNat]? = some st) (hd : HurtD n z st st') : HurtS n z sts (D ++ [x]) (sts'.set x.toNat st') := by
  refine ⟨by rw [List.length_set, h.len], fun d s s' h1 h2 => ?_⟩
  by_cases e : x.toNat = d
  · subst e
    rw [List.getElem?_set_self (by rw [h.len]; omega)] at h2
    cases h2
    have : s = st := Option.some.inj (h1.symm.trans hst)
    subst this
    exact .inr ⟨by rw [show ((x.toNat : Nat) : Int) = x by omega]; simp, hd⟩
  · rw [List.getElem?_set_ne e] at h2
    rcases h.all d s s' h1 h2 with ⟨a, b⟩ | ⟨a, b⟩
    · exact .inl ⟨by simp [a]; omega, b⟩
    · exact .inr ⟨by simp [a], b⟩
end Go.Proofs.YtcliejdiaohamaaGreat

set_option linter.unusedSimpArgs false
set_option linter.unusedVariables false
namespace Go.Proofs.YtcliejdiaohamaaGreat
open Go.RowKit Go.Cib
attribute [local go_sem] cell_set Later.cell Later.frozen Grw.cell Grw.frozen
theorem small_nat {k m s : Int} (h : smallB k m s = true) : ∃ k' m' s' : Nat, k = k' ∧ m = m' ∧ s = s' ∧ 1 ≤ k' ∧ 1 ≤ m' ∧ k' + m' ≤ 10 ∧ 1 ≤ s' ∧ s' ≤ 8 := by
  have := of_decide_eq_true h
  exact ⟨k.toNat, m.toNat, s.toNat, by omega, by omega, by omega, by omega, by omega, by omega, by omega, by omega⟩
end Go.Proofs.YtcliejdiaohamaaGreat

set_option linter.unusedSimpArgs false
set_option linter.unusedVariables false
namespace Go.Proofs.YtcliejdiaohamaaGreat
open Go.RowKit Go.Cib
attribute [local go_sem] cell_set Later.cell Later.frozen Grw.cell Grw.frozen
theorem cnt_live {sts : List DSt} (h : ∀ st ∈ sts, st.dead = false) : cnt (aliveL sts) = sts.length := by
  induction sts with
  | nil => rfl
  | cons s l ih =>
    have h1 := h s (List.mem_cons_self ..)
    have h2 := ih fun st hst => h st (List.mem_cons_of_mem _ hst)
    unfold aliveL cnt at h2 ⊢
    simp only [List.map_cons, h1, Bool.not_false]
    rw [List.count_cons_self, List.length_cons, h2]
theorem filter_mono {α : Type} {p q : α → Bool} (h : ∀ x, p x = true → q x = true) : ∀ l : List α, (l.filter p).length ≤ (l.filter q).length
  | [] => Nat.le_refl _
  | x :: l => by
    have ih := filter_mono h l
    cases hp : p x with
    | true => rw [List.filter_cons_of_pos hp, List.filter_cons_of_pos (h x hp), List.length_cons, List.length_cons]; omega
    | false =>
      rw [List.filter_cons_of_neg (by rw [hp]; decide)]
      cases hq : q x with
      | true => rw [List.filter_cons_of_pos hq, List.length_cons]; omega
      | false => rw [List.filter_cons_of_neg (by rw [hq]; decide)]; exact ih
end Go.Proofs.YtcliejdiaohamaaGreat

set_option linter.unusedSimpArgs false
set_option linter.unusedVariables false
namespace Go.Proofs.YtcliejdiaohamaaGreat
open Go.RowKit Go.Cib
attribute [local go_sem] cell_set Later.cell Later.frozen Grw.cell Grw.frozen
/-! ### Drives that are flushed, replaced, mended -/
end Go.Proofs.YtcliejdiaohamaaGreat

set_option linter.unusedSimpArgs false
set_option linter.unusedVariables false
namespace Go.Proofs.YtcliejdiaohamaaGreat
open Go.RowKit Go.Cib
attribute [local go_sem] cell_set Later.cell Later.frozen Grw.cell Grw.frozen
/-- Which drives have their shard of a stripe; the others lost it. -/
def Hds (g : Nat → Bool) (k N : Nat) (r : Ref) (xs : List Nat) (sts : List DSt) : Prop := ∀ (d : Nat) (st : DSt), sts[d]? = some st → (g d = true ∧ HasS k N r xs d st) ∨ (g d = false ∧ LostS k r st)
theorem Hds.congr {g g' : Nat → Bool} {k N : Nat} {r : Ref} {xs : List Nat} {sts : List DSt} (h : Hds g k N r xs sts) (hg : ∀ d, d < sts.length → g' d = g d) : Hds g' k N r xs sts := fun d st hd => by
  rw [hg d (List.getElem?_eq_some_iff.1 hd).1]
  exact h d st hd
theorem lost_seen {k : Nat} {r : Ref} {st st' : DSt} (h : LostS k r st) (hs : st'.seen r.place = st.seen r.place) (hd : st'.dead = st.dead) : LostS k r st' := by
  refine ⟨by rw [hs]; exact h.1, fun i => ?_⟩
  have h2 := h.2 i
  unfold rdS secN at h2 ⊢
  rw [hs, hd]
  exact h2
/-- A place that isn't touched. -/
theorem Hds.map {g : Nat → Bool} {k N : Nat} {r : Ref} {xs : List Nat} {sts : List DSt} (h : Hds g k N r xs sts) {f : Nat → DSt → DSt} (hs : ∀ d st, sts[d]? = some st → (f d st).seen r.place = st.seen r.place ∧ (f d st).dead = st.dead) : Hds g k N r xs (sts.mapIdx f) := fun d st hd => by
  obtain ⟨s1, h1, rfl⟩ := mapIdx_at hd
  obtain ⟨a, b⟩ := hs d s1 h1
  rcases h d s1 h1 with ⟨e, x, y⟩ | ⟨e, x⟩
  · exact .inl ⟨e, by rw [b]; exact x, by rw [a]; exact y⟩
  · exact .inr ⟨e, lost_seen x a b⟩
theorem Hds.put {g : Nat → Bool} {n k N : Nat} {r q : Ref} {xs ys : List Nat} {sts : List DSt} (h : Hds g k N r xs sts) (hq : q.ok n) (hy : Byt ys) (hne : q.place ≠ r.place) {M : Nat} : Hds g k N r xs (sts.mapIdx (putQ n k M q ys)) :=
  h.map fun d st _ => by
    cases hd : st.dead with
    | true => rw [putQ_dead hd]; exact ⟨rfl, hd⟩
    | false =>
      rw [putQ_live hq hy hd]
      exact ⟨by rw [DSt.seen_write, if_neg (by omega)], hd⟩
/-- What was just put: those drives have it that live. -/
theorem Hds.new {n k N : Nat} {r : Ref} {xs : List Nat} {sts : List DSt} (hr : r.ok n) (hx : Byt xs) (hv : ∀ st ∈ sts, st.dead = true → GoodV (st.seen r.place)) : Hds (fun d => !deadL sts d) k N r xs (sts.mapIdx (putQ n k N r xs)) := fun d st hd => by
  obtain ⟨s1, h1, rfl⟩ := mapIdx_at hd
  have e : deadL sts d = s1.dead := by unfold deadL; rw [h1]; rfl
  dsimp only
  rw [e]
  cases hdd : s1.dead with
  | true => exact .inr ⟨rfl, by rw [putQ_dead hdd]; exact lost_dead hdd (hv s1 (List.mem_of_getElem? h1) hdd)⟩
  | false => exact .inl ⟨rfl, has_put hr hx hdd⟩
theorem Hds.set {g g' : Nat → Bool} {k N : Nat} {r : Ref} {xs : List Nat} {sts : List DSt} (h : Hds g k N r xs sts) {x : Nat} {st' : DSt} (hg : ∀ d, d ≠ x → g' d = g d) (hx : x < sts.length → (g' x = true ∧ HasS k N r xs x st') ∨ (g' x = false ∧ LostS k r st')) : Hds g' k N r xs (sts.set x st') := fun d st hd => by
  by_cases e : x = d
  · subst e
    have hl := (List.getElem?_eq_some_iff.1 hd).1
    rw [List.length_set] at hl
    rw [List.getElem?_set_self hl] at hd
    obtain rfl := Option.some.inj hd
    exact hx hl
  · rw [List.getElem?_set_ne e] at hd
    rw [hg d (fun h => e h.symm)]
    exact h d st hd
def butB (g : Nat → Bool) (x : Int) (d : Nat) : Bool := g d && !decide ((d : Int) = x)
theorem Hds.fail {g : Nat → Bool} {n k N : Nat} {r : Ref} {xs : List Nat} {sts : List DSt} (h : Hds g k N r xs sts) (hr : r.ok n) (x : Int) : Hds (butB g x) k N r xs (failA n sts x) := by
  unfold failA
  split
  · rename_i hx
    refine h.set (fun d hd => ?_) fun hl => .inr ⟨?_, lost_gone hr⟩
    · unfold butB
      rw [decide_eq_false (by omega)]; simp
    · unfold butB
      rw [decide_eq_true (by omega)]; simp
  · rename_i hx
    refine h.congr fun d hd => ?_
    unfold butB
    rw [decide_eq_false (by omega)]; simp
/-- One more is missing at most. -/
theorem but_cnt (g : Nat → Bool) (x : Int) (N : Nat) : cntP g N ≤ cntP (butB g x) N + 1 ∧ cntP (butB g x) N ≤ cntP g N := by
  constructor
  · by_cases hx : 0 ≤ x ∧ x < (N : Int)
    · cases hg : g x.toNat with
      | true =>
        have h := cnt_put1 (butB g x) g x.toNat N (by omega) (fun j hj => by unfold butB; rw [decide_eq_false (by omega)]; simp) (by unfold butB; rw [decide_eq_true (by omega)]; simp) hg
        unfold cntP
        omega
      | false =>
        have h : cntP (butB g x) N = cntP g N := cntP_congr fun d hd => by
          unfold butB
          by_cases e : (d : Int) = x
          · have : d = x.toNat := by omega
            rw [this, hg]; rfl
          · rw [decide_eq_false e]; simp
        omega
    · have h : cntP (butB g x) N = cntP g N := cntP_congr fun d hd => by unfold butB; rw [decide_eq_false (by omega)]; simp
      omega
  · exact filter_mono (fun d hd => by unfold butB at hd; simp at hd; exact hd.1) _
end Go.Proofs.YtcliejdiaohamaaGreat

set_option linter.unusedSimpArgs false
set_option linter.unusedVariables false
namespace Go.Proofs.YtcliejdiaohamaaGreat
open Go.RowKit Go.Cib
attribute [local go_sem] cell_set Later.cell Later.frozen Grw.cell Grw.frozen
/-- As SMidX; P's blocks are the pool's: no drive's, not the coder's. -/
def MidP (P X : Nat → Prop) (w0 w : World) (a cb bf k m n : Nat) (sts : List DSt) : Prop :=
  Below w0.heap.size w0 w ∧ (∃ U C, ArrAt U w a n sts ∧ CodF C w cb bf k m ∧ (∀ j, U j → w0.heap.size ≤ j) ∧ (∀ j, C j → ¬ U j ∧ j < w.heap.size) ∧ (∀ j, X j → ¬ U j ∧ ¬ C j ∧ j < w.heap.size) ∧ (∀ j, P j → ¬ U j ∧ ¬ C j ∧ j < w.heap.size ∧ w0.heap.size ≤ j)) ∧ (∀ j, P j → ¬ X j) ∧ sts.length = k + m ∧ 1 ≤ n ∧ n ≤ 600
section
variable {P X Y : Nat → Prop} {w0 w w' : World} {a cb bf k m n : Nat} {sts : List DSt} {r : Ref}
theorem MidP.x (h : MidP P X w0 w a cb bf k m n sts) : SMidX X w0 w a cb bf k m n sts := by
  obtain ⟨h0, ⟨U, C, hA, hC, hU, hd, hx, hp⟩, hpx, hl, h1, h2⟩ := h
  exact ⟨h0, ⟨U, C, hA, hC, hU, hd, fun j hj => ⟨(hx j hj).1, (hx j hj).2.2⟩⟩, hl, h1, h2⟩
theorem MidP.mid (h : MidP P X w0 w a cb bf k m n sts) : SMid w0 w a cb bf k m n sts := h.x.mid
theorem MidP.bel (h : MidP P X w0 w a cb bf k m n sts) : Below w0.heap.size w0 w := h.1
theorem MidP.len (h : MidP P X w0 w a cb bf k m n sts) : sts.length = k + m := h.2.2.2.1
theorem MidP.pos (h : MidP P X w0 w a cb bf k m n sts) : 1 ≤ k ∧ 1 ≤ m ∧ k + m ≤ 255 ∧ 1 ≤ n ∧ n ≤ 600 := h.x.pos
theorem MidP.cod (h : MidP P X w0 w a cb bf k m n sts) : CodAt w cb bf k m := h.mid.cod
theorem MidP.lt (h : MidP P X w0 w a cb bf k m n sts) {j : Nat} (hj : X j) : j < w.heap.size := h.x.lt hj
theorem MidP.sub (h : MidP P X w0 w a cb bf k m n sts) (hy : ∀ j, Y j → X j) : MidP P Y w0 w a cb bf k m n sts := by
  obtain ⟨h0, ⟨U, C, hA, hC, hU, hd, hx, hp⟩, hpx, hl, h1, h2⟩ := h
  exact ⟨h0, ⟨U, C, hA, hC, hU, hd, fun j hj => hx j (hy j hj), hp⟩, fun j hj hjy => hpx j hj (hy j hjy), hl, h1, h2⟩
theorem MidP.below (h : MidP P X w0 w a cb bf k m n sts) (hb : Below w.heap.size w w') : MidP P (fun j => X j ∨ (w.heap.size ≤ j ∧ j < w'.heap.size)) w0 w' a cb bf k m n sts := by
  obtain ⟨h0, ⟨U, C, hA, hC, hU, hd, hx, hp⟩, hpx, hl, h1, h2⟩ := h
  refine ⟨h0.trans (hb.mono h0.size), ⟨U, C, hA.below hb, hC.below hb, hU, fun j hj => ⟨(hd j hj).1, Nat.lt_of_lt_of_le (hd j hj).2 hb.size⟩, fun j hj => ?_, fun j hj => ⟨(hp j hj).1, (hp j hj).2.1, Nat.lt_of_lt_of_le (hp j hj).2.2.1 hb.size, (hp j hj).2.2.2⟩⟩, fun j hj hx2 => ?_, hl, h1, h2⟩
  · rcases hj with hj | hj
    · exact ⟨(hx j hj).1, (hx j hj).2.1, Nat.lt_of_lt_of_le (hx j hj).2.2 hb.size⟩
    · exact ⟨fun hu => by have := hA.lt hu; omega, fun hc => by have := (hd j hc).2; omega, hj.2⟩
  · rcases hx2 with hx2 | hx2
    · exact hpx j hj hx2
    · have := (hp j hj).2.2.1; omega
theorem MidP.below' (h : MidP P X w0 w a cb bf k m n sts) (hb : Below w.heap.size w w') : MidP P X w0 w' a cb bf k m n sts := (h.below hb).sub fun j hj => .inl hj
/-- The pool went on. -/
theorem MidP.pool (h : MidP P X w0 w a cb bf k m n sts) (hK : Keep P w w') : MidP P X w0 w' a cb bf k m n sts ∧ KpX X w w' := by
  obtain ⟨h0, ⟨U, C, hA, hC, hU, hd, hx, hp⟩, hpx, hl, h1, h2⟩ := h
  have hs := hK.size
  exact ⟨⟨h0.trans (hK.below h0.size (fun j hj => (hp j hj).2.2.2)), ⟨U, C, hA.keep hK (fun j hj hp2 => (hp j hp2).1 hj), hC.keep hK (fun j hj hp2 => (hp j hp2).2.1 hj), hU, fun j hj => ⟨(hd j hj).1, Nat.lt_of_lt_of_le (hd j hj).2 hs⟩, fun j hj => ⟨(hx j hj).1, (hx j hj).2.1, Nat.lt_of_lt_of_le (hx j hj).2.2 hs⟩, fun j hj => ⟨(hp j hj).1, (hp j hj).2.1, Nat.lt_of_lt_of_le (hp j hj).2.2.1 hs, (hp j hj).2.2.2⟩⟩, hpx, hl, h1, h2⟩, fun j hj => hK.block j (hx j hj).2.2 (fun hp2 => hpx j hp2 hj), hs⟩
/-- A block of X's is written. -/
theorem MidP.own {F : Nat → Prop} (h : MidP P X w0 w a cb bf k m n sts) (hK : Keep F w w') (hF : ∀ j, F j → X j ∧ w0.heap.size ≤ j) : MidP P X w0 w' a cb bf k m n sts := by
  obtain ⟨h0, ⟨U, C, hA, hC, hU, hd, hx, hp⟩, hpx, hl, h1, h2⟩ := h
  have hs := hK.size
  exact ⟨h0.trans (hK.below h0.size (fun j hj => (hF j hj).2)), ⟨U, C, hA.keep hK (fun j hj hf => (hx j (hF j hf).1).1 hj), hC.keep hK (fun j hj hf => (hx j (hF j hf).1).2.1 hj), hU, fun j hj => ⟨(hd j hj).1, Nat.lt_of_lt_of_le (hd j hj).2 hs⟩, fun j hj => ⟨(hx j hj).1, (hx j hj).2.1, Nat.lt_of_lt_of_le (hx j hj).2.2 hs⟩, fun j hj => ⟨(hp j hj).1, (hp j hj).2.1, Nat.lt_of_lt_of_le (hp j hj).2.2.1 hs, (hp j hj).2.2.2⟩⟩, hpx, hl, h1, h2⟩
/-- A call that went on with the drives. -/
theorem MidP.step {sts' : List DSt} {f : FuncId} {args : Array Value} {Q : Ending → World → Prop} (h : MidP P X w0 w a cb bf k m n sts) (hl : sts'.length = sts.length)
    (hc : ∀ U, ArrAt U w a n sts → (∀ j, U j → w0.heap.size ≤ j) → (∀ j, X j → ¬ U j ∧ j < w.heap.size) → Calls Tryz.prog f args w fun e w' => Q e w' ∧ AUpd U w w' a n sts') :
    Calls Tryz.prog f args w fun e w' => Q e w' ∧ MidP P X w0 w' a cb bf k m n sts' ∧ KpX (fun j => X j ∨ P j) w w' := by
  obtain ⟨h0, ⟨U, C, hA, hC, hU, hd, hx, hp⟩, hpx, hl0, h1, h2⟩ := h
  refine (hc U hA hU (fun j hj => ⟨(hx j hj).1, (hx j hj).2.2⟩)).mono ?_
  rintro e w' ⟨hq, U', hA', hU', hK⟩
  refine ⟨hq, ⟨h0.trans (hK.below h0.size hU), ⟨U', C, hA', hC.keep hK (fun j hj => (hd j hj).1), fun j hj => ?_, fun j hj => ⟨fun hu => (hd j hj).1 (hU' j hu (hd j hj).2), Nat.lt_of_lt_of_le (hd j hj).2 hK.size⟩, fun j hj => ⟨fun hu => (hx j hj).1 (hU' j hu (hx j hj).2.2), (hx j hj).2.1, Nat.lt_of_lt_of_le (hx j hj).2.2 hK.size⟩, fun j hj => ⟨fun hu => (hp j hj).1 (hU' j hu (hp j hj).2.2.1), (hp j hj).2.1, Nat.lt_of_lt_of_le (hp j hj).2.2.1 hK.size, (hp j hj).2.2.2⟩⟩, hpx, by rw [hl, hl0], h1, h2⟩, fun j hj => ?_, hK.size⟩
  · by_cases hlt : j < w.heap.size
    · exact hU j (hU' j hj hlt)
    · have := h0.size; omega
  · rcases hj with hj | hj
    · exact hK.block j (hx j hj).2.2 (hx j hj).1
    · exact hK.block j (hp j hj).2.2.1 (hp j hj).1
end
end Go.Proofs.YtcliejdiaohamaaGreat

set_option linter.unusedSimpArgs false
set_option linter.unusedVariables false
namespace Go.Proofs.YtcliejdiaohamaaGreat
open Go.RowKit Go.Cib
attribute [local go_sem] cell_set Later.cell Later.frozen Grw.cell Grw.frozen
def pop : Nat → Nat
  | 0 => 0
  | n + 1 => (n + 1) % 2 + pop ((n + 1) / 2)
theorem pop_zero : pop 0 = 0 := by unfold pop; rfl
theorem pop_eq (n : Nat) : pop n = n % 2 + pop (n / 2) := by
  cases n with
  | zero => rw [Nat.zero_mod, Nat.zero_div, pop_zero]
  | succ n => rw [pop]
theorem and_odd (a b : Nat) : (2 * a) &&& (2 * b + 1) = 2 * (a &&& b) := by
  apply Nat.eq_of_testBit_eq
  intro i
  rw [Nat.testBit_and]
  cases i with
  | zero => simp [Nat.testBit_zero, Nat.mul_mod_right]
  | succ i =>
    rw [Nat.testBit_succ, Nat.testBit_succ, Nat.testBit_succ, Nat.mul_div_cancel_left _ (by omega), Nat.mul_div_cancel_left _ (by omega), show (2 * b + 1) / 2 = b by omega, Nat.testBit_and]
theorem odd_and (a b : Nat) : (2 * a + 1) &&& (2 * b) = 2 * (a &&& b) := by rw [Nat.and_comm, and_odd, Nat.and_comm]
/-- One bit less. -/
theorem pop_clear : ∀ n, 0 < n → pop (n &&& (n - 1)) + 1 = pop n
  | n, hn => by
    have ih := fun m (h : m < n) (h0 : 0 < m) => pop_clear m h0
    obtain ⟨q, h | h⟩ : ∃ q, n = 2 * q ∨ n = 2 * q + 1 := ⟨n / 2, by omega⟩
    · subst h
      have hq : 0 < q := by omega
      rw [show 2 * q - 1 = 2 * (q - 1) + 1 by omega, and_odd, pop_eq (2 * (q &&& (q - 1))), Nat.mul_mod_right, Nat.mul_div_cancel_left _ (by omega), pop_eq (2 * q), Nat.mul_mod_right, Nat.mul_div_cancel_left _ (by omega), Nat.zero_add, Nat.zero_add]
      exact ih q (by omega) hq
    · subst h
      rw [show 2 * q + 1 - 1 = 2 * q by omega, odd_and, Nat.and_self, pop_eq (2 * q), Nat.mul_mod_right, Nat.mul_div_cancel_left _ (by omega), pop_eq (2 * q + 1), show (2 * q + 1) / 2 = q by omega, show (2 * q + 1) % 2 = 1 by omega]
      omega
termination_by n => n
theorem clear_le (n : Nat) (h : 0 < n) : n &&& (n - 1) < n := by
  have := Nat.and_le_right (n := n) (m := n - 1)
  omega
/-- As many as bits below s. -/
def bitsN (n s : Nat) : Nat := ((List.range s).filter fun i => n.testBit i).length
theorem bitsN_succ (n s : Nat) : bitsN n (s + 1) = n % 2 + bitsN (n / 2) s := by
  unfold bitsN
  rw [List.range_succ_eq_map, List.filter_cons]
  have h1 : ((List.map Nat.succ (List.range s)).filter fun i => n.testBit i).length = ((List.range s).filter fun i => (n / 2).testBit i).length := by
    rw [List.filter_map, List.length_map]
    congr 1
    refine List.filter_congr fun i _ => ?_
    show n.testBit (i + 1) = _
    rw [Nat.testBit_succ]
  rw [← h1, Nat.testBit_zero]
  by_cases h : n % 2 = 1
  · rw [if_pos (by simp [h]), List.length_cons, h]; omega
  · rw [if_neg (by simp [h]), show n % 2 = 0 by omega, Nat.zero_add]
theorem pop_bits : ∀ (s n : Nat), n < 2 ^ s → pop n = bitsN n s
  | 0, n, h => by
    have : n = 0 := by simpa using h
    subst this; rw [pop_zero]; rfl
  | s + 1, n, h => by
    rw [bitsN_succ, pop_eq, pop_bits s (n / 2) (by rw [Nat.pow_succ] at h; omega)]
end Go.Proofs.YtcliejdiaohamaaGreat

set_option linter.unusedSimpArgs false
set_option linter.unusedVariables false
namespace Go.Proofs.YtcliejdiaohamaaGreat
open Go.RowKit Go.Cib
attribute [local go_sem] cell_set Later.cell Later.frozen Grw.cell Grw.frozen
def wd (ws : List Nat) (j : Nat) : Nat := ws.getD j 0
/-- Is a place taken? -/
def tk (ws : List Nat) (i : Nat) : Bool := (wd ws (i / 64)).testBit (i % 64)
structure WordsOk (n : Nat) (ws : List Nat) : Prop where
  len : ws.length = (n + 63) / 64
  lt : ∀ v ∈ ws, v < 2 ^ 64
  out : ∀ i, n ≤ i → tk ws i = false
theorem wd_lt {n : Nat} {ws : List Nat} (h : WordsOk n ws) (j : Nat) : wd ws j < 2 ^ 64 := by
  unfold wd
  rw [List.getD_eq_getElem?_getD]
  cases e : ws[j]? with
  | none => exact Nat.two_pow_pos _
  | some v => exact h.lt v (List.mem_of_getElem? e)
theorem wd_some {ws : List Nat} {j v : Nat} (h : ws[j]? = some v) : wd ws j = v := by unfold wd; rw [List.getD_eq_getElem?_getD, h]; rfl
theorem tk_new (m i : Nat) : tk (List.replicate m 0) i = false := by
  have e : wd (List.replicate m 0) (i / 64) = 0 := by
    unfold wd
    rw [List.getD_eq_getElem?_getD, List.getElem?_replicate]
    split <;> rfl
  unfold tk
  rw [e, Nat.zero_testBit]
/-- How many are taken. -/
def cntT (ws : List Nat) (n : Nat) : Nat := ((List.range n).filter (tk ws)).length
def popSum (ws : List Nat) (m : Nat) : Nat := ((List.range m).map fun j => pop (wd ws j)).sum
theorem popSum_next (ws : List Nat) (m : Nat) : popSum ws (m + 1) = popSum ws m + pop (wd ws m) := by
  unfold popSum
  rw [List.range_succ, List.map_append, List.sum_append]; simp
theorem popSum_cnt {n : Nat} {ws : List Nat} (h : WordsOk n ws) : ∀ m, popSum ws m = cntT ws (64 * m)
  | 0 => rfl
  | m + 1 => by
    rw [popSum_next, popSum_cnt h m, pop_bits 64 _ (wd_lt h m)]
    unfold cntT bitsN
    rw [show 64 * (m + 1) = 64 * m + 64 by omega, List.range_add, List.filter_append, List.length_append, List.filter_map, List.length_map]
    congr 2
    refine List.filter_congr fun i hi => ?_
    have := List.mem_range.1 hi
    show _ = tk ws (64 * m + i)
    unfold tk
    rw [show (64 * m + i) / 64 = m by omega, show (64 * m + i) % 64 = i by omega]
theorem cntT_out {n : Nat} {ws : List Nat} (h : WordsOk n ws) {m : Nat} (hm : n ≤ m) : cntT ws m = cntT ws n := by
  obtain ⟨d, rfl⟩ : ∃ d, m = n + d := ⟨m - n, by omega⟩
  unfold cntT
  have e : (List.map (fun x => n + x) (List.range d)).filter (tk ws) = [] := List.filter_eq_nil_iff.2 (fun a ha => by
    obtain ⟨i, _, rfl⟩ := List.mem_map.1 ha
    rw [h.out _ (by omega)]; decide)
  rw [List.range_add, List.filter_append, List.length_append, e]
  rfl
theorem count_all {n : Nat} {ws : List Nat} (h : WordsOk n ws) : popSum ws ((n + 63) / 64) = cntT ws n := by
  rw [popSum_cnt h, cntT_out h (by omega)]
theorem cntT_le (ws : List Nat) (n : Nat) : cntT ws n ≤ n := by
  unfold cntT
  exact Nat.le_trans (List.length_filter_le ..) (by simp)
/-- The free places. -/
def freeL (ws : List Nat) (i : Nat) : List Nat := (List.range i).filter fun j => !tk ws j
theorem freeL_len (ws : List Nat) (n : Nat) : (freeL ws n).length + cntT ws n = n := by
  have h : ∀ l : List Nat, (l.filter fun j => !tk ws j).length + (l.filter (tk ws)).length = l.length := fun l => by
    induction l with
    | nil => rfl
    | cons x l ih =>
      cases e : tk ws x with
      | true => rw [List.filter_cons_of_neg (by rw [e]; decide), List.filter_cons_of_pos e, List.length_cons, List.length_cons]; omega
      | false => rw [List.filter_cons_of_pos (by rw [e]; decide), List.filter_cons_of_neg (by rw [e]; decide), List.length_cons, List.length_cons]; omega
  have := h (List.range n)
  rw [List.length_range] at this
  exact this
end Go.Proofs.YtcliejdiaohamaaGreat

set_option linter.unusedSimpArgs false
set_option linter.unusedVariables false
namespace Go.Proofs.YtcliejdiaohamaaGreat
open Go.RowKit Go.Cib
attribute [local go_sem] cell_set Later.cell Later.frozen Grw.cell Grw.frozen
theorem and_b64 {a c : Nat} (ha : a < 2 ^ 64) (hc : c < 2 ^ 64) : bits .and .u64 (a : Int) (c : Int) = ((a &&& c : Nat) : Int) := by
  unfold bits
  have h := Nat.and_lt_two_pow (n := 64) a hc
  have e : (BitVec.ofInt 64 (a : Int) &&& BitVec.ofInt 64 (c : Int)).toNat = a &&& c := by
    rw [BitVec.toNat_and, BitVec.ofInt_natCast, BitVec.ofInt_natCast, BitVec.toNat_ofNat, BitVec.toNat_ofNat, Nat.mod_eq_of_lt ha, Nat.mod_eq_of_lt hc]
  show IntKind.u64.wrap ((BitVec.ofInt 64 (a : Int) &&& BitVec.ofInt 64 (c : Int)).toNat : Int) = _
  rw [e, IntKind.wrap_u64]
  omega
set_option maxRecDepth 100000 in
set_option maxHeartbeats 4000000 in
theorem ones_any {w : World} {v0 : Nat} (hv : v0 < 2 ^ 64) :
    Calls Tryz.prog 178 #[.int .u64 (v0 : Int)] w fun e w' => e = .returned (.int .i64 (pop v0 : Nat)) ∧ w' = w := by
  have hp0 := pop_bits 64 v0 hv
  have hpl : pop v0 ≤ 64 := by rw [hp0]; unfold bitsN; exact Nat.le_trans (List.length_filter_le ..) (by simp)
  have HV := Lib.hid hv
  have HPL := Lib.hid hpl
  clear hp0 hv hpl
  go_enter Tryz.func178, Tryz.ntmps178
  go_wp2_with fail
  go_loopw [0, 3] (fun vv vc wr => ∃ v c : Nat, vv = .int .u64 (v : Int) ∧ vc = .int .i64 (c : Int) ∧ Hid (v < 2 ^ 64 ∧ c + pop v = pop v0) ∧ wr = w) (fun vv _ _ => (intOf vv).toNat)
  case atStart => exact ⟨v0, 0, rfl, rfl, Lib.hid ⟨HV.out, Nat.zero_add _⟩, rfl⟩
  case round =>
    obtain ⟨v, c, rfl, rfl, HI, hwr⟩ := hrel
    rw [hwr]
    clear hwr
    have p0 : (0 : Int) ≤ (c : Int) := Int.natCast_nonneg _
    have p1 : (c : Int) ≤ 64 := by have := HI.out.2; have := HPL.out; omega
    by_cases h0 : v = 0
    · subst h0
      have h1 := HI.out.2
      rw [pop_zero, Nat.add_zero] at h1
      have H1 := Lib.hid h1
      clear HI h1
      go_wp2_with fail
      go_ret
      exact ⟨by rw [H1.out]; rfl, rfl⟩
    · have h1 : ((v : Int) != 0) = true := by simp; omega
      obtain ⟨u, rfl⟩ : ∃ u, v = u + 1 := ⟨v - 1, by omega⟩
      have h2 : IntKind.u64.wrap ((u : Int)) = (u : Int) := by rw [IntKind.wrap_u64]; have := HI.out.1; omega
      have h3 := and_b64 (a := u + 1) (c := u) HI.out.1 (by have := HI.out.1; omega)
      have h4 := pop_clear (u + 1) (by omega)
      have h5 := clear_le (u + 1) (by omega)
      rw [show u + 1 - 1 = u by omega] at h4 h5
      obtain ⟨x, hx⟩ : ∃ x, (u + 1) &&& u = x := ⟨_, rfl⟩
      rw [hx] at h3 h4 h5
      have HJ := Lib.hid (show x < 2 ^ 64 ∧ (c + 1) + pop x = pop v0 from ⟨by have := HI.out.1; omega, by have := HI.out.2; omega⟩)
      push_cast at h1 h3 ⊢
      clear HI h4 hx
      go_wp2_with fail
      exact ⟨⟨x, c + 1, rfl, by go_num, HJ, trivial⟩, by simp [intOf]; omega⟩
/-- A map of places in memory. -/
structure BmAt (w : World) (o g n : Nat) (ws : List Nat) : Prop where
  box : BoxAt w o #[.int .i64 (n : Int), .slice (some ⟨g, 0, none⟩) ws.length ws.length, .bool true]
  row : BoxAt w g (ws.map fun v : Nat => Value.int .u64 (v : Int)).toArray
  ok : WordsOk n ws
  ne : o ≠ g
  n1 : n ≤ 60000
section
variable {w w' : World} {o g n : Nat} {ws : List Nat}
theorem BmAt.keep {F : Nat → Prop} (h : BmAt w o g n ws) (hK : Keep F w w') (ho : ¬ F o) (hg : ¬ F g) : BmAt w' o g n ws := ⟨h.box.keeps hK ho, h.row.keeps hK hg, h.ok, h.ne, h.n1⟩
theorem BmAt.below (h : BmAt w o g n ws) (hb : Below w.heap.size w w') : BmAt w' o g n ws := ⟨h.box.below hb, h.row.below hb, h.ok, h.ne, h.n1⟩
theorem BmAt.kp {X : Nat → Prop} (h : BmAt w o g n ws) (hK : ∀ j, X j → w'.heap[j]? = w.heap[j]?) (ho : X o) (hg : X g) : BmAt w' o g n ws := ⟨h.box.keep (hK o ho), h.row.keep (hK g hg), h.ok, h.ne, h.n1⟩
theorem BmAt.cells (h : BmAt w o g n ws) : w.cell? ⟨o, 0, none⟩ = some (.int .i64 (n : Int)) ∧ w.cell? ⟨o, 1, none⟩ = some (.slice (some ⟨g, 0, none⟩) ws.length ws.length) ∧ w.cell? ⟨o, 2, none⟩ = some (.bool true) := ⟨h.box.cell 0, h.box.cell 1, h.box.cell 2⟩
theorem BmAt.word (h : BmAt w o g n ws) {j : Nat} (hj : j < ws.length) : w.cell? ⟨g, j, none⟩ = some (.int .u64 (wd ws j : Int)) := by
  have := h.row.cell j
  rw [this]
  have e : ws[j]? = some ws[j] := List.getElem?_eq_getElem hj
  rw [wd_some e]
  simp [hj]
set_option maxRecDepth 100000 in
theorem bnone_any (h : BmAt w o g n ws) : Calls Tryz.prog 177 #[.pointer (some ⟨o, 0, none⟩)] w fun e w' => e = .returned (.bool false) ∧ w' = w := by
  obtain ⟨k0, k1, k2⟩ := h.cells
  clear h
  go_enter Tryz.func177, Tryz.ntmps177
  go_wp2_with fail
  go_ret
  exact ⟨rfl, rfl⟩
set_option maxRecDepth 100000 in
theorem blen_any (h : BmAt w o g n ws) : Calls Tryz.prog 114 #[.pointer (some ⟨o, 0, none⟩)] w fun e w' => e = .returned (.int .i64 (n : Int)) ∧ w' = w := by
  obtain ⟨k0, k1, k2⟩ := h.cells
  have hn := bnone_any h
  clear h
  go_enter Tryz.func114, Tryz.ntmps114
  go_wp2_with fail
  refine hn.mono ?_
  rintro e w1 ⟨rfl, hw1⟩
  rw [hw1]
  clear hw1 hn
  go_wp2_with fail
  go_ret
  exact ⟨rfl, rfl⟩
set_option maxRecDepth 100000 in
set_option maxHeartbeats 4000000 in
theorem bcount_any (h : BmAt w o g n ws) : Calls Tryz.prog 115 #[.pointer (some ⟨o, 0, none⟩)] w fun e w' => e = .returned (.int .i64 (cntT ws n : Nat)) ∧ w' = w := by
  obtain ⟨k0, k1, k2⟩ := h.cells
  have hn := bnone_any h
  have H := Lib.hid h
  obtain ⟨m, hm⟩ : ∃ m, ws.length = m := ⟨_, rfl⟩
  have hm2 : m ≤ 1000 := by have := h.n1; rw [← hm, h.ok.len]; omega
  have hca := count_all h.ok
  rw [← h.ok.len, hm] at hca
  have HCA := Lib.hid hca
  rw [hm] at k1
  have HM := Lib.hid hm
  have q0 : (m : Int) ≤ 1000 := by omega
  clear h hm hca
  go_enter Tryz.func115, Tryz.ntmps115
  go_wp2_with fail
  refine hn.mono ?_
  rintro e w1 ⟨rfl, hw1⟩
  rw [hw1]
  clear hw1 hn
  go_wp2_with fail
  go_loopw [3, 13] (fun vc vi wr => ∃ i c : Nat, i ≤ m ∧ vi = .int .i64 (i : Int) ∧ vc = .int .i64 (c : Int) ∧ Hid (c = popSum ws i ∧ c ≤ 64 * i) ∧ wr = w) (fun _ vi _ => m - (intOf vi).toNat)
  case atStart => exact ⟨0, 0, Nat.zero_le _, rfl, rfl, Lib.hid ⟨rfl, Nat.le_refl _⟩, rfl⟩
  case round =>
    obtain ⟨i, c, hi, rfl, rfl, HI, hwr⟩ := hrel
    rw [hwr]
    clear hwr
    have p0 : (0 : Int) ≤ (i : Int) := Int.natCast_nonneg _
    have p1 : (0 : Int) ≤ (c : Int) := Int.natCast_nonneg _
    have p2 : (c : Int) ≤ 64000 := by have := HI.out.2; omega
    by_cases hlt : i < m
    · have p3 : (i : Int) < (m : Int) := by omega
      have v1 := H.out.word (j := i) (by rw [HM.out]; exact hlt)
      have hlv := wd_lt H.out.ok i
      have ho := ones_any (w := w) hlv
      have hpl : pop (wd ws i) ≤ 64 := by rw [pop_bits 64 _ hlv]; unfold bitsN; exact Nat.le_trans (List.length_filter_le ..) (by simp)
      have hnx := popSum_next ws i
      obtain ⟨x, hx⟩ : ∃ x, pop (wd ws i) = x := ⟨_, rfl⟩
      rw [hx] at ho hpl hnx
      have HN := Lib.hid (show c + x = popSum ws (i + 1) ∧ c + x ≤ 64 * (i + 1) from ⟨by rw [hnx, HI.out.1], by have := HI.out.2; omega⟩)
      obtain ⟨v, hv⟩ : ∃ v, wd ws i = v := ⟨_, rfl⟩
      rw [hv] at v1 ho
      have p4 : (0 : Int) ≤ (x : Int) := Int.natCast_nonneg _
      have p5 : (x : Int) ≤ 64 := by omega
      clear hlv hnx hx hv HI
      go_wp2_with fail
      refine ho.mono ?_
      rintro e w1 ⟨rfl, hw1⟩
      rw [hw1]
      clear hw1 ho
      go_wp2_with fail
      exact ⟨⟨i + 1, c + x, by omega, by go_num, by go_num, HN, trivial⟩, by simp [intOf]; omega⟩
    · have p3 : ¬ (i : Int) < (m : Int) := by omega
      obtain rfl : i = m := by omega
      have HF := Lib.hid (show c = cntT ws n by rw [HI.out.1, HCA.out])
      go_wp2_with fail
      go_ret
      exact ⟨by rw [← HF.out]; rfl, rfl⟩
end
end Go.Proofs.YtcliejdiaohamaaGreat

set_option linter.unusedSimpArgs false
set_option linter.unusedVariables false
namespace Go.Proofs.YtcliejdiaohamaaGreat
open Go.RowKit Go.Cib
attribute [local go_sem] cell_set Later.cell Later.frozen Grw.cell Grw.frozen
/-- What Least has looked up so far. -/
structure LsJ (lb mb B many : Nat) (l : List Int) (v : Value) (W : World) : Prop where
  out : BoxAt W lb #[v]
  mst : BoxAt W mb #[.int .i64 (many : Int)]
  own : OwnL IntR 3 1 B (fun _ => False) W v l.length l
  ne : v.ownBlock ≠ some lb
  hm : mb < B
  lb0 : B ≤ lb
  low : B ≤ W.heap.size
theorem LsJ.below {lb mb B many : Nat} {l : List Int} {v : Value} {W W' : World} (h : LsJ lb mb B many l v W) (hb : Below W.heap.size W W') : LsJ lb mb B many l v W' := ⟨h.out.below hb, h.mst.below hb, h.own.keep IntR.stable hb, h.ne, h.hm, h.lb0, Nat.le_trans h.low hb.size⟩
end Go.Proofs.YtcliejdiaohamaaGreat

set_option linter.unusedSimpArgs false
set_option linter.unusedVariables false
namespace Go.Proofs.YtcliejdiaohamaaGreat
open Go.RowKit Go.Cib
attribute [local go_sem] cell_set Later.cell Later.frozen Grw.cell Grw.frozen
section
variable {w w' : World} {o g n : Nat} {ws : List Nat}
theorem run_max_b2 (ts : Array TypeId) (t : TypeId) (x y : Int) (w : World) : (Builtin.max_ ts t #[.int .i64 x, .int .i64 y]).run Tryz.prog w = .ok (.int .i64 (max x y)) w := by
  rw [run_max_int2, show (if x < y then y else x) = max x y by omega]
attribute [local go_sem ↓] run_max_b2
end
end Go.Proofs.YtcliejdiaohamaaGreat

set_option linter.unusedSimpArgs false
set_option linter.unusedVariables false
namespace Go.Proofs.YtcliejdiaohamaaGreat
open Go.RowKit Go.Cib
attribute [local go_sem] cell_set Later.cell Later.frozen Grw.cell Grw.frozen
theorem int_at1 {S : Nat → Prop} {w : World} {b o n : Nat} {xs : List Int} (h : RdL IntR 1 S w (some ⟨b, o, none⟩) n xs) {k : Nat} (hk : k < n) : ∃ x, xs[k]? = some x ∧ w.cell? ⟨b, o + k, none⟩ = some (.int .i64 x) := by
  obtain ⟨hl, cs, _, rfl, h2⟩ := h.at hk
  refine ⟨xs[k], List.getElem?_eq_getElem hl, ?_⟩
  have := h2 0 _ rfl
  rwa [Nat.mul_one, Nat.add_zero] at this
section
variable {w w' : World} {o g n : Nat} {ws : List Nat}
theorem blen_b (h : BmAt w o g n ws) : Calls Tryz.prog 114 #[.pointer (some ⟨o, 0, none⟩)] w fun e w' => e = .returned (.int .i64 (n : Int)) ∧ Below w.heap.size w w' := (blen_any h).mono fun e w' ⟨h1, h2⟩ => ⟨h1, by rw [h2]; exact Below.refl _ _⟩
theorem bcount_b (h : BmAt w o g n ws) : Calls Tryz.prog 115 #[.pointer (some ⟨o, 0, none⟩)] w fun e w' => e = .returned (.int .i64 (cntT ws n : Nat)) ∧ Below w.heap.size w w' := (bcount_any h).mono fun e w' ⟨h1, h2⟩ => ⟨h1, by rw [h2]; exact Below.refl _ _⟩
end
end Go.Proofs.YtcliejdiaohamaaGreat

set_option linter.unusedSimpArgs false
set_option linter.unusedVariables false
namespace Go.Proofs.YtcliejdiaohamaaGreat
open Go.RowKit Go.Cib
attribute [local go_sem] cell_set Later.cell Later.frozen Grw.cell Grw.frozen
/-- A pool in memory. -/
structure PoolAt (w : World) (p o l go gl ep ct fs n : Nat) (wo wl : List Nat) : Prop where
  box : BoxAt w p #[.int .u64 (ep : Int), .int .i64 (ct : Int), .int .i64 (fs : Int), .pointer (some ⟨o, 0, none⟩), .pointer (some ⟨l, 0, none⟩)]
  out : BmAt w o go n wo
  lim : BmAt w l gl n wl
  ne : p ≠ o ∧ p ≠ go ∧ p ≠ l ∧ p ≠ gl ∧ go ≠ l ∧ go ≠ gl ∧ gl ≠ o
  fsn : fs + n ≤ 600
  n1 : 1 ≤ n
def PoolB (p o l go gl : Nat) (j : Nat) : Prop := j = p ∨ j = o ∨ j = l ∨ j = go ∨ j = gl
section
variable {w w' : World} {p o l go gl ep ct fs n : Nat} {wo wl : List Nat}
theorem PoolAt.keep {F : Nat → Prop} (h : PoolAt w p o l go gl ep ct fs n wo wl) (hK : Keep F w w') (hF : ∀ j, PoolB p o l go gl j → ¬ F j) : PoolAt w' p o l go gl ep ct fs n wo wl :=
  ⟨h.box.keeps hK (hF p (.inl rfl)), h.out.keep hK (hF o (.inr (.inl rfl))) (hF go (.inr (.inr (.inr (.inl rfl))))), h.lim.keep hK (hF l (.inr (.inr (.inl rfl)))) (hF gl (.inr (.inr (.inr (.inr rfl))))), h.ne, h.fsn, h.n1⟩
theorem PoolAt.below (h : PoolAt w p o l go gl ep ct fs n wo wl) (hb : Below w.heap.size w w') : PoolAt w' p o l go gl ep ct fs n wo wl := ⟨h.box.below hb, h.out.below hb, h.lim.below hb, h.ne, h.fsn, h.n1⟩
theorem PoolAt.kp {X : Nat → Prop} (h : PoolAt w p o l go gl ep ct fs n wo wl) (hK : ∀ j, X j → w'.heap[j]? = w.heap[j]?) (hX : ∀ j, PoolB p o l go gl j → X j) : PoolAt w' p o l go gl ep ct fs n wo wl :=
  ⟨h.box.keep (hK p (hX p (.inl rfl))), h.out.kp hK (hX o (.inr (.inl rfl))) (hX go (.inr (.inr (.inr (.inl rfl))))), h.lim.kp hK (hX l (.inr (.inr (.inl rfl)))) (hX gl (.inr (.inr (.inr (.inr rfl))))), h.ne, h.fsn, h.n1⟩
theorem PoolAt.cells (h : PoolAt w p o l go gl ep ct fs n wo wl) : w.cell? ⟨p, 0, none⟩ = some (.int .u64 (ep : Int)) ∧ w.cell? ⟨p, 1, none⟩ = some (.int .i64 (ct : Int)) ∧ w.cell? ⟨p, 2, none⟩ = some (.int .i64 (fs : Int)) ∧ w.cell? ⟨p, 3, none⟩ = some (.pointer (some ⟨o, 0, none⟩)) ∧ w.cell? ⟨p, 4, none⟩ = some (.pointer (some ⟨l, 0, none⟩)) := ⟨h.box.cell 0, h.box.cell 1, h.box.cell 2, h.box.cell 3, h.box.cell 4⟩
set_option maxRecDepth 100000 in
theorem pnone_any (h : PoolAt w p o l go gl ep ct fs n wo wl) : Calls Tryz.prog 113 #[.pointer (some ⟨p, 0, none⟩)] w fun e w' => e = .returned (.bool false) ∧ w' = w := by
  obtain ⟨k0, k1, k2, k3, k4⟩ := h.cells
  clear h
  go_enter Tryz.func113, Tryz.ntmps113
  go_wp2_with fail
  go_ret
  exact ⟨rfl, rfl⟩
def freeN (wo : List Nat) (n : Nat) : Nat := n - cntT wo n
set_option maxRecDepth 100000 in
set_option maxHeartbeats 4000000 in
theorem pfree_any (h : PoolAt w p o l go gl ep ct fs n wo wl) : Calls Tryz.prog 42 #[.pointer (some ⟨p, 0, none⟩)] w fun e w' => e = .returned (.int .i64 (freeN wo n : Nat)) ∧ Below w.heap.size w w' := by
  obtain ⟨k0, k1, k2, k3, k4⟩ := h.cells
  have hno := pnone_any h
  have hln := fun (y : Later w.heap.size w) => blen_b (h.out.below y.ok)
  have hcn := fun (y : Later w.heap.size w) => bcount_b (h.out.below y.ok)
  have hct := cntT_le wo n
  have hn1 := h.out.n1
  have hpl := h.box.lt
  obtain ⟨c, hc⟩ : ∃ c, cntT wo n = c := ⟨_, rfl⟩
  have HF := Lib.hid (show (n : Int) - (c : Int) = (freeN wo n : Nat) by unfold freeN; omega)
  rw [hc] at hcn hct
  have q3 : (n : Int) ≤ 60000 := by omega
  have q4 : (c : Int) ≤ (n : Int) := by omega
  have f3 : IntKind.i64.wrap ((n : Int) - (c : Int)) = (n : Int) - (c : Int) := by rw [IntKind.wrap_i64]; omega
  clear h hc
  go_enter Tryz.func42, Tryz.ntmps42
  go_wp2_with fail
  refine hno.mono ?_
  rintro e w1 ⟨rfl, hw1⟩
  rw [hw1]
  clear hw1 hno
  go_wp2_with fail
  refine wp_region_later (by kernel_rfl) (by kernel_rfl) ?_
  repeat (go_big_quiet_step (first | (go_at_call 114; exact Later.call _ (hln _) (Nat.le_refl _)) | (go_at_call 115; exact Later.call _ (hcn _) (Nat.le_refl _))))
  refine wpQuiet_nil ?_
  rintro _ ⟨z, rfl⟩
  clear hln hcn
  go_wp2_with fail
  go_ret
  exact ⟨by rw [← HF.out]; rfl, z.ok⟩
end
end Go.Proofs.YtcliejdiaohamaaGreat

set_option linter.unusedSimpArgs false
set_option linter.unusedVariables false
namespace Go.Proofs.YtcliejdiaohamaaGreat
open Go.RowKit Go.Cib
attribute [local go_sem] cell_set Later.cell Later.frozen Grw.cell Grw.frozen
theorem or_b64 {a c : Nat} (ha : a < 2 ^ 64) (hc : c < 2 ^ 64) : bits .or .u64 (a : Int) (c : Int) = ((a ||| c : Nat) : Int) := by
  unfold bits
  have h := Nat.or_lt_two_pow (n := 64) ha hc
  have e : (BitVec.ofInt 64 (a : Int) ||| BitVec.ofInt 64 (c : Int)).toNat = a ||| c := by
    rw [BitVec.toNat_or, BitVec.ofInt_natCast, BitVec.ofInt_natCast, BitVec.toNat_ofNat, BitVec.toNat_ofNat, Nat.mod_eq_of_lt ha, Nat.mod_eq_of_lt hc]
  show IntKind.u64.wrap ((BitVec.ofInt 64 (a : Int) ||| BitVec.ofInt 64 (c : Int)).toNat : Int) = _
  rw [e, IntKind.wrap_u64]
  omega
theorem or_gen {ep ct : Nat} (hc : ct < 1048576) : (ep * 1048576) ||| ct = ep * 1048576 + ct := by
  have h := Nat.shiftLeft_add_eq_or_of_lt (a := ep) (b := ct) (i := 20) hc
  rw [Nat.shiftLeft_eq] at h
  exact h.symm
set_option maxRecDepth 100000 in
theorem gen_any {w : World} {ep ct : Nat} (he : ep < 1099511627776) (hc : ct < 1048576) : Calls Tryz.prog 81 #[.int .u64 (ep : Int), .int .i64 (ct : Int)] w fun e w' => e = .returned (.tuple #[.int .u64 ((ep * 1048576 + ct : Nat) : Int), .int .i64 0]) ∧ w' = w := by
  have h1 := or_b64 (a := ep * 1048576) (c := ct) (by omega) (by omega)
  rw [or_gen hc] at h1
  have q0 : (0 : Int) ≤ (ep : Int) := Int.natCast_nonneg _
  have g1 : decide ((ep : Int) ≥ 1099511627776) = false := decide_eq_false (by omega)
  have HE := Lib.hid he
  have q2 : (0 : Int) ≤ (ct : Int) := Int.natCast_nonneg _
  have g3 : decide ((ct : Int) ≥ 1048576) = false := decide_eq_false (by omega)
  have HC := Lib.hid hc
  have f1 : IntKind.u64.wrap ((ep : Int) * 1048576) = ((ep * 1048576 : Nat) : Int) := by rw [IntKind.wrap_u64]; omega
  have f2 : IntKind.u64.wrap (ct : Int) = (ct : Int) := by rw [IntKind.wrap_u64]; omega
  have f1' : IntKind.u64.wrap ((ep : Int) * 2 ^ 20) = ((ep * 1048576 : Nat) : Int) := f1
  obtain ⟨x, hx⟩ : ∃ x, ep * 1048576 = x := ⟨_, rfl⟩
  obtain ⟨y, hy⟩ : ∃ y, ep * 1048576 + ct = y := ⟨_, rfl⟩
  rw [hy] at h1 ⊢
  rw [hx] at f1 f1' h1
  clear hx hy he hc
  go_enter Tryz.func81, Tryz.ntmps81
  go_wp2_with fail
  go_ret2
  exact ⟨rfl, rfl⟩
section
variable {w w' : World} {p o l go gl ep ct fs n : Nat} {wo wl : List Nat}
/-- The count turned. -/
theorem PoolAt.count (h : PoolAt w p o l go gl ep ct fs n wo wl) (c : Nat) : PoolAt (w.setCell ⟨p, 1, none⟩ (.int .i64 (c : Int))) p o l go gl ep c fs n wo wl := by
  obtain ⟨n1, n2, n3, n4, n5, n6, n7⟩ := h.ne
  refine ⟨h.box.set 1 _, ⟨h.out.box.set_other (p := ⟨p, 1, none⟩) (fun e => n1 e.symm) _, h.out.row.set_other (p := ⟨p, 1, none⟩) (fun e => n2 e.symm) _, h.out.ok, h.out.ne, h.out.n1⟩, ⟨h.lim.box.set_other (p := ⟨p, 1, none⟩) (fun e => n3 e.symm) _, h.lim.row.set_other (p := ⟨p, 1, none⟩) (fun e => n4 e.symm) _, h.lim.ok, h.lim.ne, h.lim.n1⟩, h.ne, h.fsn, h.n1⟩
end
end Go.Proofs.YtcliejdiaohamaaGreat

set_option linter.unusedSimpArgs false
set_option linter.unusedVariables false
namespace Go.Proofs.YtcliejdiaohamaaGreat
open Go.RowKit Go.Cib
attribute [local go_sem] cell_set Later.cell Later.frozen Grw.cell Grw.frozen
section
variable {w w' : World} {p o l go gl ep ct fs n : Nat} {wo wl : List Nat}
end
end Go.Proofs.YtcliejdiaohamaaGreat

set_option linter.unusedSimpArgs false
set_option linter.unusedVariables false
namespace Go.Proofs.YtcliejdiaohamaaGreat
open Go.RowKit Go.Cib
attribute [local go_sem] cell_set Later.cell Later.frozen Grw.cell Grw.frozen
section
variable {w w' : World}
section
variable {p o l go gl ep ct fs n : Nat} {wo wl : List Nat}
end
end
end Go.Proofs.YtcliejdiaohamaaGreat

set_option linter.unusedSimpArgs false
set_option linter.unusedVariables false
namespace Go.Proofs.YtcliejdiaohamaaGreat
open Go.RowKit Go.Cib
attribute [local go_sem] cell_set Later.cell Later.frozen Grw.cell Grw.frozen
attribute [local go_sem ↓] run_min_b
end Go.Proofs.YtcliejdiaohamaaGreat

set_option linter.unusedSimpArgs false
set_option linter.unusedVariables false
namespace Go.Proofs.YtcliejdiaohamaaGreat
open Go.RowKit Go.Cib
attribute [local go_sem] cell_set Later.cell Later.frozen Grw.cell Grw.frozen
def cntN (k size : Nat) : Nat := (size + k * 44 - 1) / (k * 44)
section
variable {w w' : World} {p o l go gl ep ct fs n cb bf k m : Nat} {wo wl : List Nat}
end
end Go.Proofs.YtcliejdiaohamaaGreat

set_option linter.unusedSimpArgs false
set_option linter.unusedVariables false
namespace Go.Proofs.YtcliejdiaohamaaGreat
open Go.RowKit Go.Cib
attribute [local go_sem] cell_set Later.cell Later.frozen Grw.cell Grw.frozen
def bRef (ps : List Int) (gen : Nat) (i : Nat) : Ref := ⟨3, (ps.getD i 0).toNat, gen + i⟩
def bPc (k : Nat) (xs : List Nat) (i : Nat) : List Nat := (xs.drop (i * (k * 44))).take (k * 44)
/-- The drives behind the first i stripes. -/
def putB (n k N : Nat) (ps : List Int) (gen : Nat) (xs : List Nat) (sts : List DSt) : Nat → List DSt
  | 0 => sts
  | i + 1 => (putB n k N ps gen xs sts i).mapIdx (putQ n k N (bRef ps gen i) (bPc k xs i))
section
variable {P X S : Nat → Prop} {w0 w w' : World} {a p o l go gl ep ct fs np n cb bf k m : Nat} {wo wl : List Nat} {sts : List DSt}
end
end Go.Proofs.YtcliejdiaohamaaGreat

set_option linter.unusedSimpArgs false
set_option linter.unusedVariables false
namespace Go.Proofs.YtcliejdiaohamaaGreat
open Go.RowKit Go.Cib
attribute [local go_sem] cell_set Later.cell Later.frozen Grw.cell Grw.frozen
section
variable {w w' : World} {cb bf k m : Nat}
attribute [local go_sem ↓] run_min_b
end
end Go.Proofs.YtcliejdiaohamaaGreat

set_option linter.unusedSimpArgs false
set_option linter.unusedVariables false
namespace Go.Proofs.YtcliejdiaohamaaGreat
open Go.RowKit Go.Cib
attribute [local go_sem] cell_set Later.cell Later.frozen Grw.cell Grw.frozen
section
variable {w0 w w' : World} {a n cb bf k m : Nat} {sts : List DSt} {S : Nat → Prop}
end
end Go.Proofs.YtcliejdiaohamaaGreat

set_option linter.unusedSimpArgs false
set_option linter.unusedVariables false
namespace Go.Proofs.YtcliejdiaohamaaGreat
open Go.RowKit Go.Cib
attribute [local go_sem] cell_set Later.cell Later.frozen Grw.cell Grw.frozen
end Go.Proofs.YtcliejdiaohamaaGreat

set_option linter.unusedSimpArgs false
set_option linter.unusedVariables false
namespace Go.Proofs.YtcliejdiaohamaaGreat
open Go.RowKit Go.Cib
attribute [local go_sem] cell_set Later.cell Later.frozen Grw.cell Grw.frozen
end Go.Proofs.YtcliejdiaohamaaGreat

set_option linter.unusedSimpArgs false
set_option linter.unusedVariables false
namespace Go.Proofs.YtcliejdiaohamaaGreat
open Go.RowKit Go.Cib
attribute [local go_sem] cell_set Later.cell Later.frozen Grw.cell Grw.frozen
section
variable {P X S : Nat → Prop} {w0 w w' : World} {a p o l go gl ep ct fs n np cb bf k m : Nat} {wo wl : List Nat} {sts : List DSt}
end
end Go.Proofs.YtcliejdiaohamaaGreat

set_option linter.unusedSimpArgs false
set_option linter.unusedVariables false
namespace Go.Proofs.YtcliejdiaohamaaGreat
open Go.RowKit Go.Cib
attribute [local go_sem] cell_set Later.cell Later.frozen Grw.cell Grw.frozen
section
variable {w : World}
end
section
variable {P X S : Nat → Prop} {w0 w : World} {a cb bf k m n : Nat} {sts : List DSt}
end
end Go.Proofs.YtcliejdiaohamaaGreat

set_option linter.unusedSimpArgs false
set_option linter.unusedVariables false
namespace Go.Proofs.YtcliejdiaohamaaGreat
open Go.RowKit Go.Cib
attribute [local go_sem] cell_set Later.cell Later.frozen Grw.cell Grw.frozen
/-- Places that follow each other. -/
def plL (a M : Nat) : List Int := (List.range M).map fun i : Nat => ((a + i : Nat) : Int)
theorem plL_at {a M i : Nat} (h : i < M) : (plL a M).getD i 0 = ((a + i : Nat) : Int) := by
  unfold plL
  simp [List.getD_eq_getElem?_getD, h]
theorem free_new (m n : Nat) : freeL (List.replicate m 0) n = (List.range n).drop 0 := by
  unfold freeL
  rw [List.drop_zero]
  exact List.filter_eq_self.2 fun i _ => by rw [tk_new]; rfl
theorem free_cnt {wo : List Nat} {np t : Nat} (h : freeL wo np = (List.range np).drop t) : freeN wo np = np - t ∧ (freeL wo np).length = np - t := by
  have h1 := freeL_len wo np
  have h2 : (freeL wo np).length = np - t := by rw [h]; simp
  unfold freeN
  exact ⟨by omega, h2⟩
/-! ### Drives that are all alive -/
def Alv (n : Nat) (sts : List DSt) : Prop := ∀ st ∈ sts, st.dead = false ∧ st.ok n
section
variable {g : Nat → Bool} {n k N a G M0 : Nat} {xs : List Nat} {sts : List DSt}
theorem Alv.live (h : Alv n sts) {d : Nat} (hd : d < sts.length) : deadL sts d = false := by
  unfold deadL
  rw [List.getElem?_eq_getElem hd]
  exact (h _ (List.getElem_mem hd)).1
theorem Alv.new (n N : Nat) : Alv n (newS n N) := fun st hst => by
  obtain ⟨d, hd, rfl⟩ := List.mem_iff_getElem.1 hst
  rw [(newS_at (List.getElem?_eq_getElem hd)).1]
  exact ⟨rfl, DSt.ok.new n⟩
theorem Alv.count (h : Alv n sts) : cnt (aliveL sts) = sts.length := by
  have e : aliveL sts = List.replicate sts.length true := by
    unfold aliveL
    apply List.ext_getElem?
    intro d
    rw [List.getElem?_map, List.getElem?_replicate]
    by_cases hd : d < sts.length
    · rw [if_pos hd, List.getElem?_eq_getElem hd]
      simp [(h _ (List.getElem_mem hd)).1]
    · rw [if_neg hd, List.getElem?_eq_none (by omega)]; rfl
  rw [e]
  unfold cnt
  simp
theorem Alv.put (h : Alv n sts) {r : Ref} (hr : r.ok n) (hx : Byt xs) : Alv n (sts.mapIdx (putQ n k N r xs)) := fun st hst => by
  obtain ⟨d, hd⟩ := List.getElem?_of_mem hst
  obtain ⟨s1, h1, rfl⟩ := mapIdx_at hd
  obtain ⟨a1, a2⟩ := h s1 (List.mem_of_getElem? h1)
  rw [putQ_live hr hx a1]
  exact ⟨a1, a2.write (wrI_len (x := putX k N r xs d) (row44 hx k _).1) ⟨Int.natCast_nonneg _, by have := hr.p; omega⟩⟩
theorem bRef_pl {M i : Nat} (h : i < M) : bRef (plL a M) G i = ⟨3, a + i, G + i⟩ := by
  unfold bRef
  rw [plL_at h, Int.toNat_natCast]
theorem bPc_byt (hx : Byt xs) (i : Nat) : Byt (bPc k xs i) := fun x h => hx x (List.mem_of_mem_drop (List.mem_of_mem_take h))
theorem ref3_in {p z : Nat} (h : p < n) : Ref.ok ⟨3, p, z⟩ n := ⟨(by decide : 1 ≤ 3), (by decide : 3 ≤ 4), h⟩
theorem putB_alv (h : Alv n sts) (hx : Byt xs) {M : Nat} (ha : a + M ≤ n) : ∀ i, i ≤ M → Alv n (putB n k N (plL a M) G xs sts i)
  | 0, _ => h
  | i + 1, hi => by
    rw [putB, bRef_pl (by omega)]
    exact (putB_alv h hx ha i (by omega)).put (ref3_in (by omega)) (bPc_byt hx i)
theorem putB_old {r : Ref} {ys : List Nat} (h : Hds g k N r ys sts) (hx : Byt xs) {M : Nat} (ha : a + M ≤ n) (hd : r.place < a ∨ a + M ≤ r.place) : ∀ i, i ≤ M → Hds g k N r ys (putB n k N (plL a M) G xs sts i)
  | 0, _ => h
  | i + 1, hi => by
    rw [putB, bRef_pl (by omega)]
    exact (putB_old h hx ha hd i (by omega)).put (n := n) (ref3_in (by omega)) (bPc_byt hx i) (by show a + i ≠ r.place; omega)
theorem putB_new (h : Alv n sts) (hx : Byt xs) {M : Nat} (ha : a + M ≤ n) : ∀ i, i ≤ M → ∀ t, t < i → Hds (fun _ => true) k N ⟨3, a + t, G + t⟩ (bPc k xs t) (putB n k N (plL a M) G xs sts i)
  | 0, _, t, ht => absurd ht (by omega)
  | i + 1, hi, t, ht => by
    have hA := putB_alv (k := k) (N := N) (G := G) h hx ha i (by omega)
    rw [putB, bRef_pl (by omega)]
    by_cases e : t = i
    · subst e
      refine (Hds.new (n := n) (ref3_in (by omega)) (bPc_byt hx t) (fun st hst hd => by rw [(hA st hst).1] at hd; cases hd)).congr fun d hd => ?_
      rw [List.length_mapIdx] at hd
      rw [hA.live hd]; rfl
    · exact (putB_new h hx ha i (by omega) t (by omega)).put (n := n) (ref3_in (by omega)) (bPc_byt hx i) (by show a + i ≠ a + t; omega)
/-- A value lies on the drives g. -/
def HdB (g : Nat → Bool) (k N a G M : Nat) (xs : List Nat) (sts : List DSt) : Prop := ∀ t, t < M → Hds g k N ⟨3, a + t, G + t⟩ (bPc k xs t) sts
theorem HdB.put (h : HdB g k N a G M0 xs sts) {ys : List Nat} (hy : Byt ys) {b H M : Nat} (hb : b + M ≤ n) (hd : a + M0 ≤ b) : HdB g k N a G M0 xs (putB n k N (plL b M) H ys sts M) := fun t ht =>
  putB_old (h t ht) hy hb (.inl (by show a + t < b; omega)) M (Nat.le_refl _)
theorem HdB.new (h : Alv n sts) (hx : Byt xs) {M : Nat} (ha : a + M ≤ n) : HdB (fun _ => true) k N a G M xs (putB n k N (plL a M) G xs sts M) := fun t ht => putB_new h hx ha M (Nat.le_refl _) t ht
theorem HdB.fail (h : HdB g k N a G M0 xs sts) (ha : a + M0 ≤ n) (x : Int) : HdB (butB g x) k N a G M0 xs (failA n sts x) := fun t ht => (h t ht).fail (ref3_in (by omega)) x
end
end Go.Proofs.YtcliejdiaohamaaGreat

set_option linter.unusedSimpArgs false
set_option linter.unusedVariables false
namespace Go.Proofs.YtcliejdiaohamaaGreat
open Go.RowKit Go.Cib
attribute [local go_sem] cell_set Later.cell Later.frozen Grw.cell Grw.frozen
section
variable {w : World} {cb bf k m : Nat}
end
attribute [local go_sem ↓] run_min_b
end Go.Proofs.YtcliejdiaohamaaGreat
