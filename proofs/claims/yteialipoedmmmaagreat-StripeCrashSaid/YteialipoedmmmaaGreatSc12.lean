/-
  Which shard lies on which drive; what whole shards of one stripe give: plain.
  What a drive's sector gives as a shard: plain.
  The drives behind the writes of a stripe's shards: plain.
  Drives and a coder in the midst of a law.
  A law's drives and coder are made.
  A stripe in a law: what Get, Whole and Put give.
  Drives that have a stripe's shard, and drives that lost it.
  Numbers of drives in a list, each once.
  Drives that die, one after another: plain; how many are left.
  Rot of a drive among others, whatever is asked, and the code that it answers.
  Drives and a coder in the midst of a law, beside blocks that stay as they are.
  Drives lose a place: some rot there, the others die.
  The page's example: a stripe with a dead drive.
  A stripe is gone when another one was put at its place: the walk.
  A stripe that was put and flushed; drives that lost a place: plain.
  What a crash leaves of two stripes, one flushed and one not: plain; rows of bools that are laid one by one.
-/
import Derived.Test.YteialipoedmmmaaGreatSc11
import Derived.Test.YteialipoedmmmaaGreatSc2
set_option linter.unusedSimpArgs false
set_option linter.unusedVariables false
namespace Go.Proofs.YteialipoedmmmaaGreat
open Go.RowKit Go.Cib
attribute [local go_sem] cell_set Later.cell Later.frozen Grw.cell Grw.frozen
theorem add_mod_lt {n q i : Nat} (hq : q < n) (hi : i < n) : (q + i) % n = if q + i < n then q + i else q + i - n := by
  split
  · rename_i h; exact Nat.mod_eq_of_lt h
  · rename_i h
    rw [Nat.mod_eq_sub_mod (by omega), Nat.mod_eq_of_lt (by omega)]
/-- The shard that lies on a drive. -/
def ixN (n place d : Nat) : Nat := (n - place % n + d) % n
theorem homeN_eq {n p i : Nat} (hn : 1 ≤ n) (hi : i < n) : homeN n p i = if p % n + i < n then p % n + i else p % n + i - n := by
  unfold homeN
  rw [Nat.mod_eq_of_lt hi, add_mod_lt (Nat.mod_lt _ hn) hi]
theorem ixN_eq {n p d : Nat} (hn : 1 ≤ n) (hd : d < n) : ixN n p d = if p % n ≤ d then d - p % n else d + n - p % n := by
  have hq : p % n < n := Nat.mod_lt _ hn
  unfold ixN
  by_cases h0 : p % n = 0
  · rw [h0, Nat.sub_zero, Nat.add_mod_left, Nat.mod_eq_of_lt hd, if_pos (Nat.zero_le _)]; rfl
  · rw [add_mod_lt (by omega) hd]
    split <;> split <;> omega
theorem ixN_lt {n p d : Nat} (hn : 1 ≤ n) : ixN n p d < n := Nat.mod_lt _ hn
theorem home_ix {n p d : Nat} (hn : 1 ≤ n) (hd : d < n) : homeN n p (ixN n p d) = d := by
  have hq : p % n < n := Nat.mod_lt _ hn
  rw [homeN_eq hn (ixN_lt hn), ixN_eq hn hd]
  split <;> split <;> omega
theorem ix_home {n p i : Nat} (hn : 1 ≤ n) (hi : i < n) : ixN n p (homeN n p i) = i := by
  have hq : p % n < n := Nat.mod_lt _ hn
  rw [ixN_eq hn (homeN_lt hn), homeN_eq hn hi]
  split <;> split <;> omega
theorem home_map {n p : Nat} (hn : 1 ≤ n) : (List.range n).map (homeN n p) = (List.range (n - p % n)).map (fun i => p % n + i) ++ List.range (p % n) := by
  have hq : p % n < n := Nat.mod_lt _ hn
  apply List.ext_getElem
  · simp; omega
  · intro j h1 h2
    have hj : j < n := by simpa using h1
    rw [List.getElem_map, List.getElem_range, homeN_eq hn hj]
    by_cases hc : j < n - p % n
    · rw [List.getElem_append_left (by simpa using hc), List.getElem_map, List.getElem_range, if_pos (by omega)]
    · rw [List.getElem_append_right (by simp; omega), List.getElem_range, if_neg (by omega)]
      simp; omega
theorem range_cut (n q : Nat) (h : q ≤ n) : List.range n = List.range q ++ (List.range (n - q)).map (fun i => q + i) := by
  conv => lhs; rw [show n = q + (n - q) by omega, List.range_add]
/-- As many shards are good as drives are. -/
theorem home_count {n p : Nat} (hn : 1 ≤ n) (g : Nat → Bool) : ((List.range n).filter fun i => g (homeN n p i)).length = ((List.range n).filter g).length := by
  have hq : p % n < n := Nat.mod_lt _ hn
  have h1 : (((List.range n).map (homeN n p)).filter g).length = ((List.range n).filter fun i => g (homeN n p i)).length := by
    rw [List.filter_map, List.length_map]; rfl
  rw [← h1, home_map hn, List.filter_append, List.length_append, range_cut n (p % n) (by omega), List.filter_append, List.length_append]
  omega
section
variable {N size : Nat} {R : Nat → Option Shd} {P : Nat → Bool} {r : Ref} {row : Nat → List Nat}
def stdL (P : Nat → Bool) (r : Ref) (size : Nat) (row : Nat → List Nat) (i : Nat) : List (Nat × Shd) := ((List.range i).filter P).map fun j => (j, shR r j size (row j))
theorem stdL_next (i : Nat) : stdL P r size row (i + 1) = stdL P r size row i ++ if P i = true then [(i, shR r i size (row i))] else [] := by
  unfold stdL
  rw [List.range_succ, List.filter_append, List.map_append]
  by_cases h : P i = true
  · rw [if_pos h, List.filter_cons_of_pos h]; rfl
  · rw [if_neg h, List.filter_cons_of_neg h]; rfl
theorem whole_std (hR : ∀ i, i < N → R i = if P i = true then some (shR r i size (row i)) else none) : ∀ i, i ≤ N → (wholeF R i).1 = stdL P r size row i ∧ (0 < (wholeF R i).1.length → (wholeF R i).2 = size)
  | 0, _ => ⟨rfl, fun h => by simp [wholeF] at h⟩
  | i + 1, hi => by
    obtain ⟨h1, h2⟩ := whole_std hR i (by omega)
    have hr := hR i (by omega)
    rw [stdL_next]
    by_cases hp : P i = true
    · rw [if_pos hp] at hr ⊢
      have e : wholeF R (i + 1) = ((wholeF R i).1 ++ [(i, shR r i size (row i))], size) := by
        rw [wholeF, hr]
        dsimp only
        rw [if_neg (fun h => h.2 (h2 h.1).symm)]
        rfl
      rw [e, h1]
      exact ⟨rfl, fun _ => rfl⟩
    · rw [if_neg hp] at hr ⊢
      have e : wholeF R (i + 1) = wholeF R i := by rw [wholeF, hr]
      rw [e, List.append_nil]
      exact ⟨h1, h2⟩
theorem stdL_look (N j : Nat) : lookS (stdL P r size row N) j = if j < N ∧ P j = true then some (shR r j size (row j)) else none := by
  have gen : ∀ l : List Nat, lookS (l.map fun j => (j, shR r j size (row j))) j = if j ∈ l then some (shR r j size (row j)) else none := fun l => by
    induction l with
    | nil => rfl
    | cons x l ih =>
      unfold lookS at ih ⊢
      rw [List.map_cons]
      by_cases h : x = j
      · subst h
        rw [List.find?_cons_of_pos (by simp), if_pos (List.mem_cons_self ..)]; rfl
      · rw [List.find?_cons_of_neg (by simpa using h), ih]
        by_cases h2 : j ∈ l
        · rw [if_pos h2, if_pos (List.mem_cons_of_mem _ h2)]
        · rw [if_neg h2, if_neg (fun h3 => (List.mem_cons.1 h3).elim (fun e => h e.symm) h2)]
  unfold stdL
  rw [gen]
  have e : (j ∈ (List.range N).filter P) ↔ (j < N ∧ P j = true) := by rw [List.mem_filter, List.mem_range]
  by_cases h : j < N ∧ P j = true
  · rw [if_pos h, if_pos (e.2 h)]
  · rw [if_neg h, if_neg (fun h2 => h (e.1 h2))]
theorem stdL_len (N : Nat) : (stdL P r size row N).length = ((List.range N).filter P).length := by unfold stdL; rw [List.length_map]
theorem stdL_rows (N : Nat) : rowsS (stdL P r size row N) N = (List.range N).map fun j => if P j = true then row j else [] := by
  unfold rowsS
  refine List.map_congr_left fun j hj => ?_
  rw [stdL_look]
  by_cases h : P j = true
  · rw [if_pos h, if_pos ⟨List.mem_range.1 hj, h⟩]; rfl
  · rw [if_neg h, if_neg (fun h2 => h h2.2)]; rfl
theorem stdL_whole (N : Nat) : wsU (stdL P r size row N) N N = (List.range N).map P := by
  unfold wsU
  refine List.map_congr_left fun j hj => ?_
  have hj' := List.mem_range.1 hj
  rw [if_pos hj', stdL_look]
  cases h : P j with
  | true => rw [if_pos ⟨hj', rfl⟩]; rfl
  | false => rw [if_neg (fun h2 => by simp at h2)]; rfl
end
theorem filter_both {α : Type} (P : α → Bool) : ∀ l : List α, (l.filter P).length + (l.filter fun j => !P j).length = l.length
  | [] => rfl
  | x :: l => by
    have ih := filter_both P l
    cases h : P x with
    | true => rw [List.filter_cons_of_pos h, List.filter_cons_of_neg (by simp [h]), List.length_cons, List.length_cons]; omega
    | false => rw [List.filter_cons_of_neg (by simp [h]), List.filter_cons_of_pos (by simp [h]), List.length_cons, List.length_cons]; omega
section
variable {k m n : Nat} {D : Rws} {P : Nat → Bool}
def goneL (P : Nat → Bool) (N : Nat) : List Int := ((List.range N).filter fun j => !P j).map fun j : Nat => (j : Int)
theorem goneL_mem {N j : Nat} (h : j < N) : (j : Int) ∈ goneL P N ↔ P j = false := by
  unfold goneL
  rw [List.mem_map]
  constructor
  · rintro ⟨i, hi, e⟩
    have : i = j := by omega
    subst this
    have := (List.mem_filter.1 hi).2
    simpa using this
  · intro hp
    exact ⟨j, List.mem_filter.2 ⟨List.mem_range.2 h, by simp [hp]⟩, rfl⟩
theorem goneL_len (P : Nat → Bool) (N : Nat) : (goneL P N).length + ((List.range N).filter P).length = N := by
  unfold goneL
  rw [List.length_map]
  have h := filter_both P (List.range N)
  rw [List.length_range] at h
  omega
/-- Of any k whole shards all rows come back. -/
theorem out_std (hD : Shp k n D) (hn : 0 < n) (hk : 1 ≤ k) (hkm : k + m ≤ 255) (hc : k ≤ ((List.range (k + m)).filter P).length) {nr : Nat} (hnr : nr ≤ k + m) :
    outF k (k + m) nr ((List.range (k + m)).map fun j => if P j = true then codeRow k n D j else []) = allR k n D nr := by
  have h := goneL_len P (k + m)
  rw [← left_out (gone := goneL P (k + m)) (m := m) hD hn hk hkm (by omega) hnr]
  congr 1
  unfold missF
  refine List.map_congr_left fun j hj => ?_
  have hj' := List.mem_range.1 hj
  rw [allR_ra hj']
  cases hp : P j with
  | true => rw [if_pos rfl, if_neg (fun h2 => by rw [(goneL_mem hj').1 h2] at hp; cases hp)]
  | false => rw [if_pos ((goneL_mem hj').2 hp)]; rfl
end
end Go.Proofs.YteialipoedmmmaaGreat

set_option linter.unusedSimpArgs false
set_option linter.unusedVariables false
namespace Go.Proofs.YteialipoedmmmaaGreat
open Go.RowKit Go.Cib
attribute [local go_sem] cell_set Later.cell Later.frozen Grw.cell Grw.frozen
theorem sncS_byt {x : Shd} (h : x.ok) : Byt (sncS x) := fun y hy => by
  unfold sncS snc60 at hy
  rcases List.mem_append.1 hy with h1 | h1
  · rcases List.mem_append.1 h1 with h2 | h2
    · exact sncH_byt x y h2
    · exact h.b y h2
  · exact leN_byt _ _ y h1
theorem rdX_snc {x : Shd} (hx : x.ok) (hk : kindB x.kind = true) (k : Nat) (r : Ref) (i : Nat) : rdX (sncS x) k r i = if isB x r i = true ∧ x.size ≤ k * 44 then some x else none := by
  have h1 := dec_snc hx
  have h2 := sncS_sum (x := x) hx.l
  unfold rdX
  rw [h1.1, h1.2]
  by_cases h : isB x r i = true ∧ x.size ≤ k * 44
  · rw [if_pos h, if_pos ⟨h2, hk, h.1, h.2⟩]
  · rw [if_neg h, if_neg (fun h3 => h ⟨h3.2.2.1, h3.2.2.2⟩)]
theorem rdX_zero (k : Nat) (r : Ref) (i : Nat) : rdX (List.replicate 64 0) k r i = none := by
  unfold rdX
  rw [if_neg]
  intro h
  exact absurd h.2.1 (by decide +kernel)
theorem toNat_map (xs : List Nat) : (xs.map fun b : Nat => (b : Int)).map Int.toNat = xs := by
  rw [List.map_map]
  conv => rhs; rw [← List.map_id xs]
  exact List.map_congr_left fun x _ => rfl
/-! ### Rot -/
/-- What can lie in a sector. -/
def GoodV (V : List Int) : Prop := V.length = 64 ∧ ∀ x ∈ V, 0 ≤ x ∧ x < 256
theorem goodV_zero : GoodV (rep 0) := ⟨rep_len 0, fun x hx => by rw [(List.mem_replicate.1 hx).2]; omega⟩
theorem goodV_nat {xs : List Nat} (hl : xs.length = 64) (hb : Byt xs) : GoodV (xs.map fun b : Nat => (b : Int)) := ⟨by rw [List.length_map, hl], fun x hx => by
  obtain ⟨y, hy, rfl⟩ := List.mem_map.1 hx
  have := hb y hy
  omega⟩
theorem goodV_wr {x : Shd} (hx : x.ok) : GoodV (wrI x) := goodV_nat (sncS_len hx.l) (sncS_byt hx)
theorem rdOk_of {sts : List DSt} {z : Nat} (h : ∀ st ∈ sts, GoodV (st.seen z)) : RdOk sts z := ⟨fun st hst x hx => (h st hst).2 x hx, fun st hst => by unfold secN; rw [List.length_map, (h st hst).1]⟩
end Go.Proofs.YteialipoedmmmaaGreat

set_option linter.unusedSimpArgs false
set_option linter.unusedVariables false
namespace Go.Proofs.YteialipoedmmmaaGreat
open Go.RowKit Go.Cib
attribute [local go_sem] cell_set Later.cell Later.frozen Grw.cell Grw.frozen
def deadL (sts : List DSt) (d : Nat) : Bool := ((sts[d]?).map (·.dead)).getD true
def wrG (n : Nat) (r : Ref) (size : Nat) (wh : Nat → Bool) (rw : Nat → List Nat) (N d : Nat) (st : DSt) : DSt :=
  if wh (ixN N r.place d) = true then wrDA n st (r.place : Int) (wrI (shR r (ixN N r.place d) size (rw (ixN N r.place d)))) else st
section
variable {n size : Nat} {r : Ref} {wh : Nat → Bool} {rw : Nat → List Nat} {sts : List DSt}
theorem wrS_at (hN : 1 ≤ sts.length) : ∀ i, i ≤ sts.length → (∀ d st, sts[d]? = some st → (wrS n r size wh rw sts i).1[d]? = some (if ixN sts.length r.place d < i then wrG n r size wh rw sts.length d st else st)) ∧
    (wrS n r size wh rw sts i).2 = ((List.range i).filter fun j => wh j && !deadL sts (homeN sts.length r.place j)).length
  | 0, _ => ⟨fun d st h => by rw [if_neg (by omega)]; exact h, rfl⟩
  | i + 1, hi => by
    obtain ⟨h1, h2⟩ := wrS_at hN i (by omega)
    have hlt : homeN sts.length r.place i < sts.length := homeN_lt hN
    have hix : ixN sts.length r.place (homeN sts.length r.place i) = i := ix_home hN (by omega)
    obtain ⟨s0, hs0⟩ : ∃ s0, sts[homeN sts.length r.place i]? = some s0 := ⟨_, List.getElem?_eq_getElem hlt⟩
    have hcur := h1 _ _ hs0
    rw [hix, if_neg (by omega)] at hcur
    rw [List.range_succ, List.filter_append, List.length_append]
    cases hw : wh i with
    | false =>
      rw [wrS_skip hw]
      refine ⟨fun d st hd => ?_, ?_⟩
      · rw [h1 d st hd]
        by_cases e : ixN sts.length r.place d = i
        · rw [if_neg (by omega), if_pos (by omega)]
          unfold wrG
          rw [e, hw]; rfl
        · by_cases e2 : ixN sts.length r.place d < i
          · rw [if_pos e2, if_pos (by omega)]
          · rw [if_neg e2, if_neg (by omega)]
      · rw [h2, List.filter_cons_of_neg (by simp [hw])]; rfl
    | true =>
      rw [wrS_do hw hcur]
      refine ⟨fun d st hd => ?_, ?_⟩
      · have hdl := (List.getElem?_eq_some_iff.1 hd).1
        by_cases e : ixN sts.length r.place d = i
        · have e3 : d = homeN sts.length r.place i := by rw [← e, home_ix hN hdl]
          subst e3
          have : s0 = st := Option.some.inj (hs0.symm.trans hd)
          subst this
          rw [List.getElem?_set_self (by rw [wrS_len]; exact hlt), if_pos (by omega)]
          unfold wrG
          rw [hix, if_pos hw]
        · have e3 : homeN sts.length r.place i ≠ d := fun h => e (by rw [← h]; exact hix)
          rw [List.getElem?_set_ne e3, h1 d st hd]
          by_cases e2 : ixN sts.length r.place d < i
          · rw [if_pos e2, if_pos (by omega)]
          · rw [if_neg e2, if_neg (by omega)]
      · rw [h2]
        have hdd : deadL sts (homeN sts.length r.place i) = s0.dead := by unfold deadL; rw [hs0]; rfl
        cases hb : s0.dead with
        | true => rw [if_pos rfl, List.filter_cons_of_neg (by simp [hw, hdd, hb])]; rfl
        | false => rw [if_neg (by simp), List.filter_cons_of_pos (by simp [hw, hdd, hb])]; rfl
/-- The drives behind it, each by itself. -/
theorem wrS_map (hN : 1 ≤ sts.length) : (wrS n r size wh rw sts sts.length).1 = sts.mapIdx (wrG n r size wh rw sts.length) := by
  apply List.ext_getElem?
  intro d
  rw [List.getElem?_mapIdx]
  by_cases hd : d < sts.length
  · have h := (wrS_at (n := n) (size := size) (r := r) (wh := wh) (rw := rw) hN sts.length (Nat.le_refl _)).1 d _ (List.getElem?_eq_getElem hd)
    rw [h, List.getElem?_eq_getElem hd, if_pos (ixN_lt hN)]; rfl
  · rw [List.getElem?_eq_none (by rw [wrS_len]; omega), List.getElem?_eq_none (by omega)]; rfl
theorem wrS_taken (hN : 1 ≤ sts.length) : (wrS n r size wh rw sts sts.length).2 = ((List.range sts.length).filter fun j => wh j && !deadL sts (homeN sts.length r.place j)).length := (wrS_at hN sts.length (Nat.le_refl _)).2
/-- All of a stripe: as many as aren't dead. -/
theorem wrS_all (hN : 1 ≤ sts.length) : (wrS n r size (fun _ => true) rw sts sts.length).2 = ((List.range sts.length).filter fun d => !deadL sts d).length := by
  rw [wrS_taken hN, ← home_count hN (p := r.place) (fun d => !deadL sts d)]; rfl
end
theorem wrDA_live {n z : Nat} {st : DSt} (h : st.dead = false) (hz : z < n) {bs : List Int} (hl : bs.length = 64) : wrDA n st (z : Int) bs = st.write (z : Int) bs := by
  unfold wrDA
  rw [if_pos]
  refine ⟨?_, hl⟩
  unfold readyE
  rw [h]
  simp [hz]
theorem wrI_len {x : Shd} (h : x.body.length = 44) : (wrI x).length = 64 := by unfold wrI; rw [List.length_map, sncS_len h]
/-! ### What is read -/
section
variable {sts : List DSt} {k i : Nat} {r : Ref} {st : DSt}
theorem stR_at (h : sts[homeN sts.length r.place i]? = some st) : stR sts k r i = rdS st k r i := by unfold stR; rw [h]
theorem rdS_zero (h : st.seen r.place = rep 0) : rdS st k r i = none := by
  unfold rdS
  split
  · rfl
  · unfold secN
    rw [h]
    exact rdX_zero k r i
theorem rdS_snc {x : Shd} (hx : x.ok) (hk : kindB x.kind = true) (h : st.seen r.place = wrI x) : rdS st k r i = if st.dead = false ∧ isB x r i = true ∧ x.size ≤ k * 44 then some x else none := by
  unfold rdS
  cases hd : st.dead with
  | true => rw [if_pos rfl, if_neg (by simp)]
  | false =>
    rw [if_neg (by simp)]
    unfold secN
    rw [h]
    unfold wrI
    rw [toNat_map, rdX_snc hx hk]
    by_cases h2 : isB x r i = true ∧ x.size ≤ k * 44
    · rw [if_pos h2, if_pos ⟨rfl, h2⟩]
    · rw [if_neg h2, if_neg (fun h3 => h2 h3.2)]
end
theorem isB_same (r : Ref) (i size : Nat) (row : List Nat) : isB (shR r i size row) r i = true := by unfold isB shR; simp
end Go.Proofs.YteialipoedmmmaaGreat

set_option linter.unusedSimpArgs false
set_option linter.unusedVariables false
namespace Go.Proofs.YteialipoedmmmaaGreat
open Go.RowKit Go.Cib
attribute [local go_sem] cell_set Later.cell Later.frozen Grw.cell Grw.frozen
def mayB (k m : Int) : Bool := decide (1 ≤ k ∧ 1 ≤ m ∧ k ≤ 255 ∧ m ≤ 255 - k)
set_option maxRecDepth 100000 in
set_option maxHeartbeats 4000000 in
theorem may_any {w : World} (k m : Int) :
    Calls Tryz.prog 22 #[.int .i64 k, .int .i64 m] w fun e w' => e = .returned (.bool (mayB k m)) ∧ w' = w := by
  go_enter Tryz.func22, Tryz.ntmps22
  by_cases h1 : k ≥ 1
  · by_cases h2 : m ≥ 1
    · by_cases h3 : k ≤ 255
      · by_cases h4 : m ≤ 255 - k
        · have h5 : m ≤ 255 - k := h4
          go_wp2_with fail
          go_ret
          exact ⟨by rw [show mayB k m = true from decide_eq_true (by omega)]; simp [h4], rfl⟩
        · go_wp2_with fail
          go_ret
          exact ⟨by rw [show mayB k m = false from decide_eq_false (by omega)]; simp <;> omega, rfl⟩
      · go_wp2_with fail
        go_ret
        exact ⟨by rw [show mayB k m = false from decide_eq_false (by omega)]; simp <;> omega, rfl⟩
    · go_wp2_with fail
      go_ret
      exact ⟨by rw [show mayB k m = false from decide_eq_false (by omega)]; simp <;> omega, rfl⟩
  · go_wp2_with fail
    go_ret
    exact ⟨by rw [show mayB k m = false from decide_eq_false (by omega)]; simp <;> omega, rfl⟩

theorem CodF.bound {C : Nat → Prop} {w : World} {cb b k m : Nat} (h : CodF C w cb b k m) : CodF (fun j => C j ∧ j < w.heap.size) w cb b k m := by
  obtain ⟨A, c, h1, h2, h3⟩ := h.box
  exact ⟨⟨A, c, h1, h2, h3.stable ByR.stable fun j hj hl => ⟨⟨hj, hl⟩, rfl⟩⟩, ⟨h.cc, h1.lt⟩, ⟨h.cf, h.fld.lt⟩, h.fld, h.k1, h.m1, h.km⟩
/-- Drives and a coder, all of whose blocks are younger than the law's call. -/
structure SMid (w0 w : World) (a cb bf k m n : Nat) (sts : List DSt) : Prop where
  bel : Below w0.heap.size w0 w
  ex : ∃ U C, ArrAt U w a n sts ∧ CodF C w cb bf k m ∧ (∀ j, U j → w0.heap.size ≤ j) ∧ (∀ j, C j → ¬ U j ∧ j < w.heap.size)
  len : sts.length = k + m
  n1 : 1 ≤ n
  n2 : n ≤ 600
section
variable {w0 w w' : World} {a cb bf k m n : Nat} {sts : List DSt}
theorem SMid.cod (h : SMid w0 w a cb bf k m n sts) : CodAt w cb bf k m := by
  obtain ⟨U, C, _, hC, _⟩ := h.ex
  exact hC.at
theorem SMid.k1 (h : SMid w0 w a cb bf k m n sts) : 1 ≤ k := h.cod.k1
theorem SMid.m1 (h : SMid w0 w a cb bf k m n sts) : 1 ≤ m := h.cod.m1
theorem SMid.km (h : SMid w0 w a cb bf k m n sts) : k + m ≤ 255 := h.cod.km
theorem SMid.below (h : SMid w0 w a cb bf k m n sts) (hb : Below w.heap.size w w') : SMid w0 w' a cb bf k m n sts := by
  obtain ⟨U, C, hA, hC, hU, hd⟩ := h.ex
  exact ⟨h.bel.trans (hb.mono h.bel.size), ⟨U, C, hA.below hb, hC.below hb, hU, fun j hj => ⟨(hd j hj).1, Nat.lt_of_lt_of_le (hd j hj).2 hb.size⟩⟩, h.len, h.n1, h.n2⟩
theorem SMid.ok (h : SMid w0 w a cb bf k m n sts) : ∀ st ∈ sts, st.ok n := by
  obtain ⟨U, C, hA, _⟩ := h.ex
  exact hA.ok
/-- A call that went on with the drives. -/
theorem SMid.step {sts' : List DSt} {f : FuncId} {args : Array Value} {Q : Ending → World → Prop} (h : SMid w0 w a cb bf k m n sts) (hl : sts'.length = sts.length)
    (hc : ∀ U, ArrAt U w a n sts → (∀ j, U j → w0.heap.size ≤ j) → Calls Tryz.prog f args w fun e w' => Q e w' ∧ AUpd U w w' a n sts') :
    Calls Tryz.prog f args w fun e w' => Q e w' ∧ SMid w0 w' a cb bf k m n sts' := by
  obtain ⟨U, C, hA, hC, hU, hd⟩ := h.ex
  refine (hc U hA hU).mono ?_
  rintro e w' ⟨hq, U', hA', hU', hK⟩
  refine ⟨hq, h.bel.trans (hK.below h.bel.size hU), ⟨U', C, hA', hC.keep hK (fun j hj => (hd j hj).1), fun j hj => ?_, fun j hj => ⟨fun hu => (hd j hj).1 (hU' j hu (hd j hj).2), Nat.lt_of_lt_of_le (hd j hj).2 hK.size⟩⟩, by rw [hl, h.len], h.n1, h.n2⟩
  by_cases hlt : j < w.heap.size
  · exact hU j (hU' j hj hlt)
  · have := h.bel.size; omega
variable {r : Ref}
theorem get_mid (h : SMid w0 w a cb bf k m n sts) (hr : r.ok n) (hR : RdOk sts r.place) :
    Calls Tryz.prog 11 #[.pointer (some ⟨a, 0, none⟩), .pointer (some ⟨cb, 0, none⟩), .agg (refC r)] w fun e w' => GetE w (stR sts k r) k (k + m) e w' := by
  obtain ⟨U, C, ⟨v, Fs, ps, hA⟩, hC, hU, hd⟩ := h.ex
  exact sget_any (Lib.hid hA) hC.at h.len hr hR
theorem whole_mid (h : SMid w0 w a cb bf k m n sts) (hr : r.ok n) (hR : RdOk sts r.place) :
    Calls Tryz.prog 21 #[.pointer (some ⟨a, 0, none⟩), .pointer (some ⟨cb, 0, none⟩), .agg (refC r)] w fun e w' => ∃ g, e = .returned (.slice (some ⟨g, 0, none⟩) (k + m) (k + m)) ∧ RdL BoolR 1 (fun j => w.heap.size ≤ j) w' (some ⟨g, 0, none⟩) (k + m) (wsU (wholeF (stR sts k r) (k + m)).1 (k + m) (k + m)) ∧ Below w.heap.size w w' := by
  obtain ⟨U, C, ⟨v, Fs, ps, hA⟩, hC, hU, hd⟩ := h.ex
  exact swholes_any (Lib.hid hA) hC.at h.len hr hR
end
end Go.Proofs.YteialipoedmmmaaGreat

set_option linter.unusedSimpArgs false
set_option linter.unusedVariables false
namespace Go.Proofs.YteialipoedmmmaaGreat
open Go.RowKit Go.Cib
attribute [local go_sem] cell_set Later.cell Later.frozen Grw.cell Grw.frozen
def smallB (k m s : Int) : Bool := decide (1 ≤ k ∧ 1 ≤ m ∧ k + m ≤ 10 ∧ 1 ≤ s ∧ s ≤ 8)
def geoC (k m s : Int) : Array Value := #[.int .i64 k, .int .i64 m, .int .i64 s]
set_option maxRecDepth 100000 in
set_option maxHeartbeats 4000000 in
theorem small_any {w : World} (k m s : Int) : Calls Tryz.prog 7 #[.agg (geoC k m s)] w fun e w' => e = .returned (.bool (smallB k m s)) ∧ Below w.heap.size w w' := by
  have hma := fun w => may_any (w := w) k m
  have hb0 : Below w.heap.size w (w.alloc (.cells (geoC k m s) 23)) := (Below.refl _ _).alloc (Nat.le_refl _) _
  unfold geoC at hb0 ⊢
  go_enter Tryz.func7, Tryz.ntmps7
  cases hm : mayB k m with
  | false =>
    rw [hm] at hma
    have hs : Hid (smallB k m s = false) := Lib.hid (by
      unfold mayB at hm
      have := of_decide_eq_false hm
      exact decide_eq_false (by omega))
    go_wp2_with (go_at_call 22; refine (hma _).mono ?_; rintro e w3 ⟨rfl, hw3⟩; rw [hw3]; clear hw3 hma)
    go_ret
    exact ⟨by rw [hs.out]; rfl, hb0⟩
  | true =>
    rw [hm] at hma
    have hm' := of_decide_eq_true hm
    have q0 : IntKind.i64.wrap (k + m) = k + m := by rw [IntKind.wrap_i64]; omega
    by_cases h1 : k + m ≤ 10
    · by_cases h2 : s ≥ 1
      · by_cases h3 : s ≤ 8
        · have hs := Lib.hid (show smallB k m s = true from decide_eq_true (by omega))
          go_wp2_with (go_at_call 22; refine (hma _).mono ?_; rintro e w3 ⟨rfl, hw3⟩; rw [hw3]; clear hw3 hma)
          go_ret
          exact ⟨by rw [hs.out]; simp [h3], hb0⟩
        · have hs := Lib.hid (show smallB k m s = false from decide_eq_false (by omega))
          go_wp2_with (go_at_call 22; refine (hma _).mono ?_; rintro e w3 ⟨rfl, hw3⟩; rw [hw3]; clear hw3 hma)
          go_ret
          exact ⟨by rw [hs.out]; simp [h3] <;> omega, hb0⟩
      · have hs := Lib.hid (show smallB k m s = false from decide_eq_false (by omega))
        go_wp2_with (go_at_call 22; refine (hma _).mono ?_; rintro e w3 ⟨rfl, hw3⟩; rw [hw3]; clear hw3 hma)
        go_ret
        exact ⟨by rw [hs.out]; simp [h2] <;> omega, hb0⟩
    · have hs := Lib.hid (show smallB k m s = false from decide_eq_false (by omega))
      go_wp2_with (go_at_call 22; refine (hma _).mono ?_; rintro e w3 ⟨rfl, hw3⟩; rw [hw3]; clear hw3 hma)
      go_ret
      exact ⟨by rw [hs.out]; simp [h1] <;> omega, hb0⟩
set_option maxRecDepth 100000 in
set_option maxHeartbeats 8000000 in
theorem made_law {w0 w : World} {k m n : Nat} (hbel : Below w0.heap.size w0 w) (k1 : 1 ≤ k) (m1 : 1 ≤ m) (km : k + m ≤ 255) (n1 : 1 ≤ n) (n2 : n ≤ 600) :
    Calls Tryz.prog 9 #[.agg (geoC k m n)] w fun e w' => ∃ a cb bf, e = .returned (.tuple #[.pointer (some ⟨a, 0, none⟩), .pointer (some ⟨cb, 0, none⟩)]) ∧ SMid w0 w' a cb bf k m n (List.replicate (k + m) (DSt.new n)) ∧ Below w.heap.size w w' := by
  have hb0 : Below w.heap.size w (w.alloc (.cells (geoC k m n) 23)) := (Below.refl _ _).alloc (Nat.le_refl _) _
  have bG := BoxAt.new w (geoC k m n) 23
  obtain ⟨N, hN⟩ : ∃ N, k + m = N := ⟨_, rfl⟩
  have hnw := fun w => anew_any N n (by omega) (by omega) n1 n2 w
  have hfn := fun w => fldnew_any (w := w)
  have hcn := fun w b base F hb => new_anyS (w := w) (b := b) (base := base) (k := k) (m := m) F hb k1 m1 km
  have q0 : (k : Int) + (m : Int) = (N : Int) := by omega
  have q1 : IntKind.i64.wrap (N : Int) = (N : Int) := by rw [IntKind.wrap_i64]; omega
  have HN := Lib.hid hN
  unfold geoC at hb0 bG ⊢
  go_enter Tryz.func9, Tryz.ntmps9
  go_wp2_with fail
  obtain ⟨wA, hwA⟩ : ∃ wA, w.alloc (.cells #[.int .i64 (k : Int), .int .i64 (m : Int), .int .i64 (n : Int)] 23) = wA := ⟨_, rfl⟩
  rw [hwA] at hb0 bG ⊢
  obtain ⟨q, hq⟩ : ∃ q, w.heap.size = q := ⟨_, rfl⟩
  have HQ := Lib.hid hq
  rw [hq] at bG ⊢
  clear hwA hN hq
  have bGd : BoxAt wA.drew q #[.int .i64 (k : Int), .int .i64 (m : Int), .int .i64 (n : Int)] := bG.keep rfl
  have hd : Below w.heap.size w wA.drew := hb0.drew
  have s0 : wA.drew.cell? ⟨q, 0, none⟩ = some (.int .i64 (k : Int)) ∧ wA.drew.cell? ⟨q, 1, none⟩ = some (.int .i64 (m : Int)) ∧ wA.drew.cell? ⟨q, 2, none⟩ = some (.int .i64 (n : Int)) := ⟨bGd.cell 0, bGd.cell 1, bGd.cell 2⟩
  refine wp_region_held_drew (S := fun w' => w'.cell? ⟨q, 0, none⟩ = some (.int .i64 (k : Int)) ∧ w'.cell? ⟨q, 1, none⟩ = some (.int .i64 (m : Int)) ∧ w'.cell? ⟨q, 2, none⟩ = some (.int .i64 (n : Int))) (by kernel_rfl) (by first | exact s0 | exact s5 | exact s6 | exact s7) (fun hHeld => ?_)
  refine wpAnyH_take (i := 0) (v := ?_) rfl (by kernel_rfl) (by kernel_rfl) (by kernel_rfl) (fun _ _ _ h => h) (Or.inl ⟨by first | kernel_rfl | rfl, ?_⟩) (by assumption) ?_
  rotate_left
  · (intro wq hSw; (try dsimp only at hSw); (try simp (maxSteps := 2000000) only [List.getElem_toArray, List.getElem_cons_succ, List.getElem_cons_zero]); go_simp); try with_reducible rfl
  try simp (maxSteps := 2000000) only [List.getElem_toArray, List.getElem_cons_succ, List.getElem_cons_zero, Act.put, List.setIfInBounds_toArray, List.set_cons_zero, List.set_cons_succ]
  refine wpAnyH_take (i := 1) (v := ?_) rfl (by kernel_rfl) (by kernel_rfl) (by kernel_rfl) (fun _ _ _ h => h) (Or.inl ⟨by first | kernel_rfl | rfl, ?_⟩) (by assumption) ?_
  rotate_left
  · (intro wq hSw; (try dsimp only at hSw); (try simp (maxSteps := 2000000) only [List.getElem_toArray, List.getElem_cons_succ, List.getElem_cons_zero]); go_simp); try with_reducible rfl
  try simp (maxSteps := 2000000) only [List.getElem_toArray, List.getElem_cons_succ, List.getElem_cons_zero, Act.put, List.setIfInBounds_toArray, List.set_cons_zero, List.set_cons_succ]
  refine wpAnyH_take (i := 2) (v := ?_) rfl (by kernel_rfl) (by kernel_rfl) (by kernel_rfl) (fun _ _ _ h => h) (Or.inl ⟨by first | kernel_rfl | rfl, ?_⟩) (by assumption) ?_
  rotate_left
  · (intro wq hSw; (try dsimp only at hSw); (try simp (maxSteps := 2000000) only [List.getElem_toArray, List.getElem_cons_succ, List.getElem_cons_zero]); go_simp); try with_reducible rfl
  try simp (maxSteps := 2000000) only [List.getElem_toArray, List.getElem_cons_succ, List.getElem_cons_zero, Act.put, List.setIfInBounds_toArray, List.set_cons_zero, List.set_cons_succ]
  refine wpAnyH_take (i := 3) (v := ?_) rfl (by kernel_rfl) (by kernel_rfl) (by kernel_rfl) (fun _ _ _ h => h) (Or.inl ⟨by first | kernel_rfl | rfl, ?_⟩) (by assumption) ?_
  rotate_left
  · (intro wq hSw; (try dsimp only at hSw); (try simp (maxSteps := 2000000) only [List.getElem_toArray, List.getElem_cons_succ, List.getElem_cons_zero]); go_simp); try with_reducible rfl
  try simp (maxSteps := 2000000) only [List.getElem_toArray, List.getElem_cons_succ, List.getElem_cons_zero, Act.put, List.setIfInBounds_toArray, List.set_cons_zero, List.set_cons_succ]
  refine wpAnyH_take (i := 4) (v := ?_) rfl (by kernel_rfl) (by kernel_rfl) (by kernel_rfl) (fun _ _ _ h => h) (Or.inl ⟨by first | kernel_rfl | rfl, ?_⟩) (by assumption) ?_
  rotate_left
  · (intro wq hSw; (try dsimp only at hSw); (try simp (maxSteps := 2000000) only [List.getElem_toArray, List.getElem_cons_succ, List.getElem_cons_zero]); go_simp); try with_reducible rfl
  try simp (maxSteps := 2000000) only [List.getElem_toArray, List.getElem_cons_succ, List.getElem_cons_zero, Act.put, List.setIfInBounds_toArray, List.set_cons_zero, List.set_cons_succ]
  refine wpAnyH_take (i := 5) (v := ?_) rfl (by kernel_rfl) (by kernel_rfl) (by kernel_rfl) (fun _ _ _ h => h) (Or.inl ⟨by first | kernel_rfl | rfl, ?_⟩) (by assumption) ?_
  rotate_left
  · (intro wq hSw; (try dsimp only at hSw); (try simp (maxSteps := 2000000) only [List.getElem_toArray, List.getElem_cons_succ, List.getElem_cons_zero]); go_simp); try with_reducible rfl
  try simp (maxSteps := 2000000) only [List.getElem_toArray, List.getElem_cons_succ, List.getElem_cons_zero, Act.put, List.setIfInBounds_toArray, List.set_cons_zero, List.set_cons_succ]
  refine wpAnyH_take (i := 6) (v := ?_) rfl (by kernel_rfl) (by kernel_rfl) (by kernel_rfl) (fun _ _ _ h => h) (Or.inl ⟨by first | kernel_rfl | rfl, ?_⟩) (by assumption) ?_
  rotate_left
  · (intro wq hSw; (try dsimp only at hSw); (try simp (maxSteps := 2000000) only [List.getElem_toArray, List.getElem_cons_succ, List.getElem_cons_zero]); go_simp); try with_reducible rfl
  try simp (maxSteps := 2000000) only [List.getElem_toArray, List.getElem_cons_succ, List.getElem_cons_zero, Act.put, List.setIfInBounds_toArray, List.set_cons_zero, List.set_cons_succ]
  refine wpAnyH_take (i := 9) (v := ?_) rfl (by kernel_rfl) (by kernel_rfl) (by kernel_rfl) (fun _ _ _ h => h) (Or.inl ⟨by first | kernel_rfl | rfl, ?_⟩) (by assumption) ?_
  rotate_left
  · (intro wq hSw; (try dsimp only at hSw); (try simp (maxSteps := 2000000) only [List.getElem_toArray, List.getElem_cons_succ, List.getElem_cons_zero]); go_simp); try with_reducible rfl
  try simp (maxSteps := 2000000) only [List.getElem_toArray, List.getElem_cons_succ, List.getElem_cons_zero, Act.put, List.setIfInBounds_toArray, List.set_cons_zero, List.set_cons_succ]
  refine wpAnyH_take (i := 10) (v := ?_) rfl (by kernel_rfl) (by kernel_rfl) (by kernel_rfl) (fun _ _ _ h => h) (Or.inl ⟨by first | kernel_rfl | rfl, ?_⟩) (by assumption) ?_
  rotate_left
  · (intro wq hSw; (try dsimp only at hSw); (try simp (maxSteps := 2000000) only [List.getElem_toArray, List.getElem_cons_succ, List.getElem_cons_zero]); go_simp); try with_reducible rfl
  try simp (maxSteps := 2000000) only [List.getElem_toArray, List.getElem_cons_succ, List.getElem_cons_zero, Act.put, List.setIfInBounds_toArray, List.set_cons_zero, List.set_cons_succ]
  refine wpAnyH_take (i := 11) (v := ?_) rfl (by kernel_rfl) (by kernel_rfl) (by kernel_rfl) (fun _ _ _ h => h) (Or.inl ⟨by first | kernel_rfl | rfl, ?_⟩) (by assumption) ?_
  rotate_left
  · (intro wq hSw; (try dsimp only at hSw); (try simp (maxSteps := 2000000) only [List.getElem_toArray, List.getElem_cons_succ, List.getElem_cons_zero]); go_simp); try with_reducible rfl
  try simp (maxSteps := 2000000) only [List.getElem_toArray, List.getElem_cons_succ, List.getElem_cons_zero, Act.put, List.setIfInBounds_toArray, List.set_cons_zero, List.set_cons_succ]
  refine wpAnyH_take (i := 12) (v := ?_) rfl (by kernel_rfl) (by kernel_rfl) (by kernel_rfl) (fun _ _ _ h => h) (Or.inl ⟨by first | kernel_rfl | rfl, ?_⟩) (by assumption) ?_
  rotate_left
  · (intro wq hSw; (try dsimp only at hSw); (try simp (maxSteps := 2000000) only [List.getElem_toArray, List.getElem_cons_succ, List.getElem_cons_zero]); go_simp); try with_reducible rfl
  try simp (maxSteps := 2000000) only [List.getElem_toArray, List.getElem_cons_succ, List.getElem_cons_zero, Act.put, List.setIfInBounds_toArray, List.set_cons_zero, List.set_cons_succ]
  refine wpAnyH_ready (rs := [7]) (by kernel_rfl) (by simp) ?_
  refine AllReadyH.cons rfl (fun K hK => ?_) AllReadyH.nil
  try simp (maxSteps := 2000000) only [List.getElem_toArray, List.getElem_cons_succ, List.getElem_cons_zero]
  go_simp
  go_at_call 25
  refine (hnw _).mono ?_
  clear hnw
  rintro e w5 ⟨a, U, rfl, hA, hU, hb5⟩
  have bG5 := bGd.below hb5
  have s5 : w5.cell? ⟨q, 0, none⟩ = some (.int .i64 (k : Int)) ∧ w5.cell? ⟨q, 1, none⟩ = some (.int .i64 (m : Int)) ∧ w5.cell? ⟨q, 2, none⟩ = some (.int .i64 (n : Int)) := ⟨bG5.cell 0, bG5.cell 1, bG5.cell 2⟩
  have hw5 : Below w.heap.size w w5 := hd.trans (hb5.mono hd.size)
  have HA5 := Lib.hid hA
  have HU5 := Lib.hid hU
  clear hA hU
  try (go_wp2_with fail)
  refine hK.out _ _ (by first | exact s0 | exact s5 | exact s6 | exact s7) (fun hHeld => ?_)
  clear hK K
  try simp (maxSteps := 2000000) only [List.getElem_toArray, List.getElem_cons_succ, List.getElem_cons_zero, Act.put, List.setIfInBounds_toArray, List.set_cons_zero, List.set_cons_succ]
  refine wpAnyH_ready (rs := [8]) (by kernel_rfl) (by simp) ?_
  refine AllReadyH.cons rfl (fun K hK => ?_) AllReadyH.nil
  try simp (maxSteps := 2000000) only [List.getElem_toArray, List.getElem_cons_succ, List.getElem_cons_zero]
  go_simp
  go_at_call 27
  refine (hfn _).mono ?_
  clear hfn
  rintro e w6 ⟨rfl, hF, hb6⟩
  have bG6 := bG5.below hb6
  have s6 : w6.cell? ⟨q, 0, none⟩ = some (.int .i64 (k : Int)) ∧ w6.cell? ⟨q, 1, none⟩ = some (.int .i64 (m : Int)) ∧ w6.cell? ⟨q, 2, none⟩ = some (.int .i64 (n : Int)) := ⟨bG6.cell 0, bG6.cell 1, bG6.cell 2⟩
  have hw6 : Below w.heap.size w w6 := hw5.trans (hb6.mono hw5.size)
  have HF6 := Lib.hid hF
  clear hF
  try (go_wp2_with fail)
  refine hK.out _ _ (by first | exact s0 | exact s5 | exact s6 | exact s7) (fun hHeld => ?_)
  clear hK K
  try simp (maxSteps := 2000000) only [List.getElem_toArray, List.getElem_cons_succ, List.getElem_cons_zero, Act.put, List.setIfInBounds_toArray, List.set_cons_zero, List.set_cons_succ]
  refine wpAnyH_ready (rs := [13]) (by kernel_rfl) (by simp) ?_
  refine AllReadyH.cons rfl (fun K hK => ?_) AllReadyH.nil
  try simp (maxSteps := 2000000) only [List.getElem_toArray, List.getElem_cons_succ, List.getElem_cons_zero]
  go_simp
  go_at_call 26
  refine (hcn _ _ w5.heap.size HF6.out (Nat.le_refl _)).mono ?_
  clear hcn
  rintro e w7 ⟨cb, rfl, hC, hkp⟩
  have hk57 : Keep (fun j => w5.heap.size ≤ j) w5 w7 := (Keep.of_below (F := fun j => w5.heap.size ≤ j) hb6).trans hkp (fun j e _ => by rw [e]; exact Nat.le_refl _)
  have hb57 : Below w5.heap.size w5 w7 := hk57.below (Nat.le_refl _) (fun j h => h)
  have bG7 := bG5.below hb57
  have s7 : w7.cell? ⟨q, 0, none⟩ = some (.int .i64 (k : Int)) ∧ w7.cell? ⟨q, 1, none⟩ = some (.int .i64 (m : Int)) ∧ w7.cell? ⟨q, 2, none⟩ = some (.int .i64 (n : Int)) := ⟨bG7.cell 0, bG7.cell 1, bG7.cell 2⟩
  have hw7 : Below w.heap.size w w7 := hw5.trans (hb57.mono hw5.size)
  have HC7 := Lib.hid hC
  clear hC
  try (go_wp2_with fail)
  refine hK.out _ _ (by first | exact s0 | exact s5 | exact s6 | exact s7) (fun hHeld => ?_)
  clear hK K
  try simp (maxSteps := 2000000) only [List.getElem_toArray, List.getElem_cons_succ, List.getElem_cons_zero, Act.put, List.setIfInBounds_toArray, List.set_cons_zero, List.set_cons_succ]
  refine wpAnyH_take (i := 14) (v := ?_) rfl (by kernel_rfl) (by kernel_rfl) (by kernel_rfl) (fun _ _ _ h => h) (Or.inl ⟨by first | kernel_rfl | rfl, ?_⟩) (by assumption) ?_
  rotate_left
  · (intro wq hSw; (try dsimp only at hSw); (try simp (maxSteps := 2000000) only [List.getElem_toArray, List.getElem_cons_succ, List.getElem_cons_zero]); go_simp); try with_reducible rfl
  try simp (maxSteps := 2000000) only [List.getElem_toArray, List.getElem_cons_succ, List.getElem_cons_zero, Act.put, List.setIfInBounds_toArray, List.set_cons_zero, List.set_cons_succ]
  refine wpAnyH_take (i := 15) (v := ?_) rfl (by kernel_rfl) (by kernel_rfl) (by kernel_rfl) (fun _ _ _ h => h) (Or.inl ⟨by first | kernel_rfl | rfl, ?_⟩) (by assumption) ?_
  rotate_left
  · (intro wq hSw; (try dsimp only at hSw); (try simp (maxSteps := 2000000) only [List.getElem_toArray, List.getElem_cons_succ, List.getElem_cons_zero]); go_simp); try with_reducible rfl
  try simp (maxSteps := 2000000) only [List.getElem_toArray, List.getElem_cons_succ, List.getElem_cons_zero, Act.put, List.setIfInBounds_toArray, List.set_cons_zero, List.set_cons_succ]
  refine wpAnyH_done (by kernel_rfl) ?_ _
  have hsz0 : w.heap.size ≤ wA.drew.heap.size := hd.size
  have HFIN := Lib.hid (show SMid w0 w7 a cb w5.heap.size k m n (List.replicate N (DSt.new n)) from
    ⟨hbel.trans (hw7.mono hbel.size), ⟨U, fun j => w5.heap.size ≤ j ∧ j < w7.heap.size, HA5.out.below hb57, HC7.out.bound, fun j hj => by have h1 := HU5.out j hj; have h2 := hbel.size; omega, fun j hj => ⟨fun hu => by have := HA5.out.lt hu; omega, hj.2⟩⟩, by rw [List.length_replicate, HN.out], n1, n2⟩)
  have HB7 := Lib.hid hw7
  clear s0 s5 s6 s7 bG bGd bG5 bG6 bG7 hHeld hb5 hb6 hkp hk57 hb57 hw5 hw6 hw7 hd hb0
  go_wp2_with fail
  go_ret2
  exact ⟨a, cb, _, rfl, by rw [HN.out]; exact HFIN.out, HB7.out⟩
end Go.Proofs.YteialipoedmmmaaGreat

set_option linter.unusedSimpArgs false
set_option linter.unusedVariables false
namespace Go.Proofs.YteialipoedmmmaaGreat
open Go.RowKit Go.Cib
attribute [local go_sem] cell_set Later.cell Later.frozen Grw.cell Grw.frozen
def cntP (P : Nat → Bool) (N : Nat) : Nat := ((List.range N).filter P).length
def GotE (w : World) (k c len : Nat) (xs : List Nat) (e : Ending) (w' : World) : Prop := Below w.heap.size w w' ∧
  ((c < k ∧ e = .returned (.tuple #[.slice none 0 0, .int .i64 130])) ∨
   (k ≤ c ∧ ∃ A cp, e = .returned (.tuple #[.slice A len cp, .int .i64 0]) ∧ len ≤ cp ∧ RdL ByR 1 (fun j => w.heap.size ≤ j) w' A len xs))
section
variable {w0 w : World} {a cb bf k m n : Nat} {sts : List DSt} {r : Ref} {P : Nat → Bool} {xs : List Nat}
theorem std_whole (hP : ∀ i, i < k + m → stR sts k r i = if P i = true then some (shR r i xs.length (codeRow k 44 (splF 44 xs k k) i)) else none) : (wholeF (stR sts k r) (k + m)).1 = stdL P r xs.length (codeRow k 44 (splF 44 xs k k)) (k + m) ∧ (0 < cntP P (k + m) → (wholeF (stR sts k r) (k + m)).2 = xs.length) := by
  obtain ⟨h1, h2⟩ := whole_std hP (k + m) (Nat.le_refl _)
  refine ⟨h1, fun hc => h2 ?_⟩
  rw [h1, stdL_len]
  exact hc
theorem get_std (h : SMid w0 w a cb bf k m n sts) (hr : r.ok n) (hV : ∀ st ∈ sts, GoodV (st.seen r.place)) (hx : Byt xs) (hl : xs.length ≤ k * 44)
    (hP : ∀ i, i < k + m → stR sts k r i = if P i = true then some (shR r i xs.length (codeRow k 44 (splF 44 xs k k) i)) else none) :
    Calls Tryz.prog 11 #[.pointer (some ⟨a, 0, none⟩), .pointer (some ⟨cb, 0, none⟩), .agg (refC r)] w fun e w' => GotE w k (cntP P (k + m)) xs.length xs e w' := by
  refine (get_mid h hr (rdOk_of hV)).mono ?_
  obtain ⟨e1, e2⟩ := std_whole hP
  have hk1 := h.k1
  have hcl : (wholeF (stR sts k r) (k + m)).1.length = cntP P (k + m) := by rw [e1, stdL_len]; rfl
  rintro e w' ⟨hb, ⟨hc, rfl⟩ | ⟨hc, A, c, rfl, hcc, hr2⟩⟩
  · exact ⟨hb, .inl ⟨by rw [← hcl]; exact hc, rfl⟩⟩
  · rw [hcl] at hc
    have e3 := e2 (by omega)
    rw [e1, e3, stdL_rows] at hr2
    have hD := splF_shp (width := 44) hx k
    rw [out_std (m := m) hD (by omega) hk1 h.km (by unfold cntP at hc; omega) (by omega), allR_data hD, spl_pre k hl] at hr2
    rw [e3] at hcc
    exact ⟨hb, .inr ⟨by omega, A, c, by rw [e3], hcc, hr2⟩⟩
theorem whole_stdM (h : SMid w0 w a cb bf k m n sts) (hr : r.ok n) (hV : ∀ st ∈ sts, GoodV (st.seen r.place))
    (hP : ∀ i, i < k + m → stR sts k r i = if P i = true then some (shR r i xs.length (codeRow k 44 (splF 44 xs k k) i)) else none) :
    Calls Tryz.prog 21 #[.pointer (some ⟨a, 0, none⟩), .pointer (some ⟨cb, 0, none⟩), .agg (refC r)] w fun e w' => ∃ g, e = .returned (.slice (some ⟨g, 0, none⟩) (k + m) (k + m)) ∧ RdL BoolR 1 (fun j => w.heap.size ≤ j) w' (some ⟨g, 0, none⟩) (k + m) ((List.range (k + m)).map P) ∧ Below w.heap.size w w' := by
  have h1 := whole_mid h hr (rdOk_of hV)
  rw [(std_whole hP).1, stdL_whole] at h1
  exact h1
end
/-- What a drive is behind a Put. -/
def putQ (n k N : Nat) (r : Ref) (xs : List Nat) (d : Nat) (st : DSt) : DSt := wrG n r xs.length (fun _ => true) (codeRow k 44 (splF 44 xs k k)) N d st
def putX (k N : Nat) (r : Ref) (xs : List Nat) (d : Nat) : Shd := shR r (ixN N r.place d) xs.length (codeRow k 44 (splF 44 xs k k) (ixN N r.place d))
theorem row44 {xs : List Nat} (hx : Byt xs) (k i : Nat) : (codeRow k 44 (splF 44 xs k k) i).length = 44 ∧ Byt (codeRow k 44 (splF 44 xs k k) i) := codeRow_ok (splF_shp (width := 44) hx k) i
theorem shR_ok {r : Ref} {n : Nat} (hr : r.ok n) (hn : n ≤ 600) (hg : Hid (r.gen < 2 ^ 64)) {i size : Nat} (hi : i < 256) (hs : size < 65536) {row : List Nat} (hl : row.length = 44) (hb : Byt row) : (shR r i size row).ok :=
  ⟨by have := hr.k4; show r.kind < 256; omega, hi, by have := hr.p; show r.place < 65536; omega, hg.out, hs, hl, hb⟩
theorem putX_ok {r : Ref} {n k N : Nat} (hr : r.ok n) (hn : n ≤ 600) (hg : Hid (r.gen < 2 ^ 64)) {xs : List Nat} (hx : Byt xs) (hl : xs.length < 65536) (hN : 1 ≤ N) (hN2 : N ≤ 255) (d : Nat) : (putX k N r xs d).ok :=
  shR_ok hr hn hg (by have := ixN_lt (n := N) (p := r.place) (d := d) hN; omega) hl (row44 hx k _).1 (row44 hx k _).2
theorem putX_kind {r : Ref} {n k N : Nat} (hr : r.ok n) (xs : List Nat) (d : Nat) : kindB (putX k N r xs d).kind = true := decide_eq_true ⟨hr.k1, hr.k4⟩
theorem putQ_live {n k N d : Nat} {r : Ref} (hr : r.ok n) {xs : List Nat} (hx : Byt xs) {st : DSt} (h : st.dead = false) : putQ n k N r xs d st = st.write (r.place : Int) (wrI (putX k N r xs d)) := by
  unfold putQ wrG
  rw [if_pos rfl]
  exact wrDA_live h hr.p (wrI_len (x := putX k N r xs d) (row44 hx k _).1)
theorem putQ_cache {n k N d : Nat} {r : Ref} {xs : List Nat} {st : DSt} : (putQ n k N r xs d st).cache.length ≤ st.cache.length + 1 := by
  unfold putQ wrG
  rw [if_pos rfl]
  exact wrDA_cache _ _ _
def liveC (sts : List DSt) : Nat := cntP (fun d => !deadL sts d) sts.length
section
variable {w0 w : World} {a cb bf k m n : Nat} {sts : List DSt} {r : Ref} {xs : List Nat}
end
/-! ### Drives that are dead -/
def goneS (n : Nat) (l : List Int) (d : Nat) (st : DSt) : DSt := if (d : Int) ∈ l then DSt.gone n else st
theorem goneS_nil (n : Nat) (sts : List DSt) : sts.mapIdx (goneS n []) = sts := by
  apply List.ext_getElem?
  intro d
  rw [List.getElem?_mapIdx]
  cases sts[d]? with
  | none => rfl
  | some st => simp [goneS]
theorem failA_gone (n : Nat) (sts : List DSt) (l : List Int) (d : Int) : failA n (sts.mapIdx (goneS n l)) d = sts.mapIdx (goneS n (l ++ [d])) := by
  unfold failA
  rw [List.length_mapIdx]
  by_cases hd : 0 ≤ d ∧ d < sts.length
  · rw [if_pos hd]
    obtain ⟨j, rfl⟩ : ∃ j : Nat, d = (j : Int) := ⟨d.toNat, by omega⟩
    rw [Int.toNat_natCast]
    have hj : j < sts.length := by omega
    apply List.ext_getElem?
    intro i
    rw [List.getElem?_mapIdx]
    by_cases e : j = i
    · subst e
      rw [List.getElem?_set_self (by rw [List.length_mapIdx]; exact hj), List.getElem?_eq_getElem hj]
      unfold goneS
      simp
    · rw [List.getElem?_set_ne e, List.getElem?_mapIdx]
      cases sts[i]? with
      | none => rfl
      | some st =>
        unfold goneS
        have : ¬ ((i : Int) = (j : Int)) := by omega
        simp [this]
  · rw [if_neg hd]
    apply List.ext_getElem?
    intro i
    rw [List.getElem?_mapIdx, List.getElem?_mapIdx]
    cases hi : sts[i]? with
    | none => rfl
    | some st =>
      have hil := (List.getElem?_eq_some_iff.1 hi).1
      unfold goneS
      have : ¬ ((i : Int) = d) := by omega
      simp [this]
theorem gone_seen {n z : Nat} (hz : z < n) : (DSt.gone n).seen z = rep 0 := DSt.seen_new hz
end Go.Proofs.YteialipoedmmmaaGreat

set_option linter.unusedSimpArgs false
set_option linter.unusedVariables false
namespace Go.Proofs.YteialipoedmmmaaGreat
open Go.RowKit Go.Cib
attribute [local go_sem] cell_set Later.cell Later.frozen Grw.cell Grw.frozen
def HasS (k N : Nat) (r : Ref) (xs : List Nat) (d : Nat) (st : DSt) : Prop := st.dead = false ∧ st.seen r.place = wrI (putX k N r xs d)
def LostS (k : Nat) (r : Ref) (st : DSt) : Prop := GoodV (st.seen r.place) ∧ ∀ i, rdS st k r i = none
section
variable {sts : List DSt} {k N n : Nat} {r : Ref} {xs : List Nat} {g : Nat → Bool}
theorem view_of (hr : r.ok n) (hn : n ≤ 600) (hg : Hid (r.gen < 2 ^ 64)) (hx : Byt xs) (hk : k ≤ 255) (hl : xs.length ≤ k * 44) (hN : 1 ≤ N) (hN2 : N ≤ 255) (hlen : sts.length = N)
    (hc : ∀ d st, sts[d]? = some st → (g d = true ∧ HasS k N r xs d st) ∨ (g d = false ∧ LostS k r st)) :
    (∀ st ∈ sts, GoodV (st.seen r.place)) ∧ ∀ i, i < N → stR sts k r i = if g (homeN N r.place i) = true then some (shR r i xs.length (codeRow k 44 (splF 44 xs k k) i)) else none := by
  have hX := fun d => putX_ok (k := k) hr hn hg hx (by omega) hN hN2 d
  constructor
  · intro st hst
    obtain ⟨d, hd, rfl⟩ := List.mem_iff_getElem.1 hst
    rcases hc d _ (List.getElem?_eq_getElem hd) with ⟨_, h⟩ | ⟨_, h⟩
    · rw [h.2]; exact goodV_wr (hX d)
    · exact h.1
  · intro i hi
    have hlt : homeN N r.place i < sts.length := by rw [hlen]; exact homeN_lt hN
    have hst : sts[homeN sts.length r.place i]? = some sts[homeN N r.place i] := by rw [hlen]; exact List.getElem?_eq_getElem hlt
    rw [stR_at hst]
    rcases hc _ _ (List.getElem?_eq_getElem hlt) with ⟨h0, h⟩ | ⟨h0, h⟩
    · rw [if_pos h0, rdS_snc (hX _) (putX_kind hr xs _) h.2]
      have e : putX k N r xs (homeN N r.place i) = shR r i xs.length (codeRow k 44 (splF 44 xs k k) i) := by unfold putX; rw [ix_home hN hi]
      rw [e, if_pos ⟨h.1, isB_same r i _ _, hl⟩]
    · rw [if_neg (by rw [h0]; simp), h.2]
theorem lost_zero {st : DSt} (h : st.seen r.place = rep 0) : LostS k r st := ⟨by rw [h]; exact goodV_zero, fun _ => rdS_zero h⟩
theorem has_put {st : DSt} (hr : r.ok n) (hx : Byt xs) (h : st.dead = false) {d : Nat} : HasS k N r xs d (putQ n k N r xs d st) := by
  rw [putQ_live hr hx h]
  exact ⟨h, by rw [DSt.seen_write, if_pos rfl]⟩
end
section
variable {w0 w : World} {a cb bf k m n : Nat} {sts : List DSt} {r : Ref} {g : Nat → Bool} {xs : List Nat}
/-- Get, by which drives have their shard. -/
theorem get_view (h : SMid w0 w a cb bf k m n sts) (hr : r.ok n) (hg : Hid (r.gen < 2 ^ 64)) (hx : Byt xs) (hl : xs.length ≤ k * 44)
    (hc : ∀ d st, sts[d]? = some st → (g d = true ∧ HasS k (k + m) r xs d st) ∨ (g d = false ∧ LostS k r st)) :
    Calls Tryz.prog 11 #[.pointer (some ⟨a, 0, none⟩), .pointer (some ⟨cb, 0, none⟩), .agg (refC r)] w fun e w' => GotE w k (cntP g (k + m)) xs.length xs e w' := by
  have h1 := h.k1
  have h2 := h.km
  obtain ⟨v1, v2⟩ := view_of (N := k + m) hr h.n2 hg hx (by omega) hl (by omega) h2 h.len hc
  have h3 := get_std (P := fun i => g (homeN (k + m) r.place i)) h hr v1 hx hl v2
  have e : cntP (fun i => g (homeN (k + m) r.place i)) (k + m) = cntP g (k + m) := home_count (by omega) g
  rw [e] at h3
  exact h3
theorem whole_view (h : SMid w0 w a cb bf k m n sts) (hr : r.ok n) (hg : Hid (r.gen < 2 ^ 64)) (hx : Byt xs) (hl : xs.length ≤ k * 44)
    (hc : ∀ d st, sts[d]? = some st → (g d = true ∧ HasS k (k + m) r xs d st) ∨ (g d = false ∧ LostS k r st)) :
    Calls Tryz.prog 21 #[.pointer (some ⟨a, 0, none⟩), .pointer (some ⟨cb, 0, none⟩), .agg (refC r)] w fun e w' => ∃ b, e = .returned (.slice (some ⟨b, 0, none⟩) (k + m) (k + m)) ∧ RdL BoolR 1 (fun j => w.heap.size ≤ j) w' (some ⟨b, 0, none⟩) (k + m) ((List.range (k + m)).map fun i => g (homeN (k + m) r.place i)) ∧ Below w.heap.size w w' := by
  have h1 := h.k1
  have h2 := h.km
  obtain ⟨v1, v2⟩ := view_of (N := k + m) hr h.n2 hg hx (by omega) hl (by omega) h2 h.len hc
  exact whole_stdM (P := fun i => g (homeN (k + m) r.place i)) h hr v1 v2
end
/-! ### Drives made, a stripe put, some dead -/
def newS (n N : Nat) : List DSt := List.replicate N (DSt.new n)
theorem newS_at {n N d : Nat} {st : DSt} (h : (newS n N)[d]? = some st) : st = DSt.new n ∧ d < N := by
  unfold newS at h
  rw [List.getElem?_replicate] at h
  split at h
  · rename_i h2; cases h; exact ⟨rfl, h2⟩
  · cases h
theorem live_new (n N : Nat) : liveC (newS n N) = N := by
  unfold liveC cntP
  rw [show (newS n N).length = N by unfold newS; simp, List.filter_eq_self.2, List.length_range]
  intro d hd
  have h := List.mem_range.1 hd
  unfold deadL newS
  rw [List.getElem?_replicate, if_pos h]; rfl
def putS (n k N : Nat) (r : Ref) (xs : List Nat) : List DSt := (newS n N).mapIdx (putQ n k N r xs)
theorem putS_at {n k N d : Nat} {r : Ref} {xs : List Nat} {st : DSt} (h : (putS n k N r xs)[d]? = some st) : st = putQ n k N r xs d (DSt.new n) ∧ d < N := by
  unfold putS at h
  rw [List.getElem?_mapIdx] at h
  cases h1 : (newS n N)[d]? with
  | none => rw [h1] at h; cases h
  | some s1 =>
    rw [h1] at h
    obtain ⟨rfl, h2⟩ := newS_at h1
    exact ⟨(Option.some.inj h).symm, h2⟩
theorem mapIdx_at {f : Nat → DSt → DSt} {sts : List DSt} {d : Nat} {st : DSt} (h : (sts.mapIdx f)[d]? = some st) : ∃ s1, sts[d]? = some s1 ∧ st = f d s1 := by
  rw [List.getElem?_mapIdx] at h
  cases h1 : sts[d]? with
  | none => rw [h1] at h; cases h
  | some s1 => rw [h1] at h; exact ⟨s1, rfl, (Option.some.inj h).symm⟩
end Go.Proofs.YteialipoedmmmaaGreat

set_option linter.unusedSimpArgs false
set_option linter.unusedVariables false
namespace Go.Proofs.YteialipoedmmmaaGreat
open Go.RowKit Go.Cib
attribute [local go_sem] cell_set Later.cell Later.frozen Grw.cell Grw.frozen
structure GoodD (n most : Nat) (l D : List Int) : Prop where
  nd : D.Nodup
  rg : ∀ x ∈ D, 0 ≤ x ∧ x < (n : Int)
  ln : D.length ≤ most
  sub : ∀ x ∈ D, x ∈ l
theorem GoodD.nil {n most : Nat} {l : List Int} : GoodD n most l [] := ⟨List.nodup_nil, fun x h => by simp at h, Nat.zero_le _, fun x h => by simp at h⟩
theorem GoodD.push {n most : Nat} {l D : List Int} (h : GoodD n most l D) {x : Int} (hx : 0 ≤ x ∧ x < (n : Int)) (hl : x ∈ l) (hn : x ∉ D) (hm : D.length < most) : GoodD n most l (D ++ [x]) :=
  ⟨by rw [List.nodup_append]; exact ⟨h.nd, by simp, fun a ha b hb => by simp at hb; subst hb; exact fun e => hn (e ▸ ha)⟩, fun y hy => by
    rcases List.mem_append.1 hy with h1 | h1
    · exact h.rg y h1
    · simp at h1; subst h1; exact hx, by rw [List.length_append]; simp; omega, fun y hy => by
    rcases List.mem_append.1 hy with h1 | h1
    · exact h.sub y h1
    · simp at h1; subst h1; exact hl⟩
end Go.Proofs.YteialipoedmmmaaGreat

set_option linter.unusedSimpArgs false
set_option linter.unusedVariables false
namespace Go.Proofs.YteialipoedmmmaaGreat
open Go.RowKit Go.Cib
attribute [local go_sem] cell_set Later.cell Later.frozen Grw.cell Grw.frozen
theorem cntP_congr {p q : Nat → Bool} {n : Nat} (h : ∀ d, d < n → p d = q d) : cntP p n = cntP q n := by
  unfold cntP
  rw [List.filter_congr fun x hx => h x (List.mem_range.1 hx)]
theorem cntP_all (n : Nat) : cntP (fun _ => true) n = n := by unfold cntP; rw [List.filter_eq_self.2 (fun a _ => rfl), List.length_range]
theorem live_cnt {sts : List DSt} {g : Nat → Bool} (h : ∀ d st, sts[d]? = some st → st.dead = !g d) : liveC sts = cntP g sts.length := by
  unfold liveC
  refine cntP_congr fun d hd => ?_
  unfold deadL
  rw [List.getElem?_eq_getElem hd]
  have h2 := h d _ (List.getElem?_eq_getElem hd)
  simp only [Option.map_some, Option.getD_some, h2, Bool.not_not]
/-- As list of drives: those in the list died. -/
theorem goneS_at {n d : Nat} {sts : List DSt} {l : List Int} {st : DSt} (h : (sts.mapIdx (goneS n l))[d]? = some st) : ((d : Int) ∈ l ∧ st = DSt.gone n) ∨ ((d : Int) ∉ l ∧ sts[d]? = some st) := by
  obtain ⟨s1, h1, rfl⟩ := mapIdx_at h
  unfold goneS
  by_cases hl : (d : Int) ∈ l
  · rw [if_pos hl]; exact .inl ⟨hl, rfl⟩
  · rw [if_neg hl]; exact .inr ⟨hl, h1⟩
end Go.Proofs.YteialipoedmmmaaGreat

set_option linter.unusedSimpArgs false
set_option linter.unusedVariables false
namespace Go.Proofs.YteialipoedmmmaaGreat
open Go.RowKit Go.Cib
attribute [local go_sem] cell_set Later.cell Later.frozen Grw.cell Grw.frozen

section
variable {d bad : Bool} {n : Nat} {z off mask : Int}
end
end Go.Proofs.YteialipoedmmmaaGreat

set_option linter.unusedSimpArgs false
set_option linter.unusedVariables false
namespace Go.Proofs.YteialipoedmmmaaGreat
open Go.RowKit Go.Cib
attribute [local go_sem] cell_set Later.cell Later.frozen Grw.cell Grw.frozen
/-- As SMid, and none of X's blocks is the drives'. -/
def SMidX (X : Nat → Prop) (w0 w : World) (a cb bf k m n : Nat) (sts : List DSt) : Prop :=
  Below w0.heap.size w0 w ∧ (∃ U C, ArrAt U w a n sts ∧ CodF C w cb bf k m ∧ (∀ j, U j → w0.heap.size ≤ j) ∧ (∀ j, C j → ¬ U j ∧ j < w.heap.size) ∧ (∀ j, X j → ¬ U j ∧ j < w.heap.size)) ∧ sts.length = k + m ∧ 1 ≤ n ∧ n ≤ 600
/-- X's blocks are as they were. -/
def KpX (X : Nat → Prop) (w w' : World) : Prop := (∀ j, X j → w'.heap[j]? = w.heap[j]?) ∧ w.heap.size ≤ w'.heap.size
theorem KpX.refl {X : Nat → Prop} {w : World} : KpX X w w := ⟨fun _ _ => rfl, Nat.le_refl _⟩
theorem KpX.trans {X : Nat → Prop} {w w' w2 : World} (h : KpX X w w') (h2 : KpX X w' w2) : KpX X w w2 := ⟨fun j hj => (h2.1 j hj).trans (h.1 j hj), Nat.le_trans h.2 h2.2⟩
theorem KpX.mono {X Y : Nat → Prop} {w w' : World} (h : KpX X w w') (hy : ∀ j, Y j → X j) : KpX Y w w' := ⟨fun j hj => h.1 j (hy j hj), h.2⟩
theorem KpX.of_below {X : Nat → Prop} {w w' : World} (h : Below w.heap.size w w') (hx : ∀ j, X j → j < w.heap.size) : KpX X w w' := ⟨fun j hj => h.block j (hx j hj), h.size⟩
theorem KpX.box {X : Nat → Prop} {w w' : World} (h : KpX X w w') {b : Nat} {cs : Array Value} (hb : BoxAt w b cs) (hx : X b) : BoxAt w' b cs := hb.keep (h.1 b hx)
theorem KpX.rd {X : Nat → Prop} {w w' : World} (h : KpX X w w') {T : Type} {R : (Nat → Prop) → World → List Value → T → Prop} (hR : Stable R) {s : Nat} {S : Nat → Prop} {A : Option Addr} {g : Nat} {xs : List T} (r : RdL R s S w A g xs) (hx : ∀ j, S j → X j) : RdL R s S w' A g xs :=
  r.stable hR fun j hj _ => ⟨hj, h.1 j (hx j hj)⟩
section
variable {X Y : Nat → Prop} {w0 w w' : World} {a cb bf k m n : Nat} {sts : List DSt} {r : Ref}
theorem SMidX.mid (h : SMidX X w0 w a cb bf k m n sts) : SMid w0 w a cb bf k m n sts := by
  obtain ⟨hb, ⟨U, C, hA, hC, hU, hd, _⟩, hl, h1, h2⟩ := h
  exact ⟨hb, ⟨U, C, hA, hC, hU, hd⟩, hl, h1, h2⟩
theorem SMid.x0 (h : SMid w0 w a cb bf k m n sts) : SMidX (fun j => j < w0.heap.size) w0 w a cb bf k m n sts := by
  obtain ⟨U, C, hA, hC, hU, hd⟩ := h.ex
  exact ⟨h.bel, ⟨U, C, hA, hC, hU, hd, fun j hj => ⟨fun hu => by have := hU j hu; omega, Nat.lt_of_lt_of_le hj h.bel.size⟩⟩, h.len, h.n1, h.n2⟩
theorem SMidX.bel (h : SMidX X w0 w a cb bf k m n sts) : Below w0.heap.size w0 w := h.1
theorem SMidX.len (h : SMidX X w0 w a cb bf k m n sts) : sts.length = k + m := h.2.2.1
theorem SMidX.lt (h : SMidX X w0 w a cb bf k m n sts) {j : Nat} (hj : X j) : j < w.heap.size := by
  obtain ⟨_, ⟨U, C, _, _, _, _, hx⟩, _⟩ := h
  exact (hx j hj).2
theorem SMidX.sub (h : SMidX X w0 w a cb bf k m n sts) (hy : ∀ j, Y j → X j) : SMidX Y w0 w a cb bf k m n sts := by
  obtain ⟨hb, ⟨U, C, hA, hC, hU, hd, hx⟩, hl, h1, h2⟩ := h
  exact ⟨hb, ⟨U, C, hA, hC, hU, hd, fun j hj => hx j (hy j hj)⟩, hl, h1, h2⟩
/-- New blocks stay, too. -/
theorem SMidX.below (h : SMidX X w0 w a cb bf k m n sts) (hb : Below w.heap.size w w') : SMidX (fun j => X j ∨ (w.heap.size ≤ j ∧ j < w'.heap.size)) w0 w' a cb bf k m n sts := by
  obtain ⟨h0, ⟨U, C, hA, hC, hU, hd, hx⟩, hl, h1, h2⟩ := h
  refine ⟨h0.trans (hb.mono h0.size), ⟨U, C, hA.below hb, hC.below hb, hU, fun j hj => ⟨(hd j hj).1, Nat.lt_of_lt_of_le (hd j hj).2 hb.size⟩, fun j hj => ?_⟩, hl, h1, h2⟩
  rcases hj with hj | hj
  · exact ⟨(hx j hj).1, Nat.lt_of_lt_of_le (hx j hj).2 hb.size⟩
  · exact ⟨fun hu => by have := hA.lt hu; omega, hj.2⟩
theorem SMidX.below' (h : SMidX X w0 w a cb bf k m n sts) (hb : Below w.heap.size w w') : SMidX X w0 w' a cb bf k m n sts := (h.below hb).sub fun j hj => .inl hj
/-- A call that went on with the drives. -/
theorem SMidX.step {sts' : List DSt} {f : FuncId} {args : Array Value} {Q : Ending → World → Prop} (h : SMidX X w0 w a cb bf k m n sts) (hl : sts'.length = sts.length)
    (hc : ∀ U, ArrAt U w a n sts → (∀ j, U j → w0.heap.size ≤ j) → (∀ j, X j → ¬ U j ∧ j < w.heap.size) → Calls Tryz.prog f args w fun e w' => Q e w' ∧ AUpd U w w' a n sts') :
    Calls Tryz.prog f args w fun e w' => Q e w' ∧ SMidX X w0 w' a cb bf k m n sts' ∧ KpX X w w' := by
  obtain ⟨h0, ⟨U, C, hA, hC, hU, hd, hx⟩, hl0, h1, h2⟩ := h
  refine (hc U hA hU hx).mono ?_
  rintro e w' ⟨hq, U', hA', hU', hK⟩
  refine ⟨hq, ⟨h0.trans (hK.below h0.size hU), ⟨U', C, hA', hC.keep hK (fun j hj => (hd j hj).1), fun j hj => ?_, fun j hj => ⟨fun hu => (hd j hj).1 (hU' j hu (hd j hj).2), Nat.lt_of_lt_of_le (hd j hj).2 hK.size⟩, fun j hj => ⟨fun hu => (hx j hj).1 (hU' j hu (hx j hj).2), Nat.lt_of_lt_of_le (hx j hj).2 hK.size⟩⟩, by rw [hl, hl0], h1, h2⟩, fun j hj => hK.block j (hx j hj).2 (hx j hj).1, hK.size⟩
  by_cases hlt : j < w.heap.size
  · exact hU j (hU' j hj hlt)
  · have := h0.size; omega
theorem SMidX.cod (h : SMidX X w0 w a cb bf k m n sts) : CodAt w cb bf k m := h.mid.cod
theorem SMidX.pos (h : SMidX X w0 w a cb bf k m n sts) : 1 ≤ k ∧ 1 ≤ m ∧ k + m ≤ 255 ∧ 1 ≤ n ∧ n ≤ 600 := ⟨h.mid.k1, h.mid.m1, h.mid.km, h.2.2.2.1, h.2.2.2.2⟩
theorem put_x (h : SMidX X w0 w a cb bf k m n sts) (hr : r.ok n) (hg : Hid (r.gen < 2 ^ 64)) (hcl : ∀ st ∈ sts, st.cache.length < 900000)
    {A : Option Addr} {c len : Nat} {S : Nat → Prop} {xs : List Nat} (R : RdL ByR 1 S w A len xs) (hc : len ≤ c) (hlx : len ≤ k * 44) :
    Calls Tryz.prog 10 #[.pointer (some ⟨a, 0, none⟩), .pointer (some ⟨cb, 0, none⟩), .agg (refC r), .slice A len c] w fun e w' =>
      e = .returned (.tuple #[.int .i64 (liveC sts : Int), .int .i64 0]) ∧ SMidX X w0 w' a cb bf k m n (sts.mapIdx (putQ n k (k + m) r xs)) ∧ KpX X w w' := by
  have hp := h.pos
  have hN : 1 ≤ sts.length := by have := h.len; omega
  have hl := h.len
  have e2 : putQ n k sts.length r xs = wrG n r len (fun _ => true) (codeRow k 44 (splF 44 xs k k)) sts.length := by
    funext d st
    unfold putQ
    rw [R.1]
  refine h.step (Q := fun e _ => e = .returned (.tuple #[.int .i64 (liveC sts : Int), .int .i64 0])) (by simp) fun U hA _ _ => ?_
  refine (sput_any hA h.cod hl hr (by omega) hg hcl R hc hlx).mono ?_
  rintro e w' ⟨he, hu⟩
  rw [← hl, wrS_all hN] at he
  rw [← hl, wrS_map hN] at hu
  rw [← hl, e2]
  exact ⟨he, hu⟩
theorem fail_x (h : SMidX X w0 w a cb bf k m n sts) (d : Int) :
    Calls Tryz.prog 13 #[.pointer (some ⟨a, 0, none⟩), .int .i64 d] w fun e w' => e = .returned (.int .i64 (if 0 ≤ d ∧ d < sts.length then 0 else 2)) ∧ SMidX X w0 w' a cb bf k m n (failA n sts d) ∧ KpX X w w' :=
  h.step (Q := fun e _ => e = .returned (.int .i64 (if 0 ≤ d ∧ d < sts.length then 0 else 2))) (by unfold failA; split <;> simp) fun U hA _ _ => afail_any (Lib.hid hA) (by have := h.len; have := h.pos; omega) d
theorem flush_x (h : SMidX X w0 w a cb bf k m n sts) (hcl : ∀ st ∈ sts, st.cache.length < 1000000) :
    Calls Tryz.prog 14 #[.pointer (some ⟨a, 0, none⟩)] w fun e w' => e = .returned (.int .i64 (cnt (aliveL sts))) ∧ SMidX X w0 w' a cb bf k m n (sts.map flushG) ∧ KpX X w w' :=
  h.step (Q := fun e _ => e = .returned (.int .i64 (cnt (aliveL sts)))) (by simp) fun U hA _ _ => aflush_any (Lib.hid hA) (by have := h.len; have := h.pos; omega) (by have := h.len; have := h.pos; omega) (Lib.hid hcl)
theorem crash_x (h : SMidX X w0 w a cb bf k m n sts) (hcl : ∀ st ∈ sts, st.cache.length < 1000000) {S : Nat → Prop} {A : Option Addr} {g c : Nat} {ks : List (List Bool)} (R : RdL BoolsR 1 S w A g ks) (hS : ∀ j, S j → X j) :
    Calls Tryz.prog 15 #[.pointer (some ⟨a, 0, none⟩), .slice A g c] w fun e w' => e = .returned (.tuple #[]) ∧ SMidX X w0 w' a cb bf k m n (sts.mapIdx (crashG ks)) ∧ KpX X w w' :=
  h.step (Q := fun e _ => e = .returned (.tuple #[])) (by simp) fun U hA _ hx => acrash_any (Lib.hid hA) (by have := h.len; have := h.pos; omega) (by have := h.len; have := h.pos; omega) (Lib.hid hcl) (Lib.hid R) (fun j hj => hx j (hS j hj))
end
end Go.Proofs.YteialipoedmmmaaGreat

set_option linter.unusedSimpArgs false
set_option linter.unusedVariables false
namespace Go.Proofs.YteialipoedmmmaaGreat
open Go.RowKit Go.Cib
attribute [local go_sem] cell_set Later.cell Later.frozen Grw.cell Grw.frozen
theorem run_max_i (ts : Array TypeId) (t : TypeId) (x y : Int) (w : World) : (Builtin.max_ ts t #[.int .i64 x, .int .i64 y]).run Tryz.prog w = .ok (.int .i64 (max x y)) w := by
  rw [run_max_int2, show (if x < y then y else x) = max x y by omega]
theorem run_max_u (ts : Array TypeId) (t : TypeId) (x y : Int) (w : World) : (Builtin.max_ ts t #[.int .u32 x, .int .u32 y]).run Tryz.prog w = .ok (.int .u32 (max x y)) w := by
  rw [run_max_int2, show (if x < y then y else x) = max x y by omega]
attribute [local go_sem ↓] run_min_b run_max_i run_max_u
/-- What became of a drive. -/
def HurtD (n z : Nat) (st st' : DSt) : Prop := st' = DSt.gone n ∨ ∃ off mask : Nat, off ≤ 60 ∧ mask ≠ 0 ∧ mask < 4294967296 ∧ st.dead = false ∧ st' = st.rot z off (mask : Int)
structure HurtS (n z : Nat) (sts : List DSt) (D : List Int) (sts' : List DSt) : Prop where
  len : sts'.length = sts.length
  all : ∀ (d : Nat) st st', sts[d]? = some st → sts'[d]? = some st' → ((d : Int) ∉ D ∧ st' = st) ∨ ((d : Int) ∈ D ∧ HurtD n z st st')
theorem HurtS.none (n z : Nat) (sts : List DSt) : HurtS n z sts [] sts := ⟨rfl, fun d st st' h h' => .inl ⟨by simp, (Option.some.inj (h.symm.trans h')).symm⟩⟩
theorem HurtS.at {n z : Nat} {sts sts' : List DSt} {D : List Int} (h : HurtS n z sts D sts') {x : Int} (hx : 0 ≤ x ∧ x < (sts.length : Int)) (hn : x ∉ D) : ∃ st, sts[x.toNat]? = some st ∧ sts'[x.toNat]? = some st := by
  have h1 : x.toNat < sts.length := by omega
  refine ⟨sts[x.toNat], List.getElem?_eq_getElem h1, ?_⟩
  have h2 : x.toNat < sts'.length := by rw [h.len]; exact h1
  rw [List.getElem?_eq_getElem h2]
  rcases h.all x.toNat _ _ (List.getElem?_eq_getElem h1) (List.getElem?_eq_getElem h2) with ⟨_, e⟩ | ⟨hd, _⟩
  · rw [e]
  · rw [show ((x.toNat : Nat) : Int) = x by omega] at hd
    exact absurd hd hn
theorem HurtS.next {n z : Nat} {sts sts' : List DSt} {D : List Int} (h : HurtS n z sts D sts') {x : Int} (hx : 0 ≤ x ∧ x < (sts.length : Int)) (hn : x ∉ D) {st st' : DSt} (hst : sts[x.toNat]? = some st) (hd : HurtD n z st st') : HurtS n z sts (D ++ [x]) (sts'.set x.toNat st') := by
  refine ⟨by rw [List.length_set, h.len], fun d s s' h1 h2 => ?_⟩
  by_cases e : x.toNat = d
  · subst e
    rw [List.getElem?_set_self (by rw [h.len]; omega)] at h2
    cases h2
    have : s = st := Option.some.inj (h1.symm.trans hst)
    subst this
    exact .inr ⟨by rw [show ((x.toNat : Nat) : Int) = x by omega]; simp, hd⟩
  · rw [List.getElem?_set_ne e] at h2
    rcases h.all d s s' h1 h2 with ⟨a, b⟩ | ⟨a, b⟩
    · exact .inl ⟨by simp [a]; omega, b⟩
    · exact .inr ⟨by simp [a], b⟩
end Go.Proofs.YteialipoedmmmaaGreat

set_option linter.unusedSimpArgs false
set_option linter.unusedVariables false
namespace Go.Proofs.YteialipoedmmmaaGreat
open Go.RowKit Go.Cib
attribute [local go_sem] cell_set Later.cell Later.frozen Grw.cell Grw.frozen
def rH : Ref := ⟨3, 1, 5⟩
theorem rH_ok : rH.ok 3 := ⟨by decide, by decide, by decide⟩
theorem rH_gen : Hid (rH.gen < 2 ^ 64) := Lib.hid (by decide)
def xH : List Nat := [97, 98, 99]
theorem xH_byt : Byt xH := by unfold xH; intro x hx; simp at hx; omega
def hRef : Array Value := #[.int .u8 3, .int .i64 1, .int .u64 5]
theorem hRef_eq : refC rH = hRef := rfl
def g1 (d : Nat) : Bool := decide (d ≠ 1)
def g2 (d : Nat) : Bool := decide (d ≠ 1) && decide (d ≠ 2)
theorem cnt_g1 : cntP g1 3 = 2 := by decide
theorem cnt_g2 : cntP g2 3 = 1 := by decide
theorem whl_g1 : (List.range 3).map (fun i => g1 (homeN 3 rH.place i)) = [false, true, true] := by decide
theorem home_574 : homeN 5 7 4 = 1 := by decide
theorem hole_view {l : List Int} {g : Nat → Bool} (hg : ∀ d, d < 3 → (g d = true ↔ (d : Int) ∉ l)) : ∀ d st, ((putS 3 2 3 rH xH).mapIdx (goneS 3 l))[d]? = some st → (g d = true ∧ HasS 2 3 rH xH d st) ∨ (g d = false ∧ LostS 2 rH st) := by
  intro d st h
  obtain ⟨s1, h1, rfl⟩ := mapIdx_at h
  obtain ⟨rfl, hd⟩ := putS_at h1
  by_cases hin : (d : Int) ∈ l
  · refine .inr ⟨?_, ?_⟩
    · cases hgd : g d with
      | false => rfl
      | true => exact absurd hin ((hg d hd).1 hgd)
    · unfold goneS
      rw [if_pos hin]
      exact lost_zero (gone_seen (by decide))
  · refine .inl ⟨(hg d hd).2 hin, ?_⟩
    unfold goneS
    rw [if_neg hin]
    exact has_put rH_ok xH_byt rfl
theorem marked_rd {w : World} {t : TypeId} {m : Nat × Nat} {xs : List Nat} (hx : Byt xs) (hn : 0 < xs.length) : RdL ByR 1 (fun j => w.heap.size ≤ j) (w.alloc (.cells (xs.map fun b : Nat => Value.int .u8 (b : Int)).toArray t m)) (some ⟨w.heap.size, 0, none⟩) xs.length xs := by
  refine ⟨rfl, fun _ => ⟨w.heap.size, 0, rfl, Nat.le_refl _, by rw [World.size_alloc]; omega, fun i x hi => ⟨[.int .u8 (x : Int)], rfl, ⟨hx x (List.mem_of_getElem? hi), rfl⟩, fun j v hj => ?_⟩⟩⟩
  rcases j with _ | j
  · simp at hj; subst hj
    have hb : (w.alloc (.cells (xs.map fun b : Nat => Value.int .u8 (b : Int)).toArray t m)).heap[w.heap.size]? = some (.cells (xs.map fun b : Nat => Value.int .u8 (b : Int)).toArray t m) := by
      show (w.heap.push _)[w.heap.size]? = _
      simp
    unfold World.cell?
    dsimp only
    rw [hb]
    simp [hi]
  · simp at hj
theorem RdL.bound {X : Type} {R : (Nat → Prop) → World → List Value → X → Prop} (hR : Stable R) {s : Nat} {S : Nat → Prop} {w : World} {A : Option Addr} {n : Nat} {xs : List X} (h : RdL R s S w A n xs) : RdL R s (fun j => S j ∧ j < w.heap.size) w A n xs := h.stable hR fun j hj hl => ⟨⟨hj, hl⟩, rfl⟩
theorem fail1 (n : Nat) (sts : List DSt) (d : Int) : failA n sts d = sts.mapIdx (goneS n [d]) := by
  have h := failA_gone n sts [] d
  rw [goneS_nil] at h
  exact h
theorem cache_new {n N : Nat} : ∀ st ∈ newS n N, st.cache.length < 900000 := fun st hst => by
  obtain ⟨d, hd, rfl⟩ := List.mem_iff_getElem.1 hst
  rw [(newS_at (List.getElem?_eq_getElem hd)).1]
  show ([] : List (Int × List Int)).length < 900000
  decide
theorem bools3 {w : World} {g : Nat} {b0 b1 b2 : Bool} {S : Nat → Prop} (h : RdL BoolR 1 S w (some ⟨g, 0, none⟩) 3 [b0, b1, b2]) : w.cell? ⟨g, 0, none⟩ = some (.bool b0) ∧ w.cell? ⟨g, 1, none⟩ = some (.bool b1) ∧ w.cell? ⟨g, 2, none⟩ = some (.bool b2) := by
  obtain ⟨_, c0, _, h0, e0⟩ := h.at (k := 0) (by omega)
  obtain ⟨_, c1, _, h1, e1⟩ := h.at (k := 1) (by omega)
  obtain ⟨_, c2, _, h2, e2⟩ := h.at (k := 2) (by omega)
  have f0 := e0 0 _ (by rw [h0]; rfl)
  have f1 := e1 0 _ (by rw [h1]; rfl)
  have f2 := e2 0 _ (by rw [h2]; rfl)
  exact ⟨f0, f1, f2⟩
set_option maxRecDepth 100000 in
set_option maxHeartbeats 16000000 in
theorem holds_any {w : World} : Calls Tryz.prog 8 #[] w fun e w' => e = .returned (.bool true) ∧ Below w.heap.size w w' := by
  have hmd := made_law (w0 := w) (w := w) (k := 2) (m := 1) (n := 3) (Below.refl _ _) (by omega) (by omega) (by omega) (by omega) (by omega)
  have e0 : geoC ((2 : Nat) : Int) ((1 : Nat) : Int) ((3 : Nat) : Int) = #[.int .i64 2, .int .i64 1, .int .i64 3] := rfl
  rw [e0] at hmd
  clear e0
  go_enter Tryz.func8, Tryz.ntmps8
  go_wp2_with fail
  refine hmd.mono ?_
  clear hmd
  rintro e w1 ⟨a, cb, bf, rfl, hM, hb1⟩
  have hM1 := Lib.hid (show SMid w w1 a cb bf 2 1 3 (newS 3 3) from hM)
  clear hM hb1
  have bR := BoxAt.new w1 hRef 33
  have hbR : Below w1.heap.size w1 (w1.alloc (.cells hRef 33)) := (Below.refl _ _).alloc (Nat.le_refl _) _
  have hX0 := (hM1.out.x0.below hbR)
  obtain ⟨wA, hwA⟩ : ∃ wA, w1.alloc (.cells hRef 33) = wA := ⟨_, rfl⟩
  obtain ⟨q, hq⟩ : ∃ q, w1.heap.size = q := ⟨_, rfl⟩
  have hqA : q < wA.heap.size := by rw [← hwA, ← hq, World.size_alloc]; omega
  rw [hwA] at bR hX0
  rw [hq] at bR hX0
  have cA : wA.cell? ⟨q, 0, none⟩ = some (.int .u8 3) ∧ wA.cell? ⟨q, 1, none⟩ = some (.int .i64 1) ∧ wA.cell? ⟨q, 2, none⟩ = some (.int .u64 5) := ⟨bR.cell 0, bR.cell 1, bR.cell 2⟩
  have hkc := Lib.run_convert_bytes_const (P := Tryz.prog) wA 24 5 #[.int .u8 97, .int .u8 98, .int .u8 99] 3 3 (by kernel_rfl) (by kernel_rfl)
  have hr2 : RdL ByR 1 (fun j => wA.heap.size ≤ j) (wA.alloc (.cells #[.int .u8 97, .int .u8 98, .int .u8 99] 5 (3, 4))) (some ⟨wA.heap.size, 0, none⟩) 3 xH := marked_rd (w := wA) (t := 5) (m := (3, 4)) xH_byt (by decide)
  have hb2 : Below wA.heap.size wA (wA.alloc (.cells #[.int .u8 97, .int .u8 98, .int .u8 99] 5 (3, 4))) := (Below.refl _ _).alloc (Nat.le_refl _) _
  have hkc2 : (convert 24 24 (.slice (some ⟨wA.heap.size, 0, none⟩) 3 3)).run Tryz.prog (wA.alloc (.cells #[.int .u8 97, .int .u8 98, .int .u8 99] 5)) = .ok (.slice (some ⟨wA.heap.size, 0, none⟩) 3 3) (wA.alloc (.cells #[.int .u8 97, .int .u8 98, .int .u8 99] 5 (3, 4))) := hkc
  obtain ⟨w2, hw2⟩ : ∃ w2, wA.alloc (.cells #[.int .u8 97, .int .u8 98, .int .u8 99] 5 (3, 4)) = w2 := ⟨_, rfl⟩
  rw [hw2] at hr2 hb2 hkc2
  have HM2 := Lib.hid ((hX0.below' hb2).sub (Y := fun j => j = q) fun j hj => .inr (by omega))
  have bR2 := bR.below hb2
  have hpu := put_x HM2.out rH_ok rH_gen cache_new (c := 3) hr2 (Nat.le_refl _) (by decide)
  rw [live_new, hRef_eq] at hpu
  have HPU := Lib.hid hpu
  clear hkc hr2 hb2 hM1 hbR bR hw2 hpu hX0 hqA
  unfold hRef at hwA
  have c0 : w2.cell? ⟨q, 0, none⟩ = some (.int .u8 3) ∧ w2.cell? ⟨q, 1, none⟩ = some (.int .i64 1) ∧ w2.cell? ⟨q, 2, none⟩ = some (.int .u64 5) := ⟨bR2.cell 0, bR2.cell 1, bR2.cell 2⟩
  go_wp2_with fail
  refine HPU.out.mono ?_
  clear HPU c0 cA hkc2 hwA hq HM2
  rintro e w3 ⟨rfl, hM3, hK3⟩
  have HM3 := Lib.hid (show SMidX (fun j => j = q) w w3 a cb bf 2 1 3 (putS 3 2 3 rH xH) from hM3)
  have bR3 := hK3.box bR2 rfl
  clear hM3 hK3 bR2
  have hf := fail_x HM3.out 1
  rw [fail1, if_pos (by constructor <;> decide)] at hf
  go_wp2_with fail
  refine hf.mono ?_
  clear hf HM3
  rintro e w4 ⟨rfl, hM4, hK4⟩
  have bR4 := hK4.box bR3 rfl
  have HM4 := Lib.hid hM4
  clear hM4 hK4 bR3
  have hg := get_view HM4.out.mid rH_ok rH_gen xH_byt (by decide) (hole_view (g := g1) (l := [1]) (by intro d hd; unfold g1; simp; omega))
  have hx3 : xH.length = 3 := rfl
  rw [show (2 + 1 : Nat) = 3 from rfl, cnt_g1, hRef_eq] at hg
  unfold hRef at hg
  have c4 : w4.cell? ⟨q, 0, none⟩ = some (.int .u8 3) ∧ w4.cell? ⟨q, 1, none⟩ = some (.int .i64 1) ∧ w4.cell? ⟨q, 2, none⟩ = some (.int .u64 5) := ⟨bR4.cell 0, bR4.cell 1, bR4.cell 2⟩
  go_wp2_with fail
  refine hg.mono ?_
  clear hg c4
  rintro e w5 ⟨hb5, ⟨hlt, _⟩ | ⟨_, A5, c5, rfl, hc5, hr5⟩⟩
  · omega
  have bR5 := bR4.below hb5
  have HM5 := Lib.hid (HM4.out.below hb5)
  have HR5 := Lib.hid (RdL.bound ByR.stable hr5)
  clear HM4 bR4 hb5 hr5
  have hw := whole_view HM5.out.mid rH_ok rH_gen xH_byt (by decide) (hole_view (g := g1) (l := [1]) (by intro d hd; unfold g1; simp; omega))
  rw [show (2 + 1 : Nat) = 3 from rfl, whl_g1, hRef_eq] at hw
  unfold hRef at hw
  have c5 : w5.cell? ⟨q, 0, none⟩ = some (.int .u8 3) ∧ w5.cell? ⟨q, 1, none⟩ = some (.int .i64 1) ∧ w5.cell? ⟨q, 2, none⟩ = some (.int .u64 5) := ⟨bR5.cell 0, bR5.cell 1, bR5.cell 2⟩
  go_wp2_with fail
  refine hw.mono ?_
  clear hw c5
  rintro e w6 ⟨g, rfl, hr6, hb6⟩
  have bR6 := bR5.below hb6
  have HM6 := Lib.hid (HM5.out.below hb6)
  have HR56 := Lib.hid (HR5.out.below ByR.stable hb6)
  have HR6 := Lib.hid (RdL.bound BoolR.stable hr6)
  clear HM5 HR5 bR5 hb6 hr6
  have hf := fail_x HM6.out 2
  rw [failA_gone, if_pos (by constructor <;> decide)] at hf
  go_wp2_with fail
  refine hf.mono ?_
  clear hf
  rintro e w7 ⟨rfl, hM7, hK7⟩
  have bR7 := hK7.box bR6 (.inl (.inl rfl))
  have HR57 := Lib.hid (hK7.rd ByR.stable HR56.out (fun j hj => .inl (.inr hj)))
  have HR67 := Lib.hid (hK7.rd BoolR.stable HR6.out (fun j hj => .inr hj))
  have HM7 := Lib.hid hM7
  clear hM7 hK7 bR6 HM6 HR56 HR6
  have hg := get_view HM7.out.mid rH_ok rH_gen xH_byt (by decide) (hole_view (g := g2) (l := [1] ++ [2]) (by intro d hd; unfold g2; simp; omega))
  rw [show (2 + 1 : Nat) = 3 from rfl, cnt_g2, hRef_eq] at hg
  unfold hRef at hg
  have c7 : w7.cell? ⟨q, 0, none⟩ = some (.int .u8 3) ∧ w7.cell? ⟨q, 1, none⟩ = some (.int .i64 1) ∧ w7.cell? ⟨q, 2, none⟩ = some (.int .u64 5) := ⟨bR7.cell 0, bR7.cell 1, bR7.cell 2⟩
  go_wp2_with fail
  refine hg.mono ?_
  clear hg c7
  rintro e w8 ⟨hb8, ⟨_, rfl⟩ | ⟨hlt, _⟩⟩
  · have HR58 := Lib.hid (HR57.out.below ByR.stable hb8)
    have HR68 := Lib.hid (HR67.out.below BoolR.stable hb8)
    have HC8 := Lib.hid (HM7.out.below' hb8).cod
    have hB8 := (HM7.out.below' hb8).bel
    have HB8 := Lib.hid hB8
    clear HM7 HR57 HR67 bR7 hB8 hb8
    have t1 : (convert 24 9 (.slice A5 3 c5)).run Tryz.prog w8 = .ok (.string (textB xH)) w8 := text_run (c := c5) HR58.out
    have et : textB xH = ⟨#[97, 98, 99]⟩ := by decide +kernel
    rw [et] at t1
    have c8 := bools3 HR68.out
    have hho := fun w => home_any (w := w) (n := 5) (place := 7) (i := 4) (by omega) (by omega)
    rw [home_574] at hho
    go_wp2_with fail
    refine (hho _).mono ?_
    clear hho
    rintro e w9 ⟨rfl, hb9⟩
    have hrm9 := room_any (HC8.out.below hb9)
    have HB9 := Lib.hid (HB8.out.trans (hb9.mono HB8.out.size))
    clear c8 t1 hb9
    go_wp2_with fail
    refine hrm9.mono ?_
    rintro e wB ⟨rfl, hwB⟩
    rw [hwB]
    clear hwB
    go_wp2_with fail
    go_ret
    exact ⟨rfl, HB9.out⟩
  · omega
end Go.Proofs.YteialipoedmmmaaGreat

set_option linter.unusedSimpArgs false
set_option linter.unusedVariables false
namespace Go.Proofs.YteialipoedmmmaaGreat
open Go.RowKit Go.Cib
attribute [local go_sem] cell_set Later.cell Later.frozen Grw.cell Grw.frozen
theorem small_nat {k m s : Int} (h : smallB k m s = true) : ∃ k' m' s' : Nat, k = k' ∧ m = m' ∧ s = s' ∧ 1 ≤ k' ∧ 1 ≤ m' ∧ k' + m' ≤ 10 ∧ 1 ≤ s' ∧ s' ≤ 8 := by
  have := of_decide_eq_true h
  exact ⟨k.toNat, m.toNat, s.toNat, by omega, by omega, by omega, by omega, by omega, by omega, by omega, by omega⟩
theorem ref3_ok {p g n : Nat} (h : p < n) : Ref.ok ⟨3, p, g⟩ n := ⟨(by decide : 1 ≤ 3), (by decide : 3 ≤ 4), h⟩
theorem putS_live {n k N d : Nat} {r : Ref} (hr : r.ok n) {xs : List Nat} (hx : Byt xs) {st : DSt} (h : (putS n k N r xs)[d]? = some st) : st.dead = false := by
  obtain ⟨rfl, hd⟩ := putS_at h
  rw [putQ_live hr hx rfl]; rfl
theorem putS_len (n k N : Nat) (r : Ref) (xs : List Nat) : (putS n k N r xs).length = N := by unfold putS newS; simp
theorem putS_cache {n k N : Nat} {r : Ref} {xs : List Nat} {D : List Int} : ∀ st ∈ (putS n k N r xs).mapIdx (goneS n D), st.cache.length < 900000 := fun st hst => by
  obtain ⟨d, hd, rfl⟩ := List.mem_iff_getElem.1 hst
  rcases goneS_at (List.getElem?_eq_getElem hd) with ⟨_, e⟩ | ⟨_, h2⟩
  · rw [e]; show ([] : List (Int × List Int)).length < 900000; decide
  · have h3 := (putS_at h2).1
    have h4 : ((((putS n k N r xs).mapIdx (goneS n D))[d]).cache).length ≤ 0 + 1 := by rw [h3]; exact putQ_cache
    omega
end Go.Proofs.YteialipoedmmmaaGreat

set_option linter.unusedSimpArgs false
set_option linter.unusedVariables false
namespace Go.Proofs.YteialipoedmmmaaGreat
open Go.RowKit Go.Cib
attribute [local go_sem] cell_set Later.cell Later.frozen Grw.cell Grw.frozen
theorem flush_at {n k N d : Nat} {r : Ref} (hr : r.ok n) {xs : List Nat} (hx : Byt xs) {st : DSt} (h : ((putS n k N r xs).map flushG)[d]? = some st) : HasS k N r xs d st ∧ st.cache = [] ∧ st.ok n := by
  rw [List.getElem?_map] at h
  cases h1 : (putS n k N r xs)[d]? with
  | none => rw [h1] at h; cases h
  | some s1 =>
    rw [h1] at h
    obtain rfl := Option.some.inj h
    obtain ⟨rfl, hd⟩ := putS_at h1
    have hl : (putQ n k N r xs d (DSt.new n)).dead = false := by rw [putQ_live hr hx rfl]; rfl
    have hok : (putQ n k N r xs d (DSt.new n)).ok n := by
      rw [putQ_live hr hx rfl]
      exact (DSt.ok.new n).write (wrI_len (x := putX k N r xs d) (row44 hx k _).1) ⟨by omega, by have := hr.p; omega⟩
    unfold flushG
    rw [if_pos hl]
    refine ⟨⟨hl, ?_⟩, rfl, hok.settle _⟩
    rw [hok.seen_flush hr.p, putQ_live hr hx rfl, DSt.seen_write, if_pos rfl]
theorem cnt_live {sts : List DSt} (h : ∀ st ∈ sts, st.dead = false) : cnt (aliveL sts) = sts.length := by
  induction sts with
  | nil => rfl
  | cons s l ih =>
    have h1 := h s (List.mem_cons_self ..)
    have h2 := ih fun st hst => h st (List.mem_cons_of_mem _ hst)
    unfold aliveL cnt at h2 ⊢
    simp only [List.map_cons, h1, Bool.not_false]
    rw [List.count_cons_self, List.length_cons, h2]
theorem put_alive {n k N : Nat} {r : Ref} (hr : r.ok n) {xs : List Nat} (hx : Byt xs) : cnt (aliveL (putS n k N r xs)) = N := by
  rw [cnt_live, putS_len]
  intro st hst
  obtain ⟨d, hd, rfl⟩ := List.mem_iff_getElem.1 hst
  exact putS_live hr hx (List.getElem?_eq_getElem hd)
end Go.Proofs.YteialipoedmmmaaGreat

set_option linter.unusedSimpArgs false
set_option linter.unusedVariables false
namespace Go.Proofs.YteialipoedmmmaaGreat
open Go.RowKit Go.Cib
attribute [local go_sem] cell_set Later.cell Later.frozen Grw.cell Grw.frozen
theorem flush_zero {n k N d z : Nat} {r : Ref} (hr : r.ok n) {xs : List Nat} (hx : Byt xs) (hz : z < n) (hne : r.place ≠ z) {st : DSt} (h : ((putS n k N r xs).map flushG)[d]? = some st) : st.seen z = rep 0 := by
  rw [List.getElem?_map] at h
  cases h1 : (putS n k N r xs)[d]? with
  | none => rw [h1] at h; cases h
  | some s1 =>
    rw [h1] at h
    obtain rfl := Option.some.inj h
    obtain ⟨rfl, hd⟩ := putS_at h1
    have hl : (putQ n k N r xs d (DSt.new n)).dead = false := by rw [putQ_live hr hx rfl]; rfl
    have hok : (putQ n k N r xs d (DSt.new n)).ok n := by
      rw [putQ_live hr hx rfl]
      exact (DSt.ok.new n).write (wrI_len (x := putX k N r xs d) (row44 hx k _).1) ⟨by omega, by have := hr.p; omega⟩
    unfold flushG
    rw [if_pos hl, hok.seen_flush hz, putQ_live hr hx rfl, DSt.seen_write, if_neg (by omega), DSt.seen_new hz]
theorem kept_seen {st : DSt} {n p z : Nat} {x : List Int} {on : Bool} (hc : st.cache = []) (hok : st.ok n) (hz : z < n) : ((st.write (p : Int) x).settle (keepOf [on])).seen z = if on = true ∧ p = z then x else st.seen z := by
  rw [DSt.seen_settle, DSt.seen_nil hc]
  have e : (st.write (p : Int) x).cache = [((p : Int), x)] := by show st.cache ++ _ = _; rw [hc]; rfl
  rw [e]
  show ((if keepOf [on] 0 then st.stored.set ((p : Int)).toNat x else st.stored)[z]?).getD [] = _
  have e2 : keepOf [on] 0 = on := by cases on <;> rfl
  rw [e2, Int.toNat_natCast]
  cases on with
  | false => rw [if_neg (by decide), if_neg (by simp)]
  | true =>
    rw [if_pos rfl]
    by_cases h : p = z
    · subst h
      rw [if_pos ⟨rfl, rfl⟩, List.getElem?_set_self (by rw [hok.sl]; exact hz)]; rfl
    · rw [if_neg (fun h2 => h h2.2), List.getElem?_set_ne h]
theorem crash_at {n k N d : Nat} {o r : Ref} (ho : o.ok n) (hr : r.ok n) (hne : o.place ≠ r.place) {ys xs : List Nat} (hy : Byt ys) (hx : Byt xs) {on : Nat → Bool} {ks : List (List Bool)} (hk : ∀ d, d < N → kAt ks d = [on d]) {st : DSt}
    (h : ((((putS n k N o ys).map flushG).mapIdx (putQ n k N r xs)).mapIdx (crashG ks))[d]? = some st) : HasS k N o ys d st ∧ ((on d = true ∧ HasS k N r xs d st) ∨ (on d = false ∧ LostS k r st)) := by
  obtain ⟨s2, h2, rfl⟩ := mapIdx_at h
  obtain ⟨s1, h1, rfl⟩ := mapIdx_at h2
  have hd : d < N := by
    have := (List.getElem?_eq_some_iff.1 h1).1
    rw [List.length_map, putS_len] at this
    exact this
  obtain ⟨⟨hl, hs⟩, hc, hok⟩ := flush_at ho hy h1
  have hz := flush_zero ho hy hr.p hne h1
  rw [putQ_live hr hx hl]
  unfold crashG
  rw [hk d hd]
  refine ⟨⟨hl, ?_⟩, ?_⟩
  · rw [kept_seen hc hok ho.p, if_neg (fun h => hne h.2.symm), hs]
  · cases hon : on d with
    | true => exact .inl ⟨rfl, hl, by rw [kept_seen hc hok hr.p, if_pos ⟨rfl, rfl⟩]⟩
    | false => exact .inr ⟨rfl, lost_zero (by rw [kept_seen hc hok hr.p, if_neg (by simp), hz])⟩
/-! ### Rows of bools, laid one by one -/
def rb (rows : List (List Bool)) (i : Nat) : List Bool := rows.getD i []
structure OutB (w : World) (base g n : Nat) (rows : List (List Bool)) : Prop where
  cur : ∃ cur : Array Value, BoxAt w g cur ∧ n ≤ cur.size ∧ ∀ i, i < n → ∃ A m c, cur[i]? = some (.slice A m c) ∧ RdL BoolR 1 (fun k => base ≤ k ∧ k ≠ g) w A m (rb rows i)
  len : rows.length = n
  hg : base ≤ g
section
variable {w w' : World} {base g n : Nat} {rows : List (List Bool)}
theorem OutB.below (h : OutB w base g n rows) (hb : Below w.heap.size w w') : OutB w' base g n rows := by
  obtain ⟨cur, h1, h2, h3⟩ := h.cur
  refine ⟨⟨cur, h1.below hb, h2, fun i hi => ?_⟩, h.len, h.hg⟩
  obtain ⟨A, m, c, e1, e3⟩ := h3 i hi
  exact ⟨A, m, c, e1, e3.below BoolR.stable hb⟩
theorem OutB.lt (h : OutB w base g n rows) : g < w.heap.size := by
  obtain ⟨cur, h1, _⟩ := h.cur
  exact h1.lt
theorem OutB.cellx (h : OutB w base g n rows) {i : Nat} (hi : i < n) : (∃ v, w.cell? ⟨g, i, none⟩ = some v) ∧ w.frozen? ⟨g, i, none⟩ = false := by
  obtain ⟨cur, h1, h2, h3⟩ := h.cur
  obtain ⟨A, m, c, e1, _⟩ := h3 i hi
  exact ⟨⟨_, (h1.cell i).trans e1⟩, h1.frozen i⟩
theorem OutB.set (h : OutB w base g n rows) {i m c : Nat} {A : Option Addr} {r : List Bool} (hi : i < n) (hr : RdL BoolR 1 (fun k => base ≤ k ∧ k ≠ g) w A m r) :
    OutB (w.setCell ⟨g, i, none⟩ (.slice A m c)) base g n (rows.set i r) := by
  obtain ⟨cur, h1, h2, h3⟩ := h.cur
  refine ⟨⟨_, h1.set i _, by rw [Array.size_setIfInBounds]; exact h2, fun k hk => ?_⟩, by rw [List.length_set, h.len], h.hg⟩
  by_cases e : k = i
  · subst e
    have e1 : rb (rows.set k r) k = r := by unfold rb; rw [List.getD_eq_getElem?_getD, List.getElem?_set_self (by rw [h.len]; exact hk)]; rfl
    rw [e1, set_eq (by omega)]
    exact ⟨A, m, c, rfl, hr.setCell BoolR.stable (fun h => h.2 rfl) _⟩
  · have e1 : rb (rows.set i r) k = rb rows k := by unfold rb; rw [List.getD_eq_getElem?_getD, List.getElem?_set_ne (fun h => e h.symm), ← List.getD_eq_getElem?_getD]
    rw [e1, set_ne (fun h => e h.symm)]
    obtain ⟨A1, m1, c1, e1, e3⟩ := h3 k hk
    exact ⟨A1, m1, c1, e1, e3.setCell BoolR.stable (fun h => h.2 rfl) _⟩
theorem OutB.rd (h : OutB w base g n rows) : RdL BoolsR 1 (fun k => base ≤ k) w (some ⟨g, 0, none⟩) n rows := by
  obtain ⟨cur, h1, h2, h3⟩ := h.cur
  refine ⟨h.len, fun _ => ⟨g, 0, rfl, h.hg, h1.lt, fun i x hx => ?_⟩⟩
  have hi : i < n := by rw [← h.len]; exact (List.getElem?_eq_some_iff.1 hx).1
  obtain ⟨A, m, c, e1, e3⟩ := h3 i hi
  have ex : rb rows i = x := by unfold rb; rw [List.getD_eq_getElem?_getD, hx]; rfl
  rw [ex] at e3
  refine ⟨[.slice A m c], rfl, ⟨A, m, c, rfl, e3.weaken BoolR.stable fun k hk => hk.1⟩, fun j v hj => ?_⟩
  rcases j with _ | j
  · simp at hj; subst hj
    rw [show 0 + i * 1 + 0 = i by omega]
    exact (h1.cell i).trans e1
  · simp at hj
theorem OutB.made (w : World) (n : Nat) (t : TypeId) : OutB (w.alloc (.cells (Array.replicate n (.slice none 0 0)) t)) w.heap.size w.heap.size n (List.replicate n []) := by
  refine ⟨⟨_, BoxAt.new _ _ _, by simp, fun i hi => ⟨none, 0, 0, by rw [Array.getElem?_replicate, if_pos hi], ?_⟩⟩, by simp, Nat.le_refl _⟩
  have ex : rb (List.replicate n []) i = [] := by unfold rb; rw [List.getD_eq_getElem?_getD, List.getElem?_replicate]; split <;> rfl
  rw [ex]
  exact RdL.nil
end
theorem boolsInfo : (Tryz.prog.info? 42).map (fun i => (i.zero, i.size, i.bytes)) = some (some (.slice none 0 0), 1, 24) := by kernel_rfl
theorem makeBoolsS (k : Nat) (hk : k ≤ 1000000) (w : World) : (Instr.makeSlice 44 (.int .i64 (k : Int)) (.int .i64 (k : Int))).run Tryz.prog w = .ok (.slice (some ⟨w.heap.size, 0, none⟩) k k) (w.alloc (.cells (Array.replicate k (.slice none 0 0)) 42)) := by
  obtain ⟨i, hi, hz, hs, hb⟩ := info_parts boolsInfo
  have h := run_make (P := Tryz.prog) w 44 42 i (.slice none 0 0) (by kernel_rfl) hi hz .i64 .i64 k k (by omega) (by omega) (by rw [hb]; omega) (by omega)
  simp only [Int.toNat_natCast, hs, Nat.mul_one] at h
  rw [h, show (Value.slice none 0 0).cells = #[.slice none 0 0] from rfl, madeCells_r]
def onK (l : List Bool) (d : Nat) : Bool := l.getD d false
def onU (on : Nat → Bool) (N i : Nat) : List (List Bool) := (List.range i).map (fun d => [on d]) ++ List.replicate (N - i) []
theorem onU_next {on : Nat → Bool} {N i : Nat} (h : i < N) : (onU on N i).set i [on i] = onU on N (i + 1) := by
  unfold onU
  rw [List.set_append_right _ _ (by simp), List.range_succ, List.map_append, List.append_assoc]
  congr 1
  obtain ⟨d, hd⟩ : ∃ d, N - i = d + 1 := ⟨N - i - 1, by omega⟩
  rw [hd, show N - (i + 1) = d by omega, List.replicate_succ]
  simp
theorem onU_at {on : Nat → Bool} {N d : Nat} (h : d < N) : kAt (onU on N N) d = [on d] := by
  unfold kAt onU
  rw [Nat.sub_self, List.replicate_zero, List.append_nil, List.getD_eq_getElem?_getD, List.getElem?_map, List.getElem?_range h]; rfl
theorem cntP_next {on : Nat → Bool} {i : Nat} : cntP on (i + 1) = cntP on i + if on i = true then 1 else 0 := by
  unfold cntP
  rw [List.range_succ, List.filter_append, List.length_append]
  cases h : on i with
  | true => rw [List.filter_cons_of_pos h]; rfl
  | false => rw [List.filter_cons_of_neg (by rw [h]; decide)]; rfl
end Go.Proofs.YteialipoedmmmaaGreat
