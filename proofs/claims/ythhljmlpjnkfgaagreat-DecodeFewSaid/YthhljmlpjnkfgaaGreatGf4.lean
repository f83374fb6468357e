/-
  Elimination over the field: what is annihilated stays; plain.
-/
import Derived.Test.YthhljmlpjnkfgaaGreatGf3
set_option linter.unusedSimpArgs false
set_option linter.unusedVariables false
namespace Go.Proofs.YthhljmlpjnkfgaaGreat
open Go.RowKit Go.Cib
attribute [local go_sem] cell_set Later.cell Later.frozen Grw.cell Grw.frozen

abbrev Rws := List (List Nat)
def ra (a : Rws) (i : Nat) : List Nat := a.getD i []
theorem ra_of_lt {a : Rws} {i : Nat} (h : i < a.length) : a[i]? = some (ra a i) := by
  unfold ra
  rw [List.getD_eq_getElem?_getD, List.getElem?_eq_getElem h]; rfl
theorem ra_some {a : Rws} {i : Nat} {r : List Nat} (h : a[i]? = some r) : ra a i = r := by
  unfold ra
  rw [List.getD_eq_getElem?_getD, h]; rfl
theorem ra_mem {a : Rws} {i : Nat} (h : i < a.length) : ra a i ∈ a := List.mem_of_getElem? (ra_of_lt h)
theorem ra_ext {a b : Rws} (h : a.length = b.length) (h2 : ∀ i, i < a.length → ra a i = ra b i) : a = b := by
  refine List.ext_getElem? fun i => ?_
  by_cases hi : i < a.length
  · rw [ra_of_lt hi, ra_of_lt (h ▸ hi), h2 i hi]
  · rw [List.getElem?_eq_none (by omega), List.getElem?_eq_none (by omega)]
theorem ra_mapIdx (f : Nat → List Nat → List Nat) {a : Rws} {i : Nat} (h : i < a.length) : ra (a.mapIdx f) i = f i (ra a i) := by
  refine ra_some ?_
  rw [List.getElem?_mapIdx, ra_of_lt h]; rfl

/-- n rows of m bytes. -/
def Shp (n m : Nat) (a : Rws) : Prop := a.length = n ∧ ∀ r ∈ a, r.length = m ∧ Byt r
theorem Shp.row {n m : Nat} {a : Rws} (h : Shp n m a) {i : Nat} (hi : i < n) : (ra a i).length = m ∧ Byt (ra a i) := h.2 _ (ra_mem (by rw [h.1]; exact hi))
theorem Shp.of {n m : Nat} {a : Rws} (h : a.length = n) (h2 : ∀ i, i < n → (ra a i).length = m ∧ Byt (ra a i)) : Shp n m a := ⟨h, fun r hr => by
  obtain ⟨i, hi, rfl⟩ := List.mem_iff_getElem.1 hr
  have := h2 i (h ▸ hi)
  rwa [ra_some (List.getElem?_eq_getElem hi)] at this⟩

def Ann (n m : Nat) (a : Rws) (y : Nat → Nat) : Prop := ∀ i, i < n → dt m (ra a i) y = 0

/-! ### The steps -/

def swF (a : Rws) (i j : Nat) : Rws := (a.set i (ra a j)).set j (ra a i)
theorem swF_len (a : Rws) (i j : Nat) : (swF a i j).length = a.length := by unfold swF; rw [List.length_set, List.length_set]
theorem ra_set (a : Rws) (i : Nat) (r : List Nat) {k : Nat} (hk : k < a.length) : ra (a.set i r) k = if k = i then r else ra a k := by
  refine ra_some ?_
  rw [List.getElem?_set]
  split
  · rename_i h
    subst h
    rw [if_pos rfl, if_pos hk]
  · rename_i h
    rw [if_neg (fun e => h e.symm), ra_of_lt hk]
theorem swF_ra (a : Rws) (i j : Nat) {k : Nat} (hk : k < a.length) : ra (swF a i j) k = if k = j then ra a i else if k = i then ra a j else ra a k := by
  unfold swF
  rw [ra_set _ _ _ (by rw [List.length_set]; exact hk), ra_set _ _ _ hk]
def scF (j c : Nat) (a : Rws) : Rws := a.mapIdx fun i r => if i = j then sc c r else r
def elF (P : Nat → Bool) (j col : Nat) (a : Rws) : Rws := a.mapIdx fun i r => if P i = true then fd (gt r col) (ra a j) r else r
theorem scF_len (j c : Nat) (a : Rws) : (scF j c a).length = a.length := List.length_mapIdx ..
theorem elF_len (P : Nat → Bool) (j col : Nat) (a : Rws) : (elF P j col a).length = a.length := List.length_mapIdx ..
theorem scF_ra (j c : Nat) {a : Rws} {i : Nat} (h : i < a.length) : ra (scF j c a) i = if i = j then sc c (ra a i) else ra a i := ra_mapIdx _ h
theorem elF_ra (P : Nat → Bool) (j col : Nat) {a : Rws} {i : Nat} (h : i < a.length) : ra (elF P j col a) i = if P i = true then fd (gt (ra a i) col) (ra a j) (ra a i) else ra a i := ra_mapIdx _ h
section
variable {n m : Nat} {a : Rws}
theorem swF_shp {i j : Nat} (h : Shp n m a) (hi : i < n) (hj : j < n) : Shp n m (swF a i j) := .of (by rw [swF_len, h.1]) fun k hk => by
  rw [swF_ra _ _ _ (by rw [h.1]; exact hk)]
  split
  · exact h.row hi
  · split
    · exact h.row hj
    · exact h.row hk
theorem scF_shp {j c : Nat} (h : Shp n m a) : Shp n m (scF j c a) := .of (by rw [scF_len, h.1]) fun k hk => by
  rw [scF_ra _ _ (by rw [h.1]; exact hk)]
  split
  · exact ⟨by rw [sc_len]; exact (h.row hk).1, sc_byt _ _⟩
  · exact h.row hk
theorem elF_shp {P : Nat → Bool} {j col : Nat} (h : Shp n m a) : Shp n m (elF P j col a) := .of (by rw [elF_len, h.1]) fun k hk => by
  rw [elF_ra _ _ _ (by rw [h.1]; exact hk)]
  split
  · exact ⟨by rw [fd_len]; exact (h.row hk).1, fd_byt _ _ _ (h.row hk).2⟩
  · exact h.row hk
theorem swF_ann {i j : Nat} (h : a.length = n) (hi : i < n) (hj : j < n) (y : Nat → Nat) : Ann n m (swF a i j) y ↔ Ann n m a y := by
  have e : ∀ k, k < n → ra (swF a i j) k = if k = j then ra a i else if k = i then ra a j else ra a k := fun k hk => swF_ra a i j (by rw [h]; exact hk)
  constructor
  · intro H k hk
    by_cases h1 : k = i
    · subst h1
      have := H j hj
      rwa [e j hj, if_pos rfl] at this
    · by_cases h2 : k = j
      · subst h2
        have := H i hi
        rw [e i hi] at this
        by_cases h3 : i = k
        · exact absurd h3.symm h1
        · rwa [if_neg h3, if_pos rfl] at this
      · have := H k hk
        rwa [e k hk, if_neg h2, if_neg h1] at this
  · intro H k hk
    rw [e k hk]
    split
    · exact H i hi
    · split
      · exact H j hj
      · exact H k hk
theorem scF_ann {j c : Nat} (h : a.length = n) (hc : c ≠ 0) (y : Nat → Nat) : Ann n m (scF j c a) y ↔ Ann n m a y := by
  have e : ∀ k, k < n → ra (scF j c a) k = if k = j then sc c (ra a k) else ra a k := fun k hk => scF_ra j c (by rw [h]; exact hk)
  constructor
  · intro H k hk
    have := H k hk
    rw [e k hk] at this
    split at this
    · rw [dt_sc] at this
      exact gm_eq_zero this hc
    · exact this
  · intro H k hk
    rw [e k hk]
    split
    · rw [dt_sc, H k hk, gm_zero]
    · exact H k hk
theorem elF_ann {P : Nat → Bool} {j col : Nat} (h : Shp n m a) (hj : j < n) (hP : P j = false) (y : Nat → Nat) : Ann n m (elF P j col a) y ↔ Ann n m a y := by
  have e : ∀ k, k < n → ra (elF P j col a) k = if P k = true then fd (gt (ra a k) col) (ra a j) (ra a k) else ra a k := fun k hk => elF_ra P j col (by rw [h.1]; exact hk)
  have d : ∀ k, k < n → dt m (fd (gt (ra a k) col) (ra a j) (ra a k)) y = dt m (ra a k) y ^^^ gm (gt (ra a k) col) (dt m (ra a j) y) := fun k hk => dt_fd y (by rw [(h.row hk).1, (h.row hj).1]; exact Nat.le_refl _) (h.row hk).2
  constructor
  · intro H
    have h0 : dt m (ra a j) y = 0 := by
      have := H j hj
      rwa [e j hj, hP, if_neg (by decide)] at this
    intro k hk
    have := H k hk
    rw [e k hk] at this
    split at this
    · rwa [d k hk, h0, gm_zero, Nat.xor_zero] at this
    · exact this
  · intro H k hk
    rw [e k hk]
    split
    · rw [d k hk, H j hj, gm_zero, Nat.xor_zero, H k hk]
    · exact H k hk
end

/-! ### Where no row has a pivot -/

/-- Only nought is annihilated. -/
def Inj (n : Nat) (a : Rws) : Prop := ∀ x : Nat → Nat, (∀ l, x l < 256) → (∀ l, n ≤ l → x l = 0) → (∀ i, i < n → dt n (ra a i) x = 0) → ∀ l, x l = 0
theorem dt_xor {n : Nat} {r : List Nat} {x z : Nat → Nat} (hx : ∀ l, x l < 256) (hz : ∀ l, z l < 256) : dt n r (fun l => x l ^^^ z l) = dt n r x ^^^ dt n r z := by
  unfold dt
  rw [← sumx_xor]
  exact sumx_cong fun i _ => gm_xor (hx i) (hz i)
theorem dt_unit {n t v : Nat} (r : List Nat) (ht : t < n) : dt n r (fun l => if l = t then v else 0) = gm (gt r t) v := by
  unfold dt
  rw [sumx_one ht fun i _ hne => by show gm _ (if i = t then v else 0) = 0; rw [if_neg hne, gm_zero]]
  show gm _ (if t = t then v else 0) = _
  rw [if_pos rfl]
theorem dt_low {n m : Nat} (hnm : n ≤ m) {r : List Nat} {x : Nat → Nat} (hx : ∀ l, n ≤ l → x l = 0) : dt m r x = dt n r x := by
  obtain ⟨d, rfl⟩ : ∃ d, m = n + d := ⟨m - n, by omega⟩
  unfold dt
  rw [sumx_add]
  rw [sumx_zero (n := d) fun i _ => by rw [hx (n + i) (by omega), gm_zero], Nat.xor_zero]
structure Tri (n j : Nat) (a : Rws) : Prop where
  one : ∀ i, i < j → gt (ra a i) i = 1
  low : ∀ i l, l < i → i < j → gt (ra a i) l = 0
  rest : ∀ i l, j ≤ i → i < n → l < j → gt (ra a i) l = 0
theorem kern {n m j : Nat} {a : Rws} (hj : j < n) (T : Tri n j a) (h0 : ∀ i, j ≤ i → i < n → gt (ra a i) j = 0) : ∃ x : Nat → Nat, (∀ l, x l < 256) ∧ (∀ l, n ≤ l → x l = 0) ∧ x j = 1 ∧ ∀ i, i < n → dt n (ra a i) x = 0 := by
  have hp : ∀ d t, t + d = j → ∃ x : Nat → Nat, (∀ l, x l < 256) ∧ (∀ l, l < t ∨ j < l → x l = 0) ∧ x j = 1 ∧ ∀ i, t ≤ i → i < j → dt n (ra a i) x = 0 := by
    intro d
    induction d with
    | zero =>
      intro t ht
      refine ⟨fun l => if l = j then 1 else 0, fun l => ?_, fun l hl => if_neg (by omega), if_pos rfl, fun i h1 h2 => absurd h2 (by omega)⟩
      show (if l = j then 1 else 0) < 256
      split <;> decide
    | succ d ih =>
      intro t ht
      obtain ⟨x, b, z, o, k⟩ := ih (t + 1) (by omega)
      have hxt : x t = 0 := z t (.inl (by omega))
      have hv : ∀ l, (fun l => if l = t then dt n (ra a t) x else 0) l < 256 := fun l => by
        show (if l = t then dt n (ra a t) x else 0) < 256
        split
        · exact dt_lt
        · decide
      refine ⟨fun l => x l ^^^ (fun l => if l = t then dt n (ra a t) x else 0) l, fun l => xor_lt (b l) (hv l), fun l hl => ?_, ?_, fun i h1 h2 => ?_⟩
      · show x l ^^^ (if l = t then _ else 0) = 0
        rw [if_neg (by omega), z l (by omega)]; rfl
      · show x j ^^^ (if j = t then _ else 0) = 1
        rw [if_neg (by omega), o]; rfl
      · rw [dt_xor b hv, dt_unit _ (by omega)]
        by_cases e : i = t
        · subst e
          rw [T.one i h2, gm_one dt_lt, Nat.xor_self]
        · rw [k i (by omega) h2, T.low i t (by omega) h2, zero_gm]; rfl
  obtain ⟨x, b, z, o, k⟩ := hp j 0 (by omega)
  refine ⟨x, b, fun l hl => z l (.inr (by omega)), o, fun i hi => ?_⟩
  by_cases h : i < j
  · exact k i (Nat.zero_le _) h
  · refine sumx_zero fun l hl => ?_
    rcases Nat.lt_trichotomy l j with h1 | h1 | h1
    · rw [T.rest i l (by omega) hi h1, zero_gm]
    · rw [h1, h0 i (by omega) hi, zero_gm]
    · rw [z l (.inr h1), gm_zero]

/-! ### Ours: column by column, above and below -/

def clF (at' col : Nat) (a : Rws) : Rws := elF (fun i => decide (i ≠ at')) at' col (scF at' (inv (gt (ra a at') col)) a)
/-- The first row from one on that has something in a column. -/
def pvF (col : Nat) : Rws → Nat → Option Nat
  | [], _ => none
  | r :: l, i => if gt r col = 0 then pvF col l (i + 1) else some i
theorem pvF_some {col : Nat} : ∀ {l : Rws} {i k : Nat}, pvF col l i = some k → ∃ r, l[k - i]? = some r ∧ gt r col ≠ 0 ∧ i ≤ k
  | [], _, _, h => by cases h
  | r :: l, i, k, h => by
    unfold pvF at h
    split at h
    · obtain ⟨r', h1, h2, h3⟩ := pvF_some h
      refine ⟨r', ?_, h2, by omega⟩
      rw [show k - i = (k - (i + 1)) + 1 by omega]
      exact h1
    · rename_i h0
      injection h with h
      subst h
      refine ⟨r, ?_, h0, Nat.le_refl _⟩
      rw [Nat.sub_self]; rfl
theorem pvF_none {col : Nat} : ∀ {l : Rws} {i : Nat}, pvF col l i = none → ∀ r ∈ l, gt r col = 0
  | [], _, _ => fun _ h => by cases h
  | r :: l, i, h => fun r' hr => by
    unfold pvF at h
    split at h
    · rename_i h0
      rcases List.mem_cons.1 hr with rfl | hr
      · exact h0
      · exact pvF_none h r' hr
    · cases h
def eliF : Nat → Nat → Nat → Rws → Nat × Rws
  | 0, _, d, a => (d, a)
  | c + 1, col, d, a =>
    if d = a.length then (d, a) else
    match pvF col (a.drop d) d with
    | none => eliF c (col + 1) d a
    | some k => eliF c (col + 1) (d + 1) (clF d col (swF a d k))
structure Gj (n m j : Nat) (a : Rws) : Prop where
  shp : Shp n m a
  unit : ∀ i l, i < n → l < j → gt (ra a i) l = if i = l then 1 else 0
theorem Gj.tri {n m j : Nat} {a : Rws} (h : Gj n m j a) (hj : j ≤ n) : Tri n j a where
  one i hi := by rw [h.unit i i (by omega) hi, if_pos rfl]
  low i l hl hi := by rw [h.unit i l (by omega) (by omega), if_neg (by omega)]
  rest i l hi hn hl := by rw [h.unit i l hn hl, if_neg (by omega)]
theorem Gj.step {n m j k : Nat} {a : Rws} (h : Gj n m j a) (hj : j < n) (hk : k < n) (hjk : j ≤ k) (hv : gt (ra a k) j ≠ 0) :
    Gj n m (j + 1) (clF j j (swF a j k)) ∧ ∀ y, Ann n m (clF j j (swF a j k)) y ↔ Ann n m a y := by
  have hb := swF_shp (i := j) (j := k) h.shp hj hk
  have hbl : (swF a j k).length = n := hb.1
  have hpj : ra (swF a j k) j = ra a k := by
    rw [swF_ra a j k (by rw [h.shp.1]; exact hj)]
    split
    · rename_i e; rw [e]
    · rw [if_pos rfl]
  have hpv : gt (ra (swF a j k) j) j ≠ 0 := by rw [hpj]; exact hv
  have hp256 : gt (ra (swF a j k) j) j < 256 := gt_lt (hb.row hj).2 j
  have hc := scF_shp (j := j) (c := inv (gt (ra (swF a j k) j) j)) hb
  have hcl := hc.1
  have hlow : ∀ i l, i < n → l < j → gt (ra (swF a j k) i) l = if i = l then 1 else 0 := fun i l hi hl => by
    rw [swF_ra a j k (by rw [h.shp.1]; exact hi)]
    split
    · rename_i e
      subst e
      rw [h.unit j l hj hl, if_neg (by omega), if_neg (by omega)]
    · split
      · rename_i e
        subst e
        rw [h.unit k l hk hl, if_neg (by omega), if_neg (by omega)]
      · exact h.unit i l hi hl
  have hcj : ra (scF j (inv (gt (ra (swF a j k) j) j)) (swF a j k)) j = sc (inv (gt (ra (swF a j k) j) j)) (ra (swF a j k) j) := by
    rw [scF_ra _ _ (by rw [hbl]; exact hj), if_pos rfl]
  have hci : ∀ i, i < n → i ≠ j → ra (scF j (inv (gt (ra (swF a j k) j) j)) (swF a j k)) i = ra (swF a j k) i := fun i hi hne => by
    rw [scF_ra _ _ (by rw [hbl]; exact hi), if_neg hne]
  refine ⟨⟨elF_shp hc, fun i l hi hl => ?_⟩, fun y => ?_⟩
  · unfold clF
    rw [elF_ra _ _ _ (by rw [hcl]; exact hi)]
    by_cases e : i = j
    · subst e
      rw [if_neg (by simp), hcj, sc_gt]
      by_cases e2 : l = i
      · subst e2
        rw [if_pos rfl, gm_comm, gm_inv hpv hp256]
      · rw [hlow i l hi (by omega), if_neg (by omega), gm_zero]
    · rw [if_pos (by simpa using e), hci i hi e, hcj, fd_gt _ _ _ _ (by rw [sc_len, (hb.row hi).1, (hb.row hj).1]; exact Nat.le_refl _), sc_gt]
      by_cases e2 : l = j
      · subst e2
        rw [gm_comm (inv _), gm_inv hpv hp256, gm_one2 (gt_lt (hb.row hi).2 _), Nat.xor_self, if_neg e]
      · rw [hlow j l hj (by omega), if_neg (by omega : ¬ j = l), gm_zero, gm_zero, Nat.xor_zero, hlow i l hi (by omega)]
  · unfold clF
    rw [elF_ann hc hj (by simp) y, scF_ann hbl (inv_ne hpv hp256) y, swF_ann h.shp.1 hj hk y]
theorem eli_ok {n m : Nat} (hnm : n ≤ m) {a0 : Rws} (hI : Inj n a0) : ∀ (c j : Nat) (a : Rws), j + c = n → Gj n m j a → (∀ y : Nat → Nat, (∀ l, y l < 256) → (Ann n m a y ↔ Ann n m a0 y)) →
    ∃ a', eliF c j j a = (n, a') ∧ Gj n m n a' ∧ ∀ y : Nat → Nat, (∀ l, y l < 256) → (Ann n m a' y ↔ Ann n m a0 y)
  | 0, j, a, hc, hg, ha => by
    obtain rfl : j = n := by omega
    exact ⟨a, rfl, hg, ha⟩
  | c + 1, j, a, hc, hg, ha => by
    have hjn : j < n := by omega
    have hal := hg.shp.1
    unfold eliF
    rw [if_neg (by rw [hal]; omega)]
    cases hp : pvF j (a.drop j) j with
    | none =>
      exfalso
      have hz := pvF_none hp
      have h0 : ∀ i, j ≤ i → i < n → gt (ra a i) j = 0 := fun i h1 h2 => hz _ (by
        rw [List.mem_iff_getElem?]
        refine ⟨i - j, ?_⟩
        rw [List.getElem?_drop, show j + (i - j) = i by omega, ra_of_lt (by rw [hal]; exact h2)])
      obtain ⟨x, b, z, o, k⟩ := kern (m := m) hjn (hg.tri (by omega)) h0
      have hann : Ann n m a0 x := (ha x b).1 fun i hi => by rw [dt_low hnm z]; exact k i hi
      have := hI x b z (fun i hi => by rw [← dt_low hnm z]; exact hann i hi) j
      rw [o] at this; cases this
    | some k =>
      obtain ⟨r, h1, h2, h3⟩ := pvF_some hp
      rw [List.getElem?_drop, show j + (k - j) = k by omega] at h1
      have hk : k < n := by rw [← hal]; exact (List.getElem?_eq_some_iff.1 h1).1
      obtain ⟨s1, s2⟩ := hg.step hjn hk h3 (by rw [ra_some h1]; exact h2)
      exact eli_ok hnm hI c (j + 1) _ (by omega) s1 fun y hy => (s2 y).trans (ha y hy)
end Go.Proofs.YthhljmlpjnkfgaaGreat
