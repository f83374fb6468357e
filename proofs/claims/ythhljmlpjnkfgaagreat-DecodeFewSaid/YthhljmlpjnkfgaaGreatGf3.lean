/-
  Rows of bytes over the field: sums of products, multiples, and what is annihilated; plain.
-/
import Derived.Test.YthhljmlpjnkfgaaGreatGf2
set_option linter.unusedSimpArgs false
set_option linter.unusedVariables false
namespace Go.Proofs.YthhljmlpjnkfgaaGreat
open Go.RowKit Go.Cib
attribute [local go_sem] cell_set Later.cell Later.frozen Grw.cell Grw.frozen

instance : Std.Associative gm := ⟨gm_assoc⟩
instance : Std.Commutative gm := ⟨gm_comm⟩
theorem gm_xor2 {a b c : Nat} (ha : a < 256) (hb : b < 256) : gm (a ^^^ b) c = gm a c ^^^ gm b c := by
  rw [gm_comm, gm_xor ha hb, gm_comm c a, gm_comm c b]
theorem zero_gm (a : Nat) : gm 0 a = 0 := by rw [gm_comm, gm_zero]
theorem gm_one2 {b : Nat} (hb : b < 256) : gm b 1 = b := by rw [gm_comm, gm_one hb]
theorem inv_ne {a : Nat} (h0 : a ≠ 0) (h : a < 256) : inv a ≠ 0 := fun e => by
  have := gm_inv h0 h
  rw [e, gm_zero] at this; cases this
theorem gm_eq_zero {a b : Nat} (h : gm a b = 0) (ha : a ≠ 0) : b = 0 := by
  rcases Nat.eq_zero_or_pos b with hb | hb
  · exact hb
  · exact absurd h (gm_ne ha (by omega))
theorem xor_zero_eq {a b : Nat} (h : a ^^^ b = 0) : a = b := by
  have h2 : (a ^^^ b) ^^^ b = 0 ^^^ b := by rw [h]
  rw [Nat.xor_assoc, Nat.xor_self, Nat.xor_zero, Nat.zero_xor] at h2
  exact h2
theorem xor_ne {a b : Nat} (h : a ≠ b) : a ^^^ b ≠ 0 := fun e => h (xor_zero_eq e)

/-- The sum of the first n. -/
def sumx (f : Nat → Nat) : Nat → Nat
  | 0 => 0
  | n + 1 => sumx f n ^^^ f n
theorem sumx_lt {f : Nat → Nat} (h : ∀ i, f i < 256) : ∀ n, sumx f n < 256
  | 0 => Nat.succ_pos _
  | n + 1 => xor_lt (sumx_lt h n) (h n)
theorem sumx_cong {f g : Nat → Nat} : ∀ {n : Nat}, (∀ i, i < n → f i = g i) → sumx f n = sumx g n
  | 0, _ => rfl
  | n + 1, h => by
    show sumx f n ^^^ f n = sumx g n ^^^ g n
    rw [sumx_cong fun i hi => h i (by omega), h n (by omega)]
theorem sumx_xor (f g : Nat → Nat) : ∀ n, sumx (fun i => f i ^^^ g i) n = sumx f n ^^^ sumx g n
  | 0 => (Nat.xor_self 0).symm
  | n + 1 => by
    show sumx (fun i => f i ^^^ g i) n ^^^ (f n ^^^ g n) = (sumx f n ^^^ f n) ^^^ (sumx g n ^^^ g n)
    rw [sumx_xor f g n]
    ac_rfl
theorem sumx_mul {f : Nat → Nat} (h : ∀ i, f i < 256) (c : Nat) : ∀ n, gm c (sumx f n) = sumx (fun i => gm c (f i)) n
  | 0 => gm_zero c
  | n + 1 => by
    show gm c (sumx f n ^^^ f n) = sumx (fun i => gm c (f i)) n ^^^ gm c (f n)
    rw [gm_xor (sumx_lt h n) (h n), sumx_mul h c n]
theorem sumx_zero {f : Nat → Nat} : ∀ {n : Nat}, (∀ i, i < n → f i = 0) → sumx f n = 0
  | 0, _ => rfl
  | n + 1, h => by
    show sumx f n ^^^ f n = 0
    rw [sumx_zero fun i hi => h i (by omega), h n (by omega)]; rfl
theorem sumx_one {f : Nat → Nat} {j : Nat} : ∀ {n : Nat}, j < n → (∀ i, i < n → i ≠ j → f i = 0) → sumx f n = f j
  | 0, h, _ => absurd h (Nat.not_lt_zero _)
  | n + 1, h, h2 => by
    show sumx f n ^^^ f n = f j
    by_cases e : j = n
    · subst e
      rw [sumx_zero fun i hi => h2 i (by omega) (by omega), Nat.zero_xor]
    · rw [sumx_one (by omega) fun i hi hne => h2 i (by omega) hne, h2 n (by omega) (fun h => e h.symm), Nat.xor_zero]
theorem sumx_add (f : Nat → Nat) (n : Nat) : ∀ m, sumx f (n + m) = sumx f n ^^^ sumx (fun i => f (n + i)) m
  | 0 => by show sumx f n = sumx f n ^^^ 0; rw [Nat.xor_zero]
  | m + 1 => by
    show sumx f (n + m) ^^^ f (n + m) = sumx f n ^^^ (sumx (fun i => f (n + i)) m ^^^ f (n + m))
    rw [sumx_add f n m, Nat.xor_assoc]
theorem sumx_swap (f : Nat → Nat → Nat) (m : Nat) : ∀ n, sumx (fun i => sumx (f i) m) n = sumx (fun j => sumx (fun i => f i j) n) m
  | 0 => (sumx_zero fun _ _ => rfl).symm
  | n + 1 => by
    show sumx (fun i => sumx (f i) m) n ^^^ sumx (f n) m = sumx (fun j => sumx (fun i => f i j) n ^^^ f n j) m
    rw [sumx_swap f m n, sumx_xor]

/-! ### Rows -/

/-- All are bytes. -/
def Byt (l : List Nat) : Prop := ∀ x ∈ l, x < 256
def gt (l : List Nat) (i : Nat) : Nat := l.getD i 0
theorem gt_lt {l : List Nat} (h : Byt l) (i : Nat) : gt l i < 256 := by
  unfold gt
  rw [List.getD_eq_getElem?_getD]
  cases e : l[i]? with
  | none => exact Nat.succ_pos _
  | some x => exact h x (List.mem_of_getElem? e)
theorem gt_of_lt {l : List Nat} {i : Nat} (h : i < l.length) : l[i]? = some (gt l i) := by
  unfold gt
  rw [List.getD_eq_getElem?_getD, List.getElem?_eq_getElem h]; rfl
theorem gt_ge {l : List Nat} {i : Nat} (h : l.length ≤ i) : gt l i = 0 := by
  unfold gt
  rw [List.getD_eq_getElem?_getD, List.getElem?_eq_none h]; rfl
theorem gt_ext {a b : List Nat} (h : a.length = b.length) (h2 : ∀ i, i < a.length → gt a i = gt b i) : a = b := by
  refine List.ext_getElem? fun i => ?_
  by_cases hi : i < a.length
  · rw [gt_of_lt hi, gt_of_lt (h ▸ hi), h2 i hi]
  · rw [List.getElem?_eq_none (by omega), List.getElem?_eq_none (by omega)]
theorem gt_append (a b : List Nat) (i : Nat) : gt (a ++ b) i = if i < a.length then gt a i else gt b (i - a.length) := by
  unfold gt
  split
  · rename_i h
    rw [List.getD_eq_getElem?_getD, List.getD_eq_getElem?_getD, List.getElem?_append_left h]
  · rename_i h
    rw [List.getD_eq_getElem?_getD, List.getD_eq_getElem?_getD, List.getElem?_append_right (by omega)]

/-- A row times c. -/
def sc (c : Nat) (row : List Nat) : List Nat := row.map (gm c)
/-- Into, with c times row added. -/
def fd (c : Nat) : List Nat → List Nat → List Nat
  | [], into => into
  | _ :: _, [] => []
  | r :: row, x :: into => (x ^^^ gm c r) :: fd c row into
theorem sc_len (c : Nat) (row : List Nat) : (sc c row).length = row.length := List.length_map ..
theorem sc_byt (c : Nat) (row : List Nat) : Byt (sc c row) := fun x h => by
  obtain ⟨y, _, rfl⟩ := List.mem_map.1 h
  exact gm_lt
theorem sc_gt (c : Nat) (row : List Nat) (i : Nat) : gt (sc c row) i = gm c (gt row i) := by
  unfold gt sc
  rw [List.getD_eq_getElem?_getD, List.getD_eq_getElem?_getD, List.getElem?_map]
  cases row[i]? with
  | none => exact (gm_zero c).symm
  | some x => rfl
theorem fd_len (c : Nat) : ∀ row into : List Nat, (fd c row into).length = into.length
  | [], _ => rfl
  | _ :: _, [] => rfl
  | _ :: row, _ :: into => by show (fd c row into).length + 1 = _; rw [fd_len c row into]; rfl
theorem fd_byt (c : Nat) : ∀ row into : List Nat, Byt into → Byt (fd c row into)
  | [], _, h => h
  | _ :: _, [], h => h
  | r :: row, x :: into, h => fun y hy => by
    rcases List.mem_cons.1 hy with rfl | hy
    · exact xor_lt (h x (List.mem_cons_self ..)) gm_lt
    · exact fd_byt c row into (fun z hz => h z (List.mem_cons_of_mem _ hz)) y hy
theorem fd_gt (c : Nat) : ∀ (row into : List Nat) (i : Nat), row.length ≤ into.length → gt (fd c row into) i = gt into i ^^^ gm c (gt row i)
  | [], into, i, _ => by
    show gt into i = gt into i ^^^ gm c 0
    rw [gm_zero, Nat.xor_zero]
  | _ :: _, [], _, h => absurd h (by simp)
  | r :: row, x :: into, 0, _ => rfl
  | r :: row, x :: into, i + 1, h => fd_gt c row into i (by simpa using h)
theorem fd_zero {row into : List Nat} (h : row.length ≤ into.length) : fd 0 row into = into :=
  gt_ext (fd_len ..) fun i _ => by rw [fd_gt 0 row into i h, zero_gm, Nat.xor_zero]

/-- The sum of the products with y of the first n. -/
def dt (n : Nat) (r : List Nat) (y : Nat → Nat) : Nat := sumx (fun l => gm (gt r l) (y l)) n
theorem dt_sc (n c : Nat) (r : List Nat) (y : Nat → Nat) : dt n (sc c r) y = gm c (dt n r y) := by
  unfold dt
  rw [sumx_mul fun _ => gm_lt]
  exact sumx_cong fun i _ => by rw [sc_gt, gm_assoc]
theorem dt_fd {n c : Nat} {r s : List Nat} (y : Nat → Nat) (h : r.length ≤ s.length) (hs : Byt s) : dt n (fd c r s) y = dt n s y ^^^ gm c (dt n r y) := by
  unfold dt
  rw [sumx_mul fun _ => gm_lt, ← sumx_xor]
  exact sumx_cong fun i _ => by rw [fd_gt c r s i h, gm_xor2 (gt_lt hs i) gm_lt, gm_assoc]
theorem dt_lt {n : Nat} {r : List Nat} {y : Nat → Nat} : dt n r y < 256 := sumx_lt (fun _ => gm_lt) n

/-! ### The short law of the sums of fractions -/

def fr (a : Nat) : List (Nat × Nat) → Nat
  | [] => 0
  | (b, x) :: l => gm x (inv (a ^^^ b)) ^^^ fr a l
theorem fr_lt (a : Nat) : ∀ l, fr a l < 256
  | [] => Nat.succ_pos _
  | (_, _) :: l => xor_lt gm_lt (fr_lt a l)
theorem inv_gm {u w : Nat} (h0 : u ≠ 0) (h : u < 256) (hw : w < 256) : gm u (gm w (inv u)) = w := by
  rw [show gm u (gm w (inv u)) = gm w (gm u (inv u)) by ac_rfl, gm_inv h0 h, gm_one2 hw]
/-- (a+b) x/(a+b') + (a0+b) x/(a0+b') = (a+a0) (x (b+b')/(a0+b')) / (a+b'). -/
theorem frac {u v w x : Nat} (hu : u < 256) (hv : v < 256) (hw : w < 256) (hx : x < 256) (u0 : u ≠ 0) (v0 : v ≠ 0) :
    gm (u ^^^ w) (gm x (inv u)) ^^^ gm (v ^^^ w) (gm x (inv v)) = gm (u ^^^ v) (gm (gm x (gm w (inv v))) (inv u)) := by
  rw [gm_xor2 hu hw, gm_xor2 hv hw, gm_xor2 hu hv, inv_gm u0 hu hx, inv_gm v0 hv hx]
  have e1 : gm u (gm (gm x (gm w (inv v))) (inv u)) = gm x (gm w (inv v)) := inv_gm u0 hu gm_lt
  have e2 : gm v (gm (gm x (gm w (inv v))) (inv u)) = gm x (gm w (inv u)) := by
    rw [show gm v (gm (gm x (gm w (inv v))) (inv u)) = gm v (gm (gm x (gm w (inv u))) (inv v)) by ac_rfl]
    exact inv_gm v0 hv gm_lt
  rw [e1, e2]
  rw [show gm w (gm x (inv u)) = gm x (gm w (inv u)) by ac_rfl, show gm w (gm x (inv v)) = gm x (gm w (inv v)) by ac_rfl]
  have h : ∀ p q r : Nat, (p ^^^ q) ^^^ (p ^^^ r) = r ^^^ q := fun p q r => by
    rw [show (p ^^^ q) ^^^ (p ^^^ r) = (p ^^^ p) ^^^ (r ^^^ q) by ac_rfl, Nat.xor_self, Nat.zero_xor]
  exact h _ _ _
def nx (a0 b : Nat) (l : List (Nat × Nat)) : List (Nat × Nat) := l.map fun p => (p.1, gm p.2 (gm (b ^^^ p.1) (inv (a0 ^^^ p.1))))
theorem fr_next {a a0 b : Nat} (ha : a < 256) (ha0 : a0 < 256) (hb : b < 256) : ∀ l : List (Nat × Nat), (∀ p ∈ l, p.1 < 256 ∧ p.2 < 256 ∧ a ≠ p.1 ∧ a0 ≠ p.1) →
    gm (a ^^^ b) (fr a l) ^^^ gm (a0 ^^^ b) (fr a0 l) = gm (a ^^^ a0) (fr a (nx a0 b l))
  | [], _ => by
    show gm _ 0 ^^^ gm _ 0 = gm _ 0
    rw [gm_zero, gm_zero, gm_zero]; rfl
  | (b', x) :: l, h => by
    obtain ⟨hb', hx, h1, h2⟩ := h (b', x) (List.mem_cons_self ..)
    have ih := fr_next ha ha0 hb l fun p hp => h p (List.mem_cons_of_mem _ hp)
    show gm (a ^^^ b) (gm x (inv (a ^^^ b')) ^^^ fr a l) ^^^ gm (a0 ^^^ b) (gm x (inv (a0 ^^^ b')) ^^^ fr a0 l) = gm (a ^^^ a0) (gm (gm x (gm (b ^^^ b') (inv (a0 ^^^ b')))) (inv (a ^^^ b')) ^^^ fr a (nx a0 b l))
    rw [gm_xor gm_lt (fr_lt a l), gm_xor gm_lt (fr_lt a0 l), gm_xor gm_lt (fr_lt a _), ← ih]
    have e := frac (u := a ^^^ b') (v := a0 ^^^ b') (w := b ^^^ b') (x := x) (xor_lt ha hb') (xor_lt ha0 hb') (xor_lt hb hb') hx (xor_ne h1) (xor_ne h2)
    have ex : ∀ p : Nat, (p ^^^ b') ^^^ (b ^^^ b') = p ^^^ b := fun p => by
      rw [show (p ^^^ b') ^^^ (b ^^^ b') = (p ^^^ b) ^^^ (b' ^^^ b') by ac_rfl, Nat.xor_self, Nat.xor_zero]
    have ex2 : (a ^^^ b') ^^^ (a0 ^^^ b') = a ^^^ a0 := by
      rw [show (a ^^^ b') ^^^ (a0 ^^^ b') = (a ^^^ a0) ^^^ (b' ^^^ b') by ac_rfl, Nat.xor_self, Nat.xor_zero]
    rw [ex, ex, ex2] at e
    rw [← e]
    ac_rfl
theorem nx_fst (a0 b : Nat) (l : List (Nat × Nat)) : (nx a0 b l).map Prod.fst = l.map Prod.fst := by
  unfold nx
  rw [List.map_map]; rfl
theorem cauchy : ∀ (L : List (Nat × Nat)) (A : List Nat), L.length ≤ A.length → A.Nodup → (L.map Prod.fst).Nodup → (∀ a ∈ A, a < 256) → (∀ p ∈ L, p.1 < 256 ∧ p.2 < 256) → (∀ a ∈ A, ∀ p ∈ L, a ≠ p.1) → (∀ a ∈ A, fr a L = 0) → ∀ p ∈ L, p.2 = 0
  | [], _, _, _, _, _, _, _, _ => fun _ h => by cases h
  | (b, x) :: L, [], h, _, _, _, _, _, _ => absurd h (by simp)
  | (b, x) :: L, a0 :: A, hlen, hA, hL, ba, bl, hne, hz => by
    have ha0 := ba a0 (List.mem_cons_self ..)
    have hbx := bl (b, x) (List.mem_cons_self ..)
    rw [List.nodup_cons] at hA
    rw [List.map_cons, List.nodup_cons] at hL
    have hne0 : a0 ≠ b := hne a0 (List.mem_cons_self ..) (b, x) (List.mem_cons_self ..)
    have hnext : ∀ a ∈ A, fr a (nx a0 b L) = 0 := fun a ha => by
      have ha1 := ba a (List.mem_cons_of_mem _ ha)
      have haa : a ≠ a0 := fun e => hA.1 (e ▸ ha)
      have hab : a ≠ b := hne a (List.mem_cons_of_mem _ ha) (b, x) (List.mem_cons_self ..)
      have e := fr_next ha1 ha0 hbx.1 L fun p hp => ⟨(bl p (List.mem_cons_of_mem _ hp)).1, (bl p (List.mem_cons_of_mem _ hp)).2, hne a (List.mem_cons_of_mem _ ha) p (List.mem_cons_of_mem _ hp), hne a0 (List.mem_cons_self ..) p (List.mem_cons_of_mem _ hp)⟩
      have z1 : gm x (inv (a ^^^ b)) ^^^ fr a L = 0 := hz a (List.mem_cons_of_mem _ ha)
      have z2 : gm x (inv (a0 ^^^ b)) ^^^ fr a0 L = 0 := hz a0 (List.mem_cons_self ..)
      rw [← xor_zero_eq z1, ← xor_zero_eq z2, inv_gm (xor_ne hab) (xor_lt ha1 hbx.1) hbx.2, inv_gm (xor_ne hne0) (xor_lt ha0 hbx.1) hbx.2, Nat.xor_self] at e
      exact gm_eq_zero e.symm (xor_ne haa)
    have hrest : ∀ p ∈ L, p.2 = 0 := fun p hp => by
      have ih := cauchy (nx a0 b L) A (by unfold nx; rw [List.length_map]; simpa using hlen) hA.2 (by rw [nx_fst]; exact hL.2) (fun a ha => ba a (List.mem_cons_of_mem _ ha))
        (fun q hq => by
          obtain ⟨p, hp, rfl⟩ := List.mem_map.1 hq
          exact ⟨(bl p (List.mem_cons_of_mem _ hp)).1, gm_lt⟩)
        (fun a ha q hq => by
          obtain ⟨p, hp, rfl⟩ := List.mem_map.1 hq
          exact hne a (List.mem_cons_of_mem _ ha) p (List.mem_cons_of_mem _ hp)) hnext (p.1, gm p.2 (gm (b ^^^ p.1) (inv (a0 ^^^ p.1)))) (List.mem_map.2 ⟨p, hp, rfl⟩)
      have hp1 := bl p (List.mem_cons_of_mem _ hp)
      have hbp : b ≠ p.1 := fun e => hL.1 (e ▸ List.mem_map.2 ⟨p, hp, rfl⟩)
      have hap : a0 ≠ p.1 := hne a0 (List.mem_cons_self ..) p (List.mem_cons_of_mem _ hp)
      have hne2 : gm (b ^^^ p.1) (inv (a0 ^^^ p.1)) ≠ 0 := gm_ne (xor_ne hbp) (inv_ne (xor_ne hap) (xor_lt ha0 hp1.1))
      rw [gm_comm] at ih
      exact gm_eq_zero ih hne2
    have hfr : ∀ (M : List (Nat × Nat)), (∀ p ∈ M, p.2 = 0) → fr a0 M = 0 := by
      intro M
      induction M with
      | nil => exact fun _ => rfl
      | cons q M ih =>
        obtain ⟨q1, q2⟩ := q
        intro hM
        show gm q2 _ ^^^ fr a0 M = 0
        rw [ih fun p hp => hM p (List.mem_cons_of_mem _ hp), show q2 = 0 from hM (q1, q2) (List.mem_cons_self ..), zero_gm]; rfl
    intro p hp
    rcases List.mem_cons.1 hp with rfl | hp
    · have z2 : gm x (inv (a0 ^^^ b)) ^^^ fr a0 L = 0 := hz a0 (List.mem_cons_self ..)
      rw [hfr L hrest, Nat.xor_zero, gm_comm] at z2
      exact gm_eq_zero z2 (inv_ne (xor_ne hne0) (xor_lt ha0 hbx.1))
    · exact hrest p hp
end Go.Proofs.YthhljmlpjnkfgaaGreat
