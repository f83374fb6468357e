/-
  What is taken of a pool is free no more; a value's stripes lie on the drives as they were put, and stay.
  A long text's stripes: how much room, how many, which part.
  A long text's stripes: what a stripe's text is, and whom it tells of.
  A value's stripes, by name.
  A long text's stripes: their names, side by side.
  blob.Put while nothing came back to the pool: the places follow each other.
  A pool of which the first places are taken, further; stripes of any kind put one behind the other.
  A long text's stripes are written.
  A long text is put, or why not.
-/
import Derived.Test.YtcliejdiaohamaaGreatSy12
import Derived.Test.YtcliejdiaohamaaGreatSy11
import Derived.Test.YtcliejdiaohamaaGreatSy8
import Derived.Defers
set_option linter.unusedSimpArgs false
set_option linter.unusedVariables false
namespace Go.Proofs.YtcliejdiaohamaaGreat
open Go.RowKit Go.Cib
attribute [local go_sem] cell_set Later.cell Later.frozen Grw.cell Grw.frozen
theorem tk_setW {n : Nat} {ws : List Nat} (h : WordsOk n ws) {i : Nat} (hi : i < n) (j : Nat) : tk (setW n ws (i : Int) true) j = (tk ws j || decide (j = i)) := by
  have hl : i / 64 < ws.length := (List.getElem?_eq_some_iff.1 (wd_at h hi)).1
  have hr : decide (0 ≤ (i : Int) ∧ (i : Int) < (n : Int)) = true := decide_eq_true ⟨Int.natCast_nonneg _, by omega⟩
  unfold setW setB
  rw [hr, Int.toNat_natCast]
  cases ht : tk ws i with
  | true =>
    rw [if_neg (by decide)]
    by_cases e : j = i
    · subst e; rw [ht]; simp
    · simp [e]
  | false =>
    rw [if_pos (by decide), tk_flip hl]
    by_cases e : j = i
    · subst e; rw [if_pos rfl, ht]; simp
    · rw [if_neg e]; simp [e]
theorem setW_ok {n : Nat} {ws : List Nat} (h : WordsOk n ws) {i : Nat} (hi : i < n) (on : Bool) : WordsOk n (setW n ws (i : Int) on) := by
  unfold setW
  split
  · rw [Int.toNat_natCast]; exact flip_ok h hi
  · exact h
theorem tk_takeW {n : Nat} : ∀ (l : List Nat) {ws : List Nat} (_ : WordsOk n ws) (_ : ∀ i ∈ l, i < n) (j : Nat), tk (takeW n ws (l.map fun i : Nat => (i : Int))) j = (tk ws j || decide (j ∈ l))
  | [], ws, h, hl, j => by simp [takeW]
  | x :: l, ws, h, hl, j => by
    have hx : x < n := hl x (by simp)
    rw [List.map_cons, takeW, tk_takeW l (setW_ok h hx true) (fun i hi => hl i (List.mem_cons_of_mem _ hi)), tk_setW h hx]
    cases tk ws j <;> by_cases e : j = x <;> simp [e]
theorem freeL_lt {ws : List Nat} {n i : Nat} (h : i ∈ freeL ws n) : i < n := List.mem_range.1 (List.mem_filter.1 h).1
theorem freeL_nd (ws : List Nat) (n : Nat) : (freeL ws n).Nodup := List.nodup_range.filter _
theorem filter_drop {L : List Nat} (hn : L.Nodup) (m : Nat) : L.filter (fun j => !decide (j ∈ L.take m)) = L.drop m := by
  have e : L = L.take m ++ L.drop m := (List.take_append_drop m L).symm
  have hd : ∀ a ∈ L.take m, ∀ b ∈ L.drop m, a ≠ b := by
    have h2 := hn
    rw [e] at h2
    exact (List.nodup_append.1 h2).2.2
  obtain ⟨T, hT⟩ : ∃ T, L.take m = T := ⟨_, rfl⟩
  obtain ⟨D, hD⟩ : ∃ D, L.drop m = D := ⟨_, rfl⟩
  rw [hT, hD] at e hd
  rw [hT, hD, e, List.filter_append, List.filter_eq_nil_iff.2 (fun a ha => by simp [ha]), List.filter_eq_self.2 (fun a ha => by
    simp only [Bool.not_eq_true', decide_eq_false_iff_not]
    exact fun h => hd a h a ha rfl)]
  rfl
theorem free_take {n : Nat} {ws : List Nat} (h : WordsOk n ws) (m : Nat) : freeL (takeW n ws ((frI ws n).take m)) n = (freeL ws n).drop m := by
  rw [← filter_drop (freeL_nd ws n) m]
  unfold frI
  rw [← List.map_take]
  have ht : ∀ i ∈ (freeL ws n).take m, i < n := fun i hi => freeL_lt (List.mem_of_mem_take hi)
  obtain ⟨T, hT⟩ : ∃ T, (freeL ws n).take m = T := ⟨_, rfl⟩
  rw [hT] at ht ⊢
  unfold freeL
  rw [List.filter_filter]
  refine List.filter_congr fun j hj => ?_
  rw [tk_takeW T h ht]
  cases tk ws j <;> simp
/-- Places that follow each other. -/
def plL (a M : Nat) : List Int := (List.range M).map fun i : Nat => ((a + i : Nat) : Int)
theorem plL_at {a M i : Nat} (h : i < M) : (plL a M).getD i 0 = ((a + i : Nat) : Int) := by
  unfold plL
  simp [List.getD_eq_getElem?_getD, h]
theorem pl_of {wo : List Nat} {np t M fs : Nat} (h : freeL wo np = (List.range np).drop t) (hM : t + M ≤ np) : (((frI wo np).take M).map fun x => x + (fs : Int)) = plL (fs + t) M := by
  unfold frI plL
  rw [h, ← List.map_take, List.map_map]
  apply List.ext_getElem?
  intro i
  simp only [List.getElem?_map, List.getElem?_take, List.getElem?_drop, List.getElem?_range]
  by_cases hi : i < M
  · rw [if_pos hi, List.getElem?_range (by omega), List.getElem?_range hi]
    simp only [Option.map_some, Function.comp]
    congr 1
    push_cast
    omega
  · rw [if_neg hi, List.getElem?_eq_none (by rw [List.length_range]; omega)]
    rfl
theorem free_next {wo : List Nat} {np t M : Nat} (hw : WordsOk np wo) (h : freeL wo np = (List.range np).drop t) : freeL (takeW np wo ((frI wo np).take M)) np = (List.range np).drop (t + M) := by
  rw [free_take hw, h, List.drop_drop]
theorem free_new (m n : Nat) : freeL (List.replicate m 0) n = (List.range n).drop 0 := by
  unfold freeL
  rw [List.drop_zero]
  exact List.filter_eq_self.2 fun i _ => by rw [tk_new]; rfl
theorem free_cnt {wo : List Nat} {np t : Nat} (h : freeL wo np = (List.range np).drop t) : freeN wo np = np - t ∧ (freeL wo np).length = np - t := by
  have h1 := freeL_len wo np
  have h2 : (freeL wo np).length = np - t := by rw [h]; simp
  unfold freeN
  exact ⟨by omega, h2⟩
/-! ### Drives that are all alive -/
def Alv (n : Nat) (sts : List DSt) : Prop := ∀ st ∈ sts, st.dead = false ∧ st.ok n
section
variable {g : Nat → Bool} {n k N a G M0 : Nat} {xs : List Nat} {sts : List DSt}
theorem Alv.live (h : Alv n sts) {d : Nat} (hd : d < sts.length) : deadL sts d = false := by
  unfold deadL
  rw [List.getElem?_eq_getElem hd]
  exact (h _ (List.getElem_mem hd)).1
theorem Alv.new (n N : Nat) : Alv n (newS n N) := fun st hst => by
  obtain ⟨d, hd, rfl⟩ := List.mem_iff_getElem.1 hst
  rw [(newS_at (List.getElem?_eq_getElem hd)).1]
  exact ⟨rfl, DSt.ok.new n⟩
theorem Alv.count (h : Alv n sts) : cnt (aliveL sts) = sts.length := by
  have e : aliveL sts = List.replicate sts.length true := by
    unfold aliveL
    apply List.ext_getElem?
    intro d
    rw [List.getElem?_map, List.getElem?_replicate]
    by_cases hd : d < sts.length
    · rw [if_pos hd, List.getElem?_eq_getElem hd]
      simp [(h _ (List.getElem_mem hd)).1]
    · rw [if_neg hd, List.getElem?_eq_none (by omega)]; rfl
  rw [e]
  unfold cnt
  simp
theorem Alv.put (h : Alv n sts) {r : Ref} (hr : r.ok n) (hx : Byt xs) : Alv n (sts.mapIdx (putQ n k N r xs)) := fun st hst => by
  obtain ⟨d, hd⟩ := List.getElem?_of_mem hst
  obtain ⟨s1, h1, rfl⟩ := mapIdx_at hd
  obtain ⟨a1, a2⟩ := h s1 (List.mem_of_getElem? h1)
  rw [putQ_live hr hx a1]
  exact ⟨a1, a2.write (wrI_len (x := putX k N r xs d) (row44 hx k _).1) ⟨Int.natCast_nonneg _, by have := hr.p; omega⟩⟩
theorem bRef_pl {M i : Nat} (h : i < M) : bRef (plL a M) G i = ⟨3, a + i, G + i⟩ := by
  unfold bRef
  rw [plL_at h, Int.toNat_natCast]
theorem bPc_byt (hx : Byt xs) (i : Nat) : Byt (bPc k xs i) := fun x h => hx x (List.mem_of_mem_drop (List.mem_of_mem_take h))
theorem ref3_in {p z : Nat} (h : p < n) : Ref.ok ⟨3, p, z⟩ n := ⟨(by decide : 1 ≤ 3), (by decide : 3 ≤ 4), h⟩
theorem putB_alv (h : Alv n sts) (hx : Byt xs) {M : Nat} (ha : a + M ≤ n) : ∀ i, i ≤ M → Alv n (putB n k N (plL a M) G xs sts i)
  | 0, _ => h
  | i + 1, hi => by
    rw [putB, bRef_pl (by omega)]
    exact (putB_alv h hx ha i (by omega)).put (ref3_in (by omega)) (bPc_byt hx i)
theorem putB_old {r : Ref} {ys : List Nat} (h : Hds g k N r ys sts) (hx : Byt xs) {M : Nat} (ha : a + M ≤ n) (hd : r.place < a ∨ a + M ≤ r.place) : ∀ i, i ≤ M → Hds g k N r ys (putB n k N (plL a M) G xs sts i)
  | 0, _ => h
  | i + 1, hi => by
    rw [putB, bRef_pl (by omega)]
    exact (putB_old h hx ha hd i (by omega)).put (n := n) (ref3_in (by omega)) (bPc_byt hx i) (by show a + i ≠ r.place; omega)
theorem putB_new (h : Alv n sts) (hx : Byt xs) {M : Nat} (ha : a + M ≤ n) : ∀ i, i ≤ M → ∀ t, t < i → Hds (fun _ => true) k N ⟨3, a + t, G + t⟩ (bPc k xs t) (putB n k N (plL a M) G xs sts i)
  | 0, _, t, ht => absurd ht (by omega)
  | i + 1, hi, t, ht => by
    have hA := putB_alv (k := k) (N := N) (G := G) h hx ha i (by omega)
    rw [putB, bRef_pl (by omega)]
    by_cases e : t = i
    · subst e
      refine (Hds.new (n := n) (ref3_in (by omega)) (bPc_byt hx t) (fun st hst hd => by rw [(hA st hst).1] at hd; cases hd)).congr fun d hd => ?_
      rw [List.length_mapIdx] at hd
      rw [hA.live hd]; rfl
    · exact (putB_new h hx ha i (by omega) t (by omega)).put (n := n) (ref3_in (by omega)) (bPc_byt hx i) (by show a + i ≠ a + t; omega)
/-- A value lies on the drives g. -/
def HdB (g : Nat → Bool) (k N a G M : Nat) (xs : List Nat) (sts : List DSt) : Prop := ∀ t, t < M → Hds g k N ⟨3, a + t, G + t⟩ (bPc k xs t) sts
theorem HdB.put (h : HdB g k N a G M0 xs sts) {ys : List Nat} (hy : Byt ys) {b H M : Nat} (hb : b + M ≤ n) (hd : a + M0 ≤ b) : HdB g k N a G M0 xs (putB n k N (plL b M) H ys sts M) := fun t ht =>
  putB_old (h t ht) hy hb (.inl (by show a + t < b; omega)) M (Nat.le_refl _)
theorem HdB.new (h : Alv n sts) (hx : Byt xs) {M : Nat} (ha : a + M ≤ n) : HdB (fun _ => true) k N a G M xs (putB n k N (plL a M) G xs sts M) := fun t ht => putB_new h hx ha M (Nat.le_refl _) t ht
theorem HdB.fail (h : HdB g k N a G M0 xs sts) (ha : a + M0 ≤ n) (x : Int) : HdB (butB g x) k N a G M0 xs (failA n sts x) := fun t ht => (h t ht).fail (ref3_in (by omega)) x
end
end Go.Proofs.YtcliejdiaohamaaGreat

set_option linter.unusedSimpArgs false
set_option linter.unusedVariables false
namespace Go.Proofs.YtcliejdiaohamaaGreat
open Go.RowKit Go.Cib
attribute [local go_sem] cell_set Later.cell Later.frozen Grw.cell Grw.frozen
def scI (k : Nat) (size : Int) : Int := if size < 0 then 0 else if size = 0 then 1 else (size - 1) / ((k * 44 - 10 : Nat) : Int) + 1
def scN (k size : Nat) : Nat := if size = 0 then 1 else (size - 1) / (k * 44 - 10) + 1
theorem scI_nat (k size : Nat) : scI k (size : Int) = (scN k size : Nat) := by
  unfold scI scN
  rw [if_neg (by omega)]
  by_cases h : size = 0
  · subst h; rfl
  · rw [if_neg (by omega), if_neg h]
    push_cast
    rw [show ((size : Int) - 1) = ((size - 1 : Nat) : Int) by omega]
theorem scN_pos (k size : Nat) : 1 ≤ scN k size := by
  unfold scN
  split
  · exact Nat.le_refl _
  · exact Nat.le_add_left 1 _
theorem scN_le (k size : Nat) : scN k size ≤ size + 1 := by
  unfold scN
  split
  · omega
  · have := Nat.div_le_self (size - 1) (k * 44 - 10); omega
theorem scN_mul {k size i : Nat} (hk : 1 ≤ k) (hi : i < scN k size) : i * (k * 44 - 10) ≤ size := by
  unfold scN at hi
  split at hi
  · rw [show i = 0 by omega]; omega
  · have h1 : i ≤ (size - 1) / (k * 44 - 10) := by omega
    have h2 := (Nat.le_div_iff_mul_le (show 0 < k * 44 - 10 by omega)).1 h1
    omega
theorem scN_all {k size : Nat} (hk : 1 ≤ k) : size ≤ scN k size * (k * 44 - 10) := by
  unfold scN
  split
  · omega
  · obtain ⟨r, hr⟩ : ∃ r, k * 44 - 10 = r := ⟨_, rfl⟩
    rw [hr]
    have h1 := Nat.lt_div_mul_add (a := size - 1) (b := r) (by omega)
    rw [Nat.add_mul]
    omega
section
variable {w : World} {cb bf k m : Nat}
set_option maxRecDepth 100000 in
theorem sroom_any (h : CodAt w cb bf k m) : Calls Tryz.prog 119 #[.pointer (some ⟨cb, 0, none⟩)] w fun e w' => e = .returned (.int .i64 ((k * 44 - 10 : Nat) : Int)) ∧ w' = w := by
  have hrm := room_any h
  have hk1 := h.k1
  have hkm := h.km
  obtain ⟨r, hr⟩ : ∃ r, k * 44 = r := ⟨_, rfl⟩
  rw [hr] at hrm
  have hw : IntKind.i64.wrap ((r : Int) - 10) = ((r - 10 : Nat) : Int) := by rw [IntKind.wrap_i64]; omega
  rw [hr]
  clear h hr
  go_enter Tryz.func119, Tryz.ntmps119
  go_wp2_with fail
  refine hrm.mono ?_
  clear hrm
  rintro e w1 ⟨rfl, hw1⟩
  rw [hw1]
  clear hw1
  go_wp2_with fail
  go_ret
  exact ⟨rfl, rfl⟩
set_option maxRecDepth 100000 in
set_option maxHeartbeats 4000000 in
theorem scnt_any (h : CodAt w cb bf k m) {size : Int} (hs : Hid (size < 9223372036854775808)) :
    Calls Tryz.prog 46 #[.pointer (some ⟨cb, 0, none⟩), .int .i64 size] w fun e w' => e = .returned (.int .i64 (scI k size)) ∧ Below w.heap.size w w' := by
  have hcn := cn_any h
  have hrm := fun w' (hb : Below w.heap.size w w') => sroom_any (h.below hb)
  have hk1 := h.k1
  have hkm := h.km
  obtain ⟨N, hN⟩ : ∃ N, k + m = N := ⟨_, rfl⟩
  rw [hN] at hcn
  have e0 : ((N : Int) == 0) = false := by simp; omega
  obtain ⟨r, hr⟩ : ∃ r, k * 44 - 10 = r := ⟨_, rfl⟩
  have hr1 : 34 ≤ r := by omega
  have e1 : ((r : Int) == 0) = false := by simp; omega
  unfold scI
  rw [hr]
  simp only [hr] at hrm
  have HRM := Lib.hid hrm
  clear h hrm hN hr
  go_enter Tryz.func46, Tryz.ntmps46
  by_cases h0 : size < 0
  · rw [if_pos h0]
    have f0 : decide (size < 0) = true := decide_eq_true h0
    go_wp2_with fail
    refine hcn.mono ?_
    clear hcn
    rintro e w1 ⟨rfl, hb1⟩
    have HB := Lib.hid hb1
    clear hb1
    go_wp2_with fail
    go_ret
    exact ⟨rfl, HB.out⟩
  · rw [if_neg h0]
    have f0 : decide (size < 0) = false := decide_eq_false h0
    by_cases h1 : size = 0
    · rw [if_pos h1]
      subst h1
      go_wp2_with fail
      refine hcn.mono ?_
      clear hcn
      rintro e w1 ⟨rfl, hb1⟩
      have HB := Lib.hid hb1
      clear hb1
      go_wp2_with fail
      go_ret
      exact ⟨rfl, HB.out⟩
    · rw [if_neg h1]
      have f2 : (size == 0) = false := by simpa using h1
      have hq : (size - 1) / (r : Int) ≤ size - 1 := Int.ediv_le_self _ (by omega)
      have hq0 : 0 ≤ (size - 1) / (r : Int) := Int.ediv_nonneg (by omega) (by omega)
      have f1 : IntKind.i64.wrap (size - 1) = size - 1 := by rw [IntKind.wrap_i64]; have := hs.out; omega
      have f3 : Int.tdiv (size - 1) (r : Int) = (size - 1) / (r : Int) := Int.tdiv_eq_ediv_of_nonneg (by omega)
      obtain ⟨q, hqe⟩ : ∃ q, (size - 1) / (r : Int) = q := ⟨_, rfl⟩
      rw [hqe] at hq hq0 f3 ⊢
      have f4 : IntKind.i64.wrap q = q := by rw [IntKind.wrap_i64]; have := hs.out; omega
      have f5 : IntKind.i64.wrap (q + 1) = q + 1 := by rw [IntKind.wrap_i64]; have := hs.out; omega
      clear hq h1
      go_wp2_with fail
      refine hcn.mono ?_
      clear hcn
      rintro e w1 ⟨rfl, hb1⟩
      have hrm1 := HRM.out w1 hb1
      have HB := Lib.hid hb1
      clear hb1
      go_wp2_with fail
      refine hrm1.mono ?_
      clear hrm1
      rintro e w2 ⟨rfl, hw2⟩
      rw [hw2]
      clear hw2
      go_wp2_with fail
      go_ret
      exact ⟨rfl, HB.out⟩
end
attribute [local go_sem ↓] run_min_b
set_option maxRecDepth 100000 in
set_option maxHeartbeats 4000000 in
theorem spiece_any {w : World} {S : Nat → Prop} {A : Option Addr} {n c rm i : Nat} {xs : List Nat} (R : RdL ByR 1 S w A n xs) (hc : n ≤ c) (hn : n ≤ 1000000) (hi : i * rm ≤ n) (hr : rm ≤ 20000) (hi2 : i ≤ 1000000) :
    Calls Tryz.prog 182 #[.slice A n c, .int .i64 (rm : Int), .int .i64 (i : Int)] w fun e w' => ∃ A' l' c', e = .returned (.slice A' l' c') ∧ l' ≤ c' ∧ RdL ByR 1 S w A' l' ((xs.drop (i * rm)).take rm) ∧ l' = min rm (n - i * rm) ∧ w' = w := by
  obtain ⟨k, hk⟩ : ∃ k, i * rm = k := ⟨_, rfl⟩
  have hkI : (i : Int) * (rm : Int) = (k : Int) := by rw [← hk]; push_cast; rfl
  have hkI2 : ((i : Int) + 1) * (rm : Int) = (k : Int) + (rm : Int) := by rw [Int.add_mul, hkI]; omega
  obtain ⟨j, hj⟩ : ∃ j, min n (k + rm) = j := ⟨_, rfl⟩
  have hjI : min (n : Int) ((k : Int) + (rm : Int)) = (j : Int) := by omega
  rw [hk] at hi ⊢
  have hjk : k ≤ j ∧ j ≤ n := by omega
  have hsl := piece_mid (sl_by) (A := A) (N := n) hjk.1 (show j ≤ c by omega) w
  have hrd := piece_one R hc hjk.1 hjk.2
  have htk : (xs.drop k).take (j - k) = (xs.drop k).take rm := by
    have hl := R.1
    by_cases h : k + rm ≤ n
    · rw [show j - k = rm by omega]
    · rw [List.take_of_length_le (by rw [List.length_drop]; omega), List.take_of_length_le (by rw [List.length_drop]; omega)]
  rw [htk] at hrd
  obtain ⟨A', hA'⟩ : ∃ A', (if c = k then A else A.map (fun x : Addr => x.add (k * 1))) = A' := ⟨_, rfl⟩
  rw [hA'] at hsl hrd
  have HRD := Lib.hid hrd
  have HL := Lib.hid (show j - k = min rm (n - k) by omega)
  have HC := Lib.hid (show j - k ≤ c - k by omega)
  obtain ⟨l', hl'⟩ : ∃ l', j - k = l' := ⟨_, rfl⟩
  obtain ⟨c', hc'⟩ : ∃ c', c - k = c' := ⟨_, rfl⟩
  rw [hl', hc'] at hsl HC
  rw [hl'] at HL HRD
  clear hA' hl' hc'
  have f0 : IntKind.i64.wrap ((i : Int) + 1) = (i : Int) + 1 := by rw [IntKind.wrap_i64]; omega
  have f1 : IntKind.i64.wrap (k : Int) = (k : Int) := by rw [IntKind.wrap_i64]; omega
  have f2 : IntKind.i64.wrap ((k : Int) + (rm : Int)) = (k : Int) + (rm : Int) := by rw [IntKind.wrap_i64]; omega
  clear hk hj R hrd htk hi hn hr hjk hc hi2
  go_enter Tryz.func182, Tryz.ntmps182
  go_wp2_with fail
  go_ret
  exact ⟨_, _, _, rfl, HC.out, HRD.out, HL.out, rfl⟩
end Go.Proofs.YtcliejdiaohamaaGreat

set_option linter.unusedSimpArgs false
set_option linter.unusedVariables false
namespace Go.Proofs.YtcliejdiaohamaaGreat
open Go.RowKit Go.Cib
attribute [local go_sem] cell_set Later.cell Later.frozen Grw.cell Grw.frozen
theorem OwnL.rdT {E : TypeId} {base n c : Nat} {w : World} {A : Option Addr} {xs : List Nat} (h : OwnL ByR E 1 base (fun _ => True) w (.slice A n c) n xs) : RdL ByR 1 (fun j => base ≤ j) w A n xs ∧ n ≤ c := by
  obtain ⟨A', c', e, hc, hr⟩ := h.rd (S' := fun j => base ≤ j) (fun j hj => hj) (fun cs x hx => hx)
  injection e with e1 _ e2
  subst e1; subst e2
  exact ⟨hr, hc⟩
/-- A stripe's text: where the next one is, and a part. -/
def lnk (p g : Nat) (xs : List Nat) : List Nat := leN 2 p ++ leN 8 g ++ xs
theorem lnk_len (p g : Nat) (xs : List Nat) : (lnk p g xs).length = 10 + xs.length := by unfold lnk; rw [List.length_append, List.length_append, leN_len, leN_len]
theorem lnk_byt {p g : Nat} {xs : List Nat} (h : Byt xs) : Byt (lnk p g xs) := fun x hx => by
  unfold lnk at hx
  rcases List.mem_append.1 hx with hx | hx
  · rcases List.mem_append.1 hx with hx | hx
    · exact leN_byt _ _ x hx
    · exact leN_byt _ _ x hx
  · exact h x hx
theorem lnk_p {p g : Nat} {xs : List Nat} (hp : p < 65536) : unN (((lnk p g xs).drop 0).take 2) = p := by
  unfold lnk
  rw [List.drop_zero, List.append_assoc, List.take_append_of_le_length (by rw [leN_len]; omega), List.take_of_length_le (by rw [leN_len]; omega)]
  exact unN_le 2 p (by omega)
theorem lnk_g {p g : Nat} {xs : List Nat} (hg : Hid (g < 2 ^ 64)) : unN (((lnk p g xs).drop 2).take 8) = g := by
  unfold lnk
  rw [List.append_assoc, List.drop_append_of_le_length (by rw [leN_len]; omega), List.drop_of_length_le (by rw [leN_len]; omega), List.nil_append, List.take_append_of_le_length (by rw [leN_len]; omega), List.take_of_length_le (by rw [leN_len]; omega)]
  exact unN_le 8 g (by have := hg.out; omega)
theorem lnk_x {p g : Nat} {xs : List Nat} : (lnk p g xs).drop 10 = xs := by
  unfold lnk
  rw [List.drop_append_of_le_length (by rw [List.length_append, leN_len, leN_len]; omega), List.drop_of_length_le (by rw [List.length_append, leN_len, leN_len]; omega), List.nil_append]
def scR (kd p g : Nat) : Array Value := #[.int .u8 (kd : Int), .int .i64 (p : Int), .int .u64 (g : Int)]
section
variable {w : World}
set_option maxRecDepth 100000 in
set_option maxHeartbeats 8000000 in
theorem laid_any {kd p g n c : Nat} {A : Option Addr} {S : Nat → Prop} {xs : List Nat} (R : RdL ByR 1 S w A n xs) (hn : n ≤ 20000) (hp : p < 65536) (hg : Hid (g < 2 ^ 64)) :
    Calls Tryz.prog 181 #[.agg (scR kd p g), .slice A n c] w fun e w' => ∃ A' c', e = .returned (.slice A' (10 + n) c') ∧ 10 + n ≤ c' ∧ RdL ByR 1 (fun j => w.heap.size ≤ j) w' A' (10 + n) (lnk p g xs) ∧ Below w.heap.size w w' := by
  have hb0 : Below w.heap.size w (w.alloc (.cells (scR kd p g) 41)) := (Below.refl _ _).alloc (Nat.le_refl _) _
  have bB := BoxAt.new w (scR kd p g) 41
  obtain ⟨w1, hw1⟩ : ∃ w1, w.alloc (.cells (scR kd p g) 41) = w1 := ⟨_, rfl⟩
  obtain ⟨q, hq⟩ : ∃ q, w.heap.size = q := ⟨_, rfl⟩
  rw [hw1] at hb0 bB
  rw [hq] at bB
  have HB0 := Lib.hid hb0
  have BB := Lib.hid bB
  have HR := Lib.hid R
  have fp : IntKind.u64.wrap (p : Int) = (p : Int) := by rw [IntKind.wrap_u64]; omega
  have hsz := hb0.size
  clear hb0 bB R
  unfold scR at hw1 ⊢
  go_enter Tryz.func181, Tryz.ntmps181
  go_wp2_with fail

  have hd : Below w1.heap.size w1 w1.drew := (Below.refl _ _).drew
  have HSF : Hid (∀ w', Below w1.heap.size w1 w' → w'.cell? ⟨q, 1, none⟩ = some (.int .i64 (p : Int)) ∧ w'.cell? ⟨q, 2, none⟩ = some (.int .u64 (g : Int))) := Lib.hid fun w' hb => ⟨(BB.out.below hb).cell 1, (BB.out.below hb).cell 2⟩
  clear hw1 hq
  refine wp_region_held_drew (S := fun w' => w'.cell? ⟨q, 1, none⟩ = some (.int .i64 (p : Int)) ∧ w'.cell? ⟨q, 2, none⟩ = some (.int .u64 (g : Int))) (by kernel_rfl) (by first | exact HSF.out _ hd | exact HSF.out _ hb2 | exact HSF.out _ hb3 | exact HSF.out _ hb4) (fun hHeld => ?_)
  refine wpAnyH_take (i := 0) (v := ?_) rfl (by kernel_rfl) (by kernel_rfl) (by kernel_rfl) (fun _ _ _ h => h) (Or.inl ⟨by first | kernel_rfl | rfl, ?_⟩) (by assumption) ?_
  rotate_left
  · (intro wq hSw; (try dsimp only at hSw); (try simp (maxSteps := 2000000) only [zz1, zz2, zz3]); go_simp); try with_reducible rfl
  try simp (maxSteps := 2000000) only [zz1, zz2, zz3, Act.put, zz4, zz5, zz6]
  refine wpAnyH_take (i := 1) (v := ?_) rfl (by kernel_rfl) (by kernel_rfl) (by kernel_rfl) (fun _ _ _ h => h) (Or.inl ⟨by first | kernel_rfl | rfl, ?_⟩) (by assumption) ?_
  rotate_left
  · (intro wq hSw; (try dsimp only at hSw); (try simp (maxSteps := 2000000) only [zz1, zz2, zz3]); go_simp); try with_reducible rfl
  try simp (maxSteps := 2000000) only [zz1, zz2, zz3, Act.put, zz4, zz5, zz6]
  refine wpAnyH_take (i := 2) (v := ?_) rfl (by kernel_rfl) (by kernel_rfl) (by kernel_rfl) (fun _ _ _ h => h) (Or.inl ⟨by first | kernel_rfl | rfl, ?_⟩) (by assumption) ?_
  rotate_left
  · (intro wq hSw; (try dsimp only at hSw); (try simp (maxSteps := 2000000) only [zz1, zz2, zz3]); go_simp); try with_reducible rfl
  try simp (maxSteps := 2000000) only [zz1, zz2, zz3, Act.put, zz4, zz5, zz6]
  refine wpAnyH_take (i := 4) (v := ?_) rfl (by kernel_rfl) (by kernel_rfl) (by kernel_rfl) (fun _ _ _ h => h) (Or.inl ⟨by first | kernel_rfl | rfl, ?_⟩) (by assumption) ?_
  rotate_left
  · (intro wq hSw; (try dsimp only at hSw); (try simp (maxSteps := 2000000) only [zz1, zz2, zz3]); go_simp); try with_reducible rfl
  try simp (maxSteps := 2000000) only [zz1, zz2, zz3, Act.put, zz4, zz5, zz6]
  refine wpAnyH_take (i := 5) (v := ?_) rfl (by kernel_rfl) (by kernel_rfl) (by kernel_rfl) (fun _ _ _ h => h) (Or.inl ⟨by first | kernel_rfl | rfl, ?_⟩) (by assumption) ?_
  rotate_left
  · (intro wq hSw; (try dsimp only at hSw); (try simp (maxSteps := 2000000) only [zz1, zz2, zz3]); go_simp); try with_reducible rfl
  try simp (maxSteps := 2000000) only [zz1, zz2, zz3, Act.put, zz4, zz5, zz6]
  refine wpAnyH_take (i := 7) (v := ?_) rfl (by kernel_rfl) (by kernel_rfl) (by kernel_rfl) (fun _ _ _ h => h) (Or.inl ⟨by first | kernel_rfl | rfl, ?_⟩) (by assumption) ?_
  rotate_left
  · (intro wq hSw; (try dsimp only at hSw); (try simp (maxSteps := 2000000) only [zz1, zz2, zz3]); go_simp); try with_reducible rfl
  try simp (maxSteps := 2000000) only [zz1, zz2, zz3, Act.put, zz4, zz5, zz6]
  refine wpAnyH_ready (rs := [3]) (by kernel_rfl) (by simp) ?_
  refine AllReadyH.cons rfl (fun K hK => ?_) AllReadyH.nil
  try simp (maxSteps := 2000000) only [zz1, zz2, zz3]
  go_simp
  go_at_call 121
  have hpu := nput_any (c := 0) (k := 2) (v := p) (RdL.nil (A := none) (S := fun _ => True) (w := w1.drew)) (by omega) (by omega) (by omega) (by omega)
  refine hpu.mono ?_
  clear hpu
  rintro e w2 ⟨A2, c2, rfl, hr2, hb⟩
  have hb2 : Below w1.heap.size w1 w2 := hd.trans (hb.mono hd.size)
  have HR2 := Lib.hid (OwnL.rdT hr2).1
  clear hb hr2
  try (go_wp2_with fail)
  refine hK.out _ _ (by first | exact HSF.out _ hd | exact HSF.out _ hb2 | exact HSF.out _ hb3 | exact HSF.out _ hb4) (fun hHeld => ?_)
  clear hK K
  try simp (maxSteps := 2000000) only [zz1, zz2, zz3, Act.put, zz4, zz5, zz6]
  refine wpAnyH_ready (rs := [6]) (by kernel_rfl) (by simp) ?_
  refine AllReadyH.cons rfl (fun K hK => ?_) AllReadyH.nil
  try simp (maxSteps := 2000000) only [zz1, zz2, zz3]
  go_simp
  go_at_call 121
  have hpu := nput_any (c := c2) (k := 8) (v := g) HR2.out (by omega) (by omega) (by omega) (by have := hg.out; omega)
  refine hpu.mono ?_
  clear hpu
  rintro e w3 ⟨A3, c3, rfl, hr3, hb⟩
  have hb3 : Below w1.heap.size w1 w3 := hb2.trans (hb.mono hb2.size)
  have HR3 := Lib.hid (OwnL.low hr3 hb2.size)
  clear hb hr3
  try (go_wp2_with fail)
  refine hK.out _ _ (by first | exact HSF.out _ hd | exact HSF.out _ hb2 | exact HSF.out _ hb3 | exact HSF.out _ hb4) (fun hHeld => ?_)
  clear hK K
  try simp (maxSteps := 2000000) only [zz1, zz2, zz3, Act.put, zz4, zz5, zz6]
  refine wpAnyH_ready (rs := [8]) (by kernel_rfl) (by simp) ?_
  refine AllReadyH.cons rfl (fun K hK => ?_) AllReadyH.nil
  refine step_law (by rfl) (wpList_appL ByR.stable ByR.one sl_by rfl (by exact rfl) (base := w1.heap.size) (S := fun _ => True) (n := 0 + 2 + 8) (xs := [] ++ leN 2 p ++ leN 8 g) (by rfl) HR3.out (by rfl) (HR.out.below ByR.stable (HB0.out.trans (hb3.mono HB0.out.size))) (fun cs y hy => hy) (by unfold maxLen; omega) (by omega) hb3.size ?_)
  intro A4 c4 w4 hc4 own4 hg4 hat4
  refine And.intro rfl ?_
  have hb4 : Below w1.heap.size w1 w4 := Below.grown hb3 hg4 hb3.size (fun k hk => (HR3.out.lt k hk).1)
  have HO4 := Lib.hid own4
  clear own4 hg4 hat4
  refine hK.out _ _ (by first | exact HSF.out _ hd | exact HSF.out _ hb2 | exact HSF.out _ hb3 | exact HSF.out _ hb4) (fun hHeld => ?_)
  clear hK K
  try simp (maxSteps := 2000000) only [zz1, zz2, zz3, Act.put, zz4, zz5, zz6]
  refine wpAnyH_take (i := 9) (v := ?_) rfl (by kernel_rfl) (by kernel_rfl) (by kernel_rfl) (fun _ _ _ h => h) (Or.inl ⟨by first | kernel_rfl | rfl, ?_⟩) (by assumption) ?_
  rotate_left
  · (intro wq hSw; (try dsimp only at hSw); (try simp (maxSteps := 2000000) only [zz1, zz2, zz3]); go_simp); try with_reducible rfl
  try simp (maxSteps := 2000000) only [zz1, zz2, zz3, Act.put, zz4, zz5, zz6]
  refine wpAnyH_done (by kernel_rfl) ?_ _
  clear hHeld
  have HB4 := Lib.hid (HB0.out.trans (hb4.mono HB0.out.size))
  go_wp2_with fail
  go_ret
  have h := OwnL.rdT HO4.out
  rw [show 0 + 2 + 8 + n = 10 + n by omega] at h ⊢
  exact ⟨A4, c4, rfl, h.2, h.1.weaken ByR.stable (fun j hj => Nat.le_trans HB0.out.size hj), HB4.out⟩
def u64N (x : Int) : Nat := (x % 18446744073709551616).toNat
theorem u64N_wrap (x : Int) : IntKind.u64.wrap x = (u64N x : Int) := by
  rw [IntKind.wrap_u64]
  unfold u64N
  rw [Int.toNat_of_nonneg (Int.emod_nonneg _ (by omega))]
theorem u64N_lt (x : Int) : u64N x < 18446744073709551616 := by
  unfold u64N
  have := Int.emod_lt_of_pos x (show (0 : Int) < 18446744073709551616 by omega)
  have := Int.emod_nonneg x (show (18446744073709551616 : Int) ≠ 0 by omega)
  omega
/-- A scroll's name as bytes. -/
def nmB (p : Int) (g : Nat) (ct sz : Int) : List Nat := leN 2 (u64N p) ++ leN 8 g ++ leN 2 (u64N ct) ++ leN 4 (u64N sz)
theorem nmB_len (p : Int) (g : Nat) (ct sz : Int) : (nmB p g ct sz).length = 16 := by unfold nmB; simp [leN_len]
def scC (p : Int) (g : Int) (ct sz : Int) : Array Value := #[.int .i64 p, .int .u64 g, .int .i64 ct, .int .i64 sz]
set_option maxRecDepth 100000 in
set_option maxHeartbeats 8000000 in
theorem spb_any {p ct sz : Int} {g : Nat} {n c : Nat} {A : Option Addr} {S : Nat → Prop} {xs : List Nat} (R : RdL ByR 1 S w A n xs) (hn : n ≤ 3900) (hg : Hid (g < 2 ^ 64)) :
    Calls Tryz.prog 48 #[.slice A n c, .agg (scC p (g : Int) ct sz)] w fun e w' => ∃ A' c', e = .returned (.slice A' (n + 16) c') ∧ n + 16 ≤ c' ∧ RdL ByR 1 (fun j => w.heap.size ≤ j) w' A' (n + 16) (xs ++ nmB p g ct sz) ∧ Below w.heap.size w w' := by
  have hb0 : Below w.heap.size w (w.alloc (.cells (scC p (g : Int) ct sz) 24)) := (Below.refl _ _).alloc (Nat.le_refl _) _
  have bB := BoxAt.new w (scC p (g : Int) ct sz) 24
  obtain ⟨w1, hw1⟩ : ∃ w1, w.alloc (.cells (scC p (g : Int) ct sz) 24) = w1 := ⟨_, rfl⟩
  obtain ⟨q, hq⟩ : ∃ q, w.heap.size = q := ⟨_, rfl⟩
  rw [hw1] at hb0 bB
  rw [hq] at bB
  have HB0 := Lib.hid hb0
  have BB := Lib.hid bB
  have HR := Lib.hid (R.below ByR.stable hb0)
  have fp := u64N_wrap p
  have fc := u64N_wrap ct
  have fs := u64N_wrap sz
  have hpl := Lib.hid (u64N_lt p)
  have hcl := Lib.hid (u64N_lt ct)
  have hsl := Lib.hid (u64N_lt sz)
  unfold nmB
  obtain ⟨P, hP⟩ : ∃ P, u64N p = P := ⟨_, rfl⟩
  obtain ⟨C, hC⟩ : ∃ C, u64N ct = C := ⟨_, rfl⟩
  obtain ⟨Z, hZ⟩ : ∃ Z, u64N sz = Z := ⟨_, rfl⟩
  rw [hP] at fp hpl ⊢
  rw [hC] at fc hcl ⊢
  rw [hZ] at fs hsl ⊢
  clear hb0 bB R hP hC hZ
  unfold scC at hw1 ⊢
  go_enter Tryz.func48, Tryz.ntmps48
  go_wp2_with fail
  have hd : Below w1.heap.size w1 w1.drew := (Below.refl _ _).drew
  have HSF : Hid (∀ w', Below w1.heap.size w1 w' → w'.cell? ⟨q, 0, none⟩ = some (.int .i64 p) ∧ w'.cell? ⟨q, 1, none⟩ = some (.int .u64 (g : Int)) ∧ w'.cell? ⟨q, 2, none⟩ = some (.int .i64 ct) ∧ w'.cell? ⟨q, 3, none⟩ = some (.int .i64 sz)) := Lib.hid fun w' hb => ⟨(BB.out.below hb).cell 0, (BB.out.below hb).cell 1, (BB.out.below hb).cell 2, (BB.out.below hb).cell 3⟩
  clear hw1 hq
  refine wp_region_held_drew (S := fun w' => w'.cell? ⟨q, 0, none⟩ = some (.int .i64 p) ∧ w'.cell? ⟨q, 1, none⟩ = some (.int .u64 (g : Int)) ∧ w'.cell? ⟨q, 2, none⟩ = some (.int .i64 ct) ∧ w'.cell? ⟨q, 3, none⟩ = some (.int .i64 sz)) (by kernel_rfl) (by first | exact HSF.out _ hd | exact HSF.out _ hb2 | exact HSF.out _ hb3) (fun hHeld => ?_)
  refine wpAnyH_take (i := 0) (v := ?_) rfl (by kernel_rfl) (by kernel_rfl) (by kernel_rfl) (fun _ _ _ h => h) (Or.inl ⟨by first | kernel_rfl | rfl, ?_⟩) (by assumption) ?_
  rotate_left
  · (intro wq hSw; (try dsimp only at hSw); (try simp (maxSteps := 2000000) only [zz1, zz2, zz3]); go_simp); try with_reducible rfl
  try simp (maxSteps := 2000000) only [zz1, zz2, zz3, Act.put, zz4, zz5, zz6]
  refine wpAnyH_take (i := 1) (v := ?_) rfl (by kernel_rfl) (by kernel_rfl) (by kernel_rfl) (fun _ _ _ h => h) (Or.inl ⟨by first | kernel_rfl | rfl, ?_⟩) (by assumption) ?_
  rotate_left
  · (intro wq hSw; (try dsimp only at hSw); (try simp (maxSteps := 2000000) only [zz1, zz2, zz3]); go_simp); try with_reducible rfl
  try simp (maxSteps := 2000000) only [zz1, zz2, zz3, Act.put, zz4, zz5, zz6]
  refine wpAnyH_take (i := 2) (v := ?_) rfl (by kernel_rfl) (by kernel_rfl) (by kernel_rfl) (fun _ _ _ h => h) (Or.inl ⟨by first | kernel_rfl | rfl, ?_⟩) (by assumption) ?_
  rotate_left
  · (intro wq hSw; (try dsimp only at hSw); (try simp (maxSteps := 2000000) only [zz1, zz2, zz3]); go_simp); try with_reducible rfl
  try simp (maxSteps := 2000000) only [zz1, zz2, zz3, Act.put, zz4, zz5, zz6]
  refine wpAnyH_take (i := 3) (v := ?_) rfl (by kernel_rfl) (by kernel_rfl) (by kernel_rfl) (fun _ _ _ h => h) (Or.inl ⟨by first | kernel_rfl | rfl, ?_⟩) (by assumption) ?_
  rotate_left
  · (intro wq hSw; (try dsimp only at hSw); (try simp (maxSteps := 2000000) only [zz1, zz2, zz3]); go_simp); try with_reducible rfl
  try simp (maxSteps := 2000000) only [zz1, zz2, zz3, Act.put, zz4, zz5, zz6]
  refine wpAnyH_take (i := 5) (v := ?_) rfl (by kernel_rfl) (by kernel_rfl) (by kernel_rfl) (fun _ _ _ h => h) (Or.inl ⟨by first | kernel_rfl | rfl, ?_⟩) (by assumption) ?_
  rotate_left
  · (intro wq hSw; (try dsimp only at hSw); (try simp (maxSteps := 2000000) only [zz1, zz2, zz3]); go_simp); try with_reducible rfl
  try simp (maxSteps := 2000000) only [zz1, zz2, zz3, Act.put, zz4, zz5, zz6]
  refine wpAnyH_take (i := 6) (v := ?_) rfl (by kernel_rfl) (by kernel_rfl) (by kernel_rfl) (fun _ _ _ h => h) (Or.inl ⟨by first | kernel_rfl | rfl, ?_⟩) (by assumption) ?_
  rotate_left
  · (intro wq hSw; (try dsimp only at hSw); (try simp (maxSteps := 2000000) only [zz1, zz2, zz3]); go_simp); try with_reducible rfl
  try simp (maxSteps := 2000000) only [zz1, zz2, zz3, Act.put, zz4, zz5, zz6]
  refine wpAnyH_ready (rs := [4]) (by kernel_rfl) (by simp) ?_
  refine AllReadyH.cons rfl (fun K hK => ?_) AllReadyH.nil
  try simp (maxSteps := 2000000) only [zz1, zz2, zz3]
  go_simp
  go_at_call 121
  have hpu := nput_any (c := c) (k := 2) (v := P) (HR.out.below ByR.stable hd) (by omega) (by omega) (by omega) hpl.out
  refine hpu.mono ?_
  clear hpu
  rintro e w2 ⟨A2, c2, rfl, hr2, hb⟩
  have hb2 : Below w1.heap.size w1 w2 := hd.trans (hb.mono hd.size)
  have HR2 := Lib.hid (OwnL.rdT hr2).1
  clear hb hr2
  try (go_wp2_with fail)
  refine hK.out _ _ (by first | exact HSF.out _ hd | exact HSF.out _ hb2 | exact HSF.out _ hb3) (fun hHeld => ?_)
  clear hK K
  try simp (maxSteps := 2000000) only [zz1, zz2, zz3, Act.put, zz4, zz5, zz6]
  refine wpAnyH_ready (rs := [7]) (by kernel_rfl) (by simp) ?_
  refine AllReadyH.cons rfl (fun K hK => ?_) AllReadyH.nil
  try simp (maxSteps := 2000000) only [zz1, zz2, zz3]
  go_simp
  go_at_call 121
  have hpu := nput_any (c := c2) (k := 8) (v := g) HR2.out (by omega) (by omega) (by omega) (by have := hg.out; omega)
  refine hpu.mono ?_
  clear hpu
  rintro e w3 ⟨A3, c3, rfl, hr3, hb⟩
  have hb3 : Below w1.heap.size w1 w3 := hb2.trans (hb.mono hb2.size)
  have HR3 := Lib.hid (OwnL.rdT hr3).1
  clear hb hr3
  try (go_wp2_with fail)
  refine hK.out _ _ (by first | exact HSF.out _ hd | exact HSF.out _ hb2 | exact HSF.out _ hb3) (fun hHeld => ?_)
  clear hK K
  try simp (maxSteps := 2000000) only [zz1, zz2, zz3, Act.put, zz4, zz5, zz6]
  refine wpAnyH_take (i := 8) (v := ?_) rfl (by kernel_rfl) (by kernel_rfl) (by kernel_rfl) (fun _ _ _ h => h) (Or.inl ⟨by first | kernel_rfl | rfl, ?_⟩) (by assumption) ?_
  rotate_left
  · (intro wq hSw; (try dsimp only at hSw); (try simp (maxSteps := 2000000) only [zz1, zz2, zz3]); go_simp); try with_reducible rfl
  try simp (maxSteps := 2000000) only [zz1, zz2, zz3, Act.put, zz4, zz5, zz6]
  refine wpAnyH_done (by kernel_rfl) ?_ _
  clear hHeld
  have hd3 : Below w1.heap.size w1 w3.drew := hb3.drew
  have HR3d := Lib.hid (HR3.out.below ByR.stable (w' := w3.drew) (Below.refl _ _).drew)
  go_wp2_with fail
  refine wp_region_held_drew (S := fun w' => w'.cell? ⟨q, 0, none⟩ = some (.int .i64 p) ∧ w'.cell? ⟨q, 1, none⟩ = some (.int .u64 (g : Int)) ∧ w'.cell? ⟨q, 2, none⟩ = some (.int .i64 ct) ∧ w'.cell? ⟨q, 3, none⟩ = some (.int .i64 sz)) (by kernel_rfl) (by first | exact HSF.out _ hd3 | exact HSF.out _ hb4 | exact HSF.out _ hb5) (fun hHeld => ?_)
  refine wpAnyH_take (i := 0) (v := ?_) rfl (by kernel_rfl) (by kernel_rfl) (by kernel_rfl) (fun _ _ _ h => h) (Or.inl ⟨by first | kernel_rfl | rfl, ?_⟩) (by assumption) ?_
  rotate_left
  · (intro wq hSw; (try dsimp only at hSw); (try simp (maxSteps := 2000000) only [zz1, zz2, zz3]); go_simp); try with_reducible rfl
  try simp (maxSteps := 2000000) only [zz1, zz2, zz3, Act.put, zz4, zz5, zz6]
  refine wpAnyH_take (i := 1) (v := ?_) rfl (by kernel_rfl) (by kernel_rfl) (by kernel_rfl) (fun _ _ _ h => h) (Or.inl ⟨by first | kernel_rfl | rfl, ?_⟩) (by assumption) ?_
  rotate_left
  · (intro wq hSw; (try dsimp only at hSw); (try simp (maxSteps := 2000000) only [zz1, zz2, zz3]); go_simp); try with_reducible rfl
  try simp (maxSteps := 2000000) only [zz1, zz2, zz3, Act.put, zz4, zz5, zz6]
  refine wpAnyH_take (i := 2) (v := ?_) rfl (by kernel_rfl) (by kernel_rfl) (by kernel_rfl) (fun _ _ _ h => h) (Or.inl ⟨by first | kernel_rfl | rfl, ?_⟩) (by assumption) ?_
  rotate_left
  · (intro wq hSw; (try dsimp only at hSw); (try simp (maxSteps := 2000000) only [zz1, zz2, zz3]); go_simp); try with_reducible rfl
  try simp (maxSteps := 2000000) only [zz1, zz2, zz3, Act.put, zz4, zz5, zz6]
  refine wpAnyH_take (i := 3) (v := ?_) rfl (by kernel_rfl) (by kernel_rfl) (by kernel_rfl) (fun _ _ _ h => h) (Or.inl ⟨by first | kernel_rfl | rfl, ?_⟩) (by assumption) ?_
  rotate_left
  · (intro wq hSw; (try dsimp only at hSw); (try simp (maxSteps := 2000000) only [zz1, zz2, zz3]); go_simp); try with_reducible rfl
  try simp (maxSteps := 2000000) only [zz1, zz2, zz3, Act.put, zz4, zz5, zz6]
  refine wpAnyH_take (i := 5) (v := ?_) rfl (by kernel_rfl) (by kernel_rfl) (by kernel_rfl) (fun _ _ _ h => h) (Or.inl ⟨by first | kernel_rfl | rfl, ?_⟩) (by assumption) ?_
  rotate_left
  · (intro wq hSw; (try dsimp only at hSw); (try simp (maxSteps := 2000000) only [zz1, zz2, zz3]); go_simp); try with_reducible rfl
  try simp (maxSteps := 2000000) only [zz1, zz2, zz3, Act.put, zz4, zz5, zz6]
  refine wpAnyH_take (i := 6) (v := ?_) rfl (by kernel_rfl) (by kernel_rfl) (by kernel_rfl) (fun _ _ _ h => h) (Or.inl ⟨by first | kernel_rfl | rfl, ?_⟩) (by assumption) ?_
  rotate_left
  · (intro wq hSw; (try dsimp only at hSw); (try simp (maxSteps := 2000000) only [zz1, zz2, zz3]); go_simp); try with_reducible rfl
  try simp (maxSteps := 2000000) only [zz1, zz2, zz3, Act.put, zz4, zz5, zz6]
  refine wpAnyH_take (i := 7) (v := ?_) rfl (by kernel_rfl) (by kernel_rfl) (by kernel_rfl) (fun _ _ _ h => h) (Or.inl ⟨by first | kernel_rfl | rfl, ?_⟩) (by assumption) ?_
  rotate_left
  · (intro wq hSw; (try dsimp only at hSw); (try simp (maxSteps := 2000000) only [zz1, zz2, zz3]); go_simp); try with_reducible rfl
  try simp (maxSteps := 2000000) only [zz1, zz2, zz3, Act.put, zz4, zz5, zz6]
  refine wpAnyH_ready (rs := [4]) (by kernel_rfl) (by simp) ?_
  refine AllReadyH.cons rfl (fun K hK => ?_) AllReadyH.nil
  try simp (maxSteps := 2000000) only [zz1, zz2, zz3]
  go_simp
  go_at_call 121
  have hpu := nput_any (c := c3) (k := 2) (v := C) HR3d.out (by omega) (by omega) (by omega) hcl.out
  refine hpu.mono ?_
  clear hpu
  rintro e w4 ⟨A4, c4, rfl, hr4, hb⟩
  have hb4 : Below w1.heap.size w1 w4 := hd3.trans (hb.mono hd3.size)
  have HR4 := Lib.hid (OwnL.rdT hr4).1
  clear hb hr4
  try (go_wp2_with fail)
  refine hK.out _ _ (by first | exact HSF.out _ hd3 | exact HSF.out _ hb4 | exact HSF.out _ hb5) (fun hHeld => ?_)
  clear hK K
  try simp (maxSteps := 2000000) only [zz1, zz2, zz3, Act.put, zz4, zz5, zz6]
  refine wpAnyH_ready (rs := [8]) (by kernel_rfl) (by simp) ?_
  refine AllReadyH.cons rfl (fun K hK => ?_) AllReadyH.nil
  try simp (maxSteps := 2000000) only [zz1, zz2, zz3]
  go_simp
  go_at_call 121
  have hpu := nput_any (c := c4) (k := 4) (v := Z) HR4.out (by omega) (by omega) (by omega) hsl.out
  refine hpu.mono ?_
  clear hpu
  rintro e w5 ⟨A5, c5, rfl, hr5, hb⟩
  have hb5 : Below w1.heap.size w1 w5 := hb4.trans (hb.mono hb4.size)
  have HS5 := Lib.hid hb4.size
  have HR5 := Lib.hid (OwnL.rdT hr5)
  clear hb hr5
  try (go_wp2_with fail)
  refine hK.out _ _ (by first | exact HSF.out _ hd3 | exact HSF.out _ hb4 | exact HSF.out _ hb5) (fun hHeld => ?_)
  clear hK K
  try simp (maxSteps := 2000000) only [zz1, zz2, zz3, Act.put, zz4, zz5, zz6]
  refine wpAnyH_take (i := 9) (v := ?_) rfl (by kernel_rfl) (by kernel_rfl) (by kernel_rfl) (fun _ _ _ h => h) (Or.inl ⟨by first | kernel_rfl | rfl, ?_⟩) (by assumption) ?_
  rotate_left
  · (intro wq hSw; (try dsimp only at hSw); (try simp (maxSteps := 2000000) only [zz1, zz2, zz3]); go_simp); try with_reducible rfl
  try simp (maxSteps := 2000000) only [zz1, zz2, zz3, Act.put, zz4, zz5, zz6]
  refine wpAnyH_done (by kernel_rfl) ?_ _
  clear hHeld
  have HB5 := Lib.hid (HB0.out.trans (hb5.mono HB0.out.size))
  go_wp2_with fail
  go_ret
  have h := HR5.out
  rw [show n + 2 + 8 + 2 + 4 = n + 16 by omega, show xs ++ leN 2 P ++ leN 8 g ++ leN 2 C ++ leN 4 Z = xs ++ (leN 2 P ++ leN 8 g ++ leN 2 C ++ leN 4 Z) by simp only [List.append_assoc]] at h
  rw [show n + 2 + 8 + 2 + 4 = n + 16 by omega]
  exact ⟨A5, c5, rfl, h.2, h.1.weaken ByR.stable (fun j hj => Nat.le_trans (Nat.le_trans HB0.out.size HS5.out) hj), HB5.out⟩
end
end Go.Proofs.YtcliejdiaohamaaGreat

set_option linter.unusedSimpArgs false
set_option linter.unusedVariables false
namespace Go.Proofs.YtcliejdiaohamaaGreat
open Go.RowKit Go.Cib
attribute [local go_sem] cell_set Later.cell Later.frozen Grw.cell Grw.frozen
def RefR (_ : Nat → Prop) (_ : World) (cs : List Value) (x : Int × Int) : Prop := cs = [.int .u8 3, .int .i64 x.1, .int .u64 x.2]
theorem RefR.stable : Stable RefR := fun _ _ _ _ _ _ h _ => h
theorem RefR.one : ∀ S w cs x, RefR S w cs x → ∀ u ∈ cs, u.oneCell' = true := by
  rintro S w cs x rfl u hu
  simp only [List.mem_cons, List.not_mem_nil, or_false] at hu
  rcases hu with rfl | rfl | rfl <;> rfl
end Go.Proofs.YtcliejdiaohamaaGreat

set_option linter.unusedSimpArgs false
set_option linter.unusedVariables false
namespace Go.Proofs.YtcliejdiaohamaaGreat
open Go.RowKit Go.Cib
attribute [local go_sem] cell_set Later.cell Later.frozen Grw.cell Grw.frozen
def RfR (_ : Nat → Prop) (_ : World) (cs : List Value) (x : Nat × Nat × Nat) : Prop := cs = [.int .u8 (x.1 : Int), .int .i64 (x.2.1 : Int), .int .u64 (x.2.2 : Int)]
theorem RfR.stable : Stable RfR := fun _ _ _ _ _ _ h _ => h
structure RfRow (w : World) (g : Nat) (L : List (Nat × Nat × Nat)) : Prop where
  ex : ∃ cur, BoxAt w g cur ∧ ∀ j x, L[j]? = some x → cur[j * 3]? = some (.int .u8 (x.1 : Int)) ∧ cur[j * 3 + 1]? = some (.int .i64 (x.2.1 : Int)) ∧ cur[j * 3 + 2]? = some (.int .u64 (x.2.2 : Int))
section
variable {w w' : World} {g : Nat} {L : List (Nat × Nat × Nat)}
theorem RfRow.below (h : RfRow w g L) (hb : Below w.heap.size w w') : RfRow w' g L := by
  obtain ⟨cur, h1, h2⟩ := h.ex
  exact ⟨cur, h1.below hb, h2⟩
theorem RfRow.lt (h : RfRow w g L) : g < w.heap.size := by
  obtain ⟨cur, h1, h2⟩ := h.ex
  exact h1.lt
theorem RfRow.cells (h : RfRow w g L) {j : Nat} {x : Nat × Nat × Nat} (hx : L[j]? = some x) : w.cell? ⟨g, j * 3, none⟩ = some (.int .u8 (x.1 : Int)) ∧ w.cell? ⟨g, j * 3 + 1, none⟩ = some (.int .i64 (x.2.1 : Int)) ∧ w.cell? ⟨g, j * 3 + 2, none⟩ = some (.int .u64 (x.2.2 : Int)) := by
  obtain ⟨cur, h1, h2⟩ := h.ex
  obtain ⟨a, b, c⟩ := h2 j x hx
  exact ⟨(h1.cell _).trans a, (h1.cell _).trans b, (h1.cell _).trans c⟩
theorem RfRow.frozen (h : RfRow w g L) (o : Nat) : w.frozen? ⟨g, o, none⟩ = false := by
  obtain ⟨cur, h1, h2⟩ := h.ex
  exact h1.frozen o
theorem RfRow.set (h : RfRow w g L) {i : Nat} (hi : i < L.length) (a b c : Nat) : RfRow (((w.setCell ⟨g, i * 3, none⟩ (.int .u8 (a : Int))).setCell ⟨g, i * 3 + 1, none⟩ (.int .i64 (b : Int))).setCell ⟨g, i * 3 + 2, none⟩ (.int .u64 (c : Int))) g (L.set i (a, b, c)) := by
  obtain ⟨cur, h1, h2⟩ := h.ex
  refine ⟨_, ((h1.set (i * 3) _).set (i * 3 + 1) _).set (i * 3 + 2) _, fun j x hx => ?_⟩
  have hy : L[i]? = some L[i] := List.getElem?_eq_getElem hi
  obtain ⟨s0, s1, s2⟩ := h2 i _ hy
  have l2 : i * 3 + 2 < cur.size := (Array.getElem?_eq_some_iff.1 s2).1
  rw [List.getElem?_set] at hx
  by_cases e : i = j
  · subst e
    rw [if_pos rfl, if_pos hi] at hx
    obtain rfl := Option.some.inj hx
    refine ⟨?_, ?_, ?_⟩
    · rw [Array.getElem?_setIfInBounds, if_neg (by omega), Array.getElem?_setIfInBounds, if_neg (by omega), Array.getElem?_setIfInBounds, if_pos rfl, if_pos (by omega)]
    · rw [Array.getElem?_setIfInBounds, if_neg (by omega), Array.getElem?_setIfInBounds, if_pos rfl, if_pos (by rw [Array.size_setIfInBounds]; omega)]
    · rw [Array.getElem?_setIfInBounds, if_pos rfl, if_pos (by rw [Array.size_setIfInBounds, Array.size_setIfInBounds]; omega)]
  · rw [if_neg e] at hx
    obtain ⟨t0, t1, t2⟩ := h2 j x hx
    refine ⟨?_, ?_, ?_⟩
    · rw [Array.getElem?_setIfInBounds, if_neg (by omega), Array.getElem?_setIfInBounds, if_neg (by omega), Array.getElem?_setIfInBounds, if_neg (by omega)]; exact t0
    · rw [Array.getElem?_setIfInBounds, if_neg (by omega), Array.getElem?_setIfInBounds, if_neg (by omega), Array.getElem?_setIfInBounds, if_neg (by omega)]; exact t1
    · rw [Array.getElem?_setIfInBounds, if_neg (by omega), Array.getElem?_setIfInBounds, if_neg (by omega), Array.getElem?_setIfInBounds, if_neg (by omega)]; exact t2
theorem RfRow.rd (h : RfRow w g L) {S : Nat → Prop} (hS : S g) : RdL RfR 3 S w (some ⟨g, 0, none⟩) L.length L := ⟨rfl, fun _ => ⟨g, 0, rfl, hS, h.lt, fun i x hx => by
  obtain ⟨c0, c1, c2⟩ := h.cells hx
  refine ⟨[.int .u8 (x.1 : Int), .int .i64 (x.2.1 : Int), .int .u64 (x.2.2 : Int)], rfl, rfl, fun j v hj => ?_⟩
  rw [Nat.zero_add]
  match j, hj with
  | 0, hj => simp at hj; subst hj; exact c0
  | 1, hj => simp at hj; subst hj; exact c1
  | 2, hj => simp at hj; subst hj; exact c2
  | j + 3, hj => simp at hj⟩⟩
theorem refInfo : (Tryz.prog.info? 41).map (fun i => (i.zero, i.size, i.bytes)) = some (some (.agg #[.int .u8 0, .int .i64 0, .int .u64 0]), 3, 24) := by kernel_rfl
theorem makeRefs (k : Nat) (hk : k ≤ 100000) (w : World) : (Instr.makeSlice 66 (.int .i64 (k : Int)) (.int .i64 (k : Int))).run Tryz.prog w = .ok (.slice (some ⟨w.heap.size, 0, none⟩) k k) (w.alloc (.cells (madeCells #[.int .u8 0, .int .i64 0, .int .u64 0] (k * 3)) 41)) := by
  obtain ⟨i, hi, hz, hs, hb⟩ := info_parts refInfo
  have h := run_make (P := Tryz.prog) w 66 41 i (.agg #[.int .u8 0, .int .i64 0, .int .u64 0]) (by kernel_rfl) hi hz .i64 .i64 k k (by omega) (by omega) (by rw [hb]; omega) (by omega)
  simp only [Int.toNat_natCast, hs] at h
  exact h
theorem madeRefs_at {k j : Nat} (hj : j < k) : (madeCells #[.int .u8 0, .int .i64 0, .int .u64 0] (k * 3))[j * 3]? = some (.int .u8 0) ∧ (madeCells #[.int .u8 0, .int .i64 0, .int .u64 0] (k * 3))[j * 3 + 1]? = some (.int .i64 0) ∧ (madeCells #[.int .u8 0, .int .i64 0, .int .u64 0] (k * 3))[j * 3 + 2]? = some (.int .u64 0) := by
  have h0 : j * 3 % 3 = 0 := by omega
  have h1 : (j * 3 + 1) % 3 = 1 := by omega
  have h2 : (j * 3 + 2) % 3 = 2 := by omega
  unfold madeCells
  refine ⟨?_, ?_, ?_⟩
  · rw [Array.getElem?_map, Array.getElem?_range, if_pos (by omega)]
    simp [h0]
  · rw [Array.getElem?_map, Array.getElem?_range, if_pos (by omega)]
    simp [h1]
  · rw [Array.getElem?_map, Array.getElem?_range, if_pos (by omega)]
    simp [h2]
theorem RfRow.made (w : World) (k : Nat) (t : TypeId) : RfRow (w.alloc (.cells (madeCells #[.int .u8 0, .int .i64 0, .int .u64 0] (k * 3)) t)) w.heap.size (List.replicate k (0, 0, 0)) :=
  ⟨_, BoxAt.new w _ t, fun j x hx => by
    rw [List.getElem?_replicate] at hx
    split at hx
    · rename_i hj
      obtain rfl := Option.some.inj hx
      exact madeRefs_at hj
    · cases hx⟩
end
/-- The names of the first i of n stripes. -/
def rfK (a n G i : Nat) : List (Nat × Nat × Nat) := (List.range (n + 1)).map fun j => if j < i then (4, a + j, G + j) else (0, 0, 0)
theorem rfK_len (a n G i : Nat) : (rfK a n G i).length = n + 1 := by unfold rfK; simp
theorem rfK_zero (a n G : Nat) : rfK a n G 0 = List.replicate (n + 1) (0, 0, 0) := by
  unfold rfK
  apply List.ext_getElem?
  intro j
  rw [List.getElem?_map, List.getElem?_replicate]
  by_cases hj : j < n + 1
  · rw [List.getElem?_range hj, if_pos hj]; simp
  · rw [List.getElem?_eq_none (by simp; omega), if_neg hj]; rfl
theorem rfK_set {a n G i : Nat} (hi : i < n) : (rfK a n G i).set i (4, a + i, G + i) = rfK a n G (i + 1) := by
  unfold rfK
  apply List.ext_getElem?
  intro j
  rw [List.getElem?_set, List.getElem?_map, List.getElem?_map]
  by_cases hj : j < n + 1
  · rw [List.getElem?_range hj]
    simp only [Option.map_some, List.length_map, List.length_range]
    by_cases e : i = j
    · subst e
      rw [if_pos rfl, if_pos (by omega), if_pos (by omega)]
    · rw [if_neg e]
      congr 1
      by_cases h : j < i
      · rw [if_pos h, if_pos (by omega)]
      · rw [if_neg h, if_neg (by omega)]
  · rw [List.getElem?_eq_none (by simp; omega)]
    rw [if_neg (by omega)]; rfl
theorem rfK_at {a n G i j : Nat} (hj : j < n + 1) : (rfK a n G i)[j]? = some (if j < i then (4, a + j, G + j) else (0, 0, 0)) := by
  unfold rfK
  rw [List.getElem?_map, List.getElem?_range hj]; rfl
set_option maxRecDepth 100000 in
set_option maxHeartbeats 8000000 in
theorem srefs_any {w : World} {a n c G : Nat} {A : Option Addr} {S : Nat → Prop} (R : RdL IntR 1 S w A n (plL a n)) (hn : n ≤ 10000) (hG : Hid (G + n < 2 ^ 64)) :
    Calls Tryz.prog 180 #[.slice A n c, .int .u64 (G : Int)] w fun e w' => ∃ g, e = .returned (.slice (some ⟨g, 0, none⟩) (n + 1) (n + 1)) ∧ w.heap.size ≤ g ∧ RfRow w' g (rfK a n G n) ∧ Below w.heap.size w w' := by
  have HR := Lib.hid R
  clear R
  have p0 : (0 : Int) ≤ (n : Int) := Int.natCast_nonneg _
  have hw : IntKind.i64.wrap ((n : Int) + 1) = (n : Int) + 1 := by rw [IntKind.wrap_i64]; omega
  have hmk := makeRefs (n + 1) (by omega) w
  rw [show ((n + 1 : Nat) : Int) = (n : Int) + 1 by push_cast; rfl] at hmk
  have hrow := RfRow.made w (n + 1) 41
  have hb0 : Below w.heap.size w (w.alloc (.cells (madeCells #[.int .u8 0, .int .i64 0, .int .u64 0] ((n + 1) * 3)) 41)) := (Below.refl _ _).alloc (Nat.le_refl _) _
  rw [← rfK_zero a n G] at hrow
  obtain ⟨w1, hw1⟩ : ∃ w1, w.alloc (.cells (madeCells #[.int .u8 0, .int .i64 0, .int .u64 0] ((n + 1) * 3)) 41) = w1 := ⟨_, rfl⟩
  obtain ⟨g, hg⟩ : ∃ g, w.heap.size = g := ⟨_, rfl⟩
  have hgw : w.heap.size ≤ g := by omega
  rw [hw1] at hmk hrow hb0
  rw [hg] at hmk hrow
  have HB0 := Lib.hid hb0
  have HGW := Lib.hid hgw
  have HROW := Lib.hid hrow
  clear hw1 hg hb0 hgw hrow
  go_enter Tryz.func180, Tryz.ntmps180
  go_wp2_with fail
  clear hmk hw
  go_loopw [14] (fun vi wr => ∃ i : Nat, i ≤ n ∧ vi = .int .i64 (i : Int) ∧ Hid (RfRow wr g (rfK a n G i)) ∧ Hid (Keep (fun j => j = g) w1 wr)) (fun vi _ => n - (intOf vi).toNat)
  case atStart => exact ⟨0, Nat.zero_le _, rfl, HROW, Lib.hid (Keep.refl _ _)⟩
  case round =>
    clear HROW
    obtain ⟨i, hi, rfl, HROW, HK⟩ := hrel
    have p1 : (0 : Int) ≤ (i : Int) := Int.natCast_nonneg _
    by_cases hlt : i < n
    · have p2 : (i : Int) < (n : Int) := by omega
      have hkw : Below w.heap.size w wr := HB0.out.trans (HK.out.below HB0.out.size fun j hj => by rw [hj]; exact HGW.out)
      obtain ⟨ba, oa, rfl, _, hba⟩ := HR.out.addr hlt
      obtain ⟨x, hx, v1⟩ := int_at1 (HR.out.below IntR.stable hkw) hlt
      obtain rfl : x = ((a + i : Nat) : Int) := by
        have h : (plL a n)[i]? = some ((a + i : Nat) : Int) := by unfold plL; rw [List.getElem?_map, List.getElem?_range hlt]; rfl
        rw [h] at hx; exact (Option.some.inj hx).symm
      obtain ⟨y, hy⟩ : ∃ y, a + i = y := ⟨_, rfl⟩
      obtain ⟨z, hz⟩ : ∃ z, G + i = z := ⟨_, rfl⟩
      rw [hy] at v1
      have hGz : IntKind.u64.wrap ((G : Int) + (i : Int)) = (z : Int) := by rw [IntKind.wrap_u64]; have := hG.out; omega
      have hiw : IntKind.u64.wrap (i : Int) = (i : Int) := by rw [IntKind.wrap_u64]; omega
      obtain ⟨c0, c1, c2⟩ := HROW.out.cells (rfK_at (a := a) (n := n) (G := G) (i := i) (j := i) (by omega))
      rw [if_neg (Nat.lt_irrefl _)] at c0 c1 c2
      have z0 := HROW.out.frozen (i * 3)
      have z1 := HROW.out.frozen (i * 3 + 1)
      have z2 := HROW.out.frozen (i * 3 + 2)
      have hset := HROW.out.set (i := i) (by rw [rfK_len]; omega) 4 y z
      rw [← hy, ← hz, rfK_set hlt, hy, hz] at hset
      have hkp : Keep (fun j => j = g) w1 (((wr.setCell ⟨g, i * 3, none⟩ (.int .u8 (4 : Nat))).setCell ⟨g, i * 3 + 1, none⟩ (.int .i64 (y : Int))).setCell ⟨g, i * 3 + 2, none⟩ (.int .u64 (z : Int))) := ((HK.out.setCell (p := ⟨g, i * 3, none⟩) (fun _ => rfl) _).setCell (p := ⟨g, i * 3 + 1, none⟩) (fun _ => rfl) _).setCell (p := ⟨g, i * 3 + 2, none⟩) (fun _ => rfl) _
      have HSET := Lib.hid hset
      have HKP := Lib.hid hkp
      dsimp only at c0 c1 c2
      clear hset hkp hx hy hz hkw
      go_wp2_with fail
      exact ⟨⟨i + 1, by omega, by go_num, HSET, HKP⟩, by simp [intOf]; omega⟩
    · have p2 : ¬ (i : Int) < (n : Int) := by omega
      obtain rfl : i = n := by omega
      go_wp2_with fail
      go_ret
      exact ⟨g, rfl, HGW.out, HROW.out, HB0.out.trans (HK.out.below HB0.out.size fun j hj => by rw [hj]; exact HGW.out)⟩
end Go.Proofs.YtcliejdiaohamaaGreat

set_option linter.unusedSimpArgs false
set_option linter.unusedVariables false
namespace Go.Proofs.YtcliejdiaohamaaGreat
open Go.RowKit Go.Cib
attribute [local go_sem] cell_set Later.cell Later.frozen Grw.cell Grw.frozen
section
variable {P X S : Nat → Prop} {w0 w w' : World} {a p o l go gl ep ct fs np n cb bf k m t : Nat} {wo wl : List Nat} {sts : List DSt}
/-- The pool, of which the first t places are taken. -/
def PoolT (w : World) (p o l go gl ct fs np t : Nat) : Prop := ∃ wo wl, PoolAt w p o l go gl 0 ct fs np wo wl ∧ freeL wo np = (List.range np).drop t
theorem PoolT.below (h : PoolT w p o l go gl ct fs np t) (hb : Below w.heap.size w w') : PoolT w' p o l go gl ct fs np t := by
  obtain ⟨wo, wl, h1, h2⟩ := h
  exact ⟨wo, wl, h1.below hb, h2⟩
theorem PoolT.keep {F : Nat → Prop} (h : PoolT w p o l go gl ct fs np t) (hK : Keep F w w') (hF : ∀ j, PoolB p o l go gl j → ¬ F j) : PoolT w' p o l go gl ct fs np t := by
  obtain ⟨wo, wl, h1, h2⟩ := h
  exact ⟨wo, wl, h1.keep hK hF, h2⟩
theorem PoolT.kp {X : Nat → Prop} (h : PoolT w p o l go gl ct fs np t) (hK : KpX X w w') (hX : ∀ j, PoolB p o l go gl j → X j) : PoolT w' p o l go gl ct fs np t := by
  obtain ⟨wo, wl, h1, h2⟩ := h
  exact ⟨wo, wl, h1.kp hK.1 hX, h2⟩
theorem PoolT.free (h : PoolT w p o l go gl ct fs np t) : Calls Tryz.prog 42 #[.pointer (some ⟨p, 0, none⟩)] w fun e w' => e = .returned (.int .i64 (np - t : Nat)) ∧ Below w.heap.size w w' := by
  obtain ⟨wo, wl, h1, h2⟩ := h
  have h3 := pfree_any h1
  rw [(free_cnt h2).1] at h3
  exact h3
theorem PoolT.new {w : World} {p o l go gl f c M : Nat} (h : PoolAt w p o l go gl 0 0 f c (List.replicate M 0) (List.replicate M 0)) : PoolT w p o l go gl 0 f c 0 := ⟨_, _, h, free_new M c⟩
end
end Go.Proofs.YtcliejdiaohamaaGreat

set_option linter.unusedSimpArgs false
set_option linter.unusedVariables false
namespace Go.Proofs.YtcliejdiaohamaaGreat
open Go.RowKit Go.Cib
attribute [local go_sem] cell_set Later.cell Later.frozen Grw.cell Grw.frozen
section
variable {w w' : World} {p o l go gl ct fs np t : Nat}
theorem ptake_at (h : PoolT w p o l go gl ct fs np t) {M : Nat} (ht : t + M ≤ np) : Calls Tryz.prog 173 #[.pointer (some ⟨p, 0, none⟩), .int .i64 (M : Int)] w fun e w' =>
    ∃ A c, e = .returned (.tuple #[.slice A M c, .int .i64 0]) ∧ M ≤ c ∧ RdL IntR 1 (fun j => w.heap.size ≤ j) w' A M (plL (fs + t) M) ∧ PoolT w' p o l go gl ct fs np (t + M) ∧ Keep (fun j => j = go) w w' := by
  obtain ⟨wo, wl, h1, h2⟩ := h
  refine (ptake_any h1 (m := M) (by rw [(free_cnt h2).2]; omega)).mono ?_
  rintro e w' ⟨A, c, rfl, hc, hr, hP, hK⟩
  rw [pl_of h2 ht] at hr
  exact ⟨A, c, rfl, hc, hr, ⟨_, _, hP, free_next h1.out.ok h2⟩, hK⟩
theorem gens_at (h : PoolT w p o l go gl ct fs np t) {M : Nat} (hm : ct + M ≤ 1048576) : Calls Tryz.prog 174 #[.pointer (some ⟨p, 0, none⟩), .int .i64 (M : Int)] w fun e w' => e = .returned (.tuple #[.int .u64 (ct : Int), .int .i64 0]) ∧ PoolT w' p o l go gl (ct + M) fs np t ∧ Keep (fun j => j = p) w w' := by
  obtain ⟨wo, wl, h1, h2⟩ := h
  refine (gens_any h1 (m := M) (by omega) hm).mono ?_
  rintro e w' ⟨he, hP, hK⟩
  rw [Nat.zero_mul, Nat.zero_add] at he
  exact ⟨he, ⟨_, _, hP, h2⟩, hK⟩
end
/-- The drives behind the first i stripes of some. -/
def putC (n k N : Nat) (rf : Nat → Ref) (tx : Nat → List Nat) (sts : List DSt) : Nat → List DSt
  | 0 => sts
  | i + 1 => (putC n k N rf tx sts i).mapIdx (putQ n k N (rf i) (tx i))
theorem putC_cache {n k N : Nat} {rf : Nat → Ref} {tx : Nat → List Nat} {sts : List DSt} {c : Nat} (h : ∀ st ∈ sts, st.cache.length < c) : ∀ i, ∀ st ∈ putC n k N rf tx sts i, st.cache.length < c + i
  | 0, st, hst => h st hst
  | i + 1, st, hst => by
    rw [putC] at hst
    obtain ⟨d, hd⟩ := List.getElem?_of_mem hst
    obtain ⟨s1, h1, rfl⟩ := mapIdx_at hd
    have h2 := putC_cache h i s1 (List.mem_of_getElem? h1)
    have h3 := putQ_cache (n := n) (k := k) (N := N) (d := d) (r := rf i) (xs := tx i) (st := s1)
    omega
section
variable {g : Nat → Bool} {n k N M : Nat} {rf : Nat → Ref} {tx : Nat → List Nat} {sts : List DSt}
theorem putC_alv (h : Alv n sts) (hr : ∀ i, i < M → (rf i).ok n) (hx : ∀ i, Byt (tx i)) : ∀ i, i ≤ M → Alv n (putC n k N rf tx sts i)
  | 0, _ => h
  | i + 1, hi => (putC_alv h hr hx i (by omega)).put (hr i (by omega)) (hx i)
theorem putC_new (h : Alv n sts) (hr : ∀ i, i < M → (rf i).ok n) (hx : ∀ i, Byt (tx i)) (hd : ∀ i j, i < j → j < M → (rf j).place ≠ (rf i).place) : ∀ i, i ≤ M → ∀ t, t < i → Hds (fun _ => true) k N (rf t) (tx t) (putC n k N rf tx sts i)
  | 0, _, t, ht => absurd ht (by omega)
  | i + 1, hi, t, ht => by
    have hA := putC_alv (k := k) (N := N) h hr hx i (by omega)
    rw [putC]
    by_cases e : t = i
    · subst e
      refine (Hds.new (n := n) (hr t (by omega)) (hx t) (fun st hst hd => by rw [(hA st hst).1] at hd; cases hd)).congr fun d hd => ?_
      rw [List.length_mapIdx] at hd
      rw [hA.live hd]; rfl
    · exact (putC_new h hr hx hd i (by omega) t (by omega)).put (n := n) (hr i (by omega)) (hx i) (hd t i (by omega) (by omega))
end
/-! ### A long text's stripes -/
def scRf (a G i : Nat) : Ref := ⟨4, a + i, G + i⟩
def scPc (k : Nat) (xs : List Nat) (i : Nat) : List Nat := (xs.drop (i * (k * 44 - 10))).take (k * 44 - 10)
def scTx (k a G M : Nat) (xs : List Nat) (i : Nat) : List Nat := lnk (if i + 1 < M then a + (i + 1) else 0) (if i + 1 < M then G + (i + 1) else 0) (scPc k xs i)
theorem scPc_len (k : Nat) (xs : List Nat) (i : Nat) : (scPc k xs i).length = min (k * 44 - 10) (xs.length - i * (k * 44 - 10)) := by
  unfold scPc
  rw [List.length_take, List.length_drop]
theorem scTx_len {k : Nat} (hk : 1 ≤ k) (a G M : Nat) (xs : List Nat) (i : Nat) : (scTx k a G M xs i).length ≤ k * 44 := by
  unfold scTx
  rw [lnk_len, scPc_len]
  omega
theorem scTx_byt {k a G M : Nat} {xs : List Nat} (h : Byt xs) (i : Nat) : Byt (scTx k a G M xs i) := lnk_byt fun x hx => h x (List.mem_of_mem_drop (List.mem_of_mem_take hx))
theorem scRf_ok {a G i n : Nat} (h : a + i < n) : (scRf a G i).ok n := ⟨(by decide : 1 ≤ 4), (by decide : 4 ≤ 4), h⟩
end Go.Proofs.YtcliejdiaohamaaGreat

set_option linter.unusedSimpArgs false
set_option linter.unusedVariables false
namespace Go.Proofs.YtcliejdiaohamaaGreat
open Go.RowKit Go.Cib
attribute [local go_sem] cell_set Later.cell Later.frozen Grw.cell Grw.frozen
/-- An exit that is no panic. -/
def NoP (Q : Exit → Act → World → Prop) : Exit → Act → World → Prop
  | .panic _, _, _ => False
  | e, a, w => Q e a w
theorem NoP.le {Q : Exit → Act → World → Prop} : ∀ e a w, NoP Q e a w → Q e a w
  | .panic _, _, _, h => h.elim
  | .normal, _, _, h => h
  | .ret, _, _, h => h
  | .outgrown, _, _, h => h
  | .exit _, _, _, h => h
  | .goto _, _, _, h => h
theorem NoP.normal {Q : Exit → Act → World → Prop} {a : Act} {w : World} (h : Q .normal a w) : NoP Q .normal a w := h
set_option maxRecDepth 100000 in
set_option maxHeartbeats 1600000 in
/-- What is done last, where nothing went wrong: nothing. -/
theorem scw1_ok {w : World} {q10 q6 q12 q8 q9 : Nat} (u : FrameMode) (h : w.cell? ⟨q10, 0, none⟩ = some (.int .i64 0)) :
    CallsD Tryz.prog 179 #[.pointer (some ⟨q10, 0, none⟩), .pointer (some ⟨q6, 0, none⟩), .pointer (some ⟨q12, 0, none⟩), .pointer (some ⟨q8, 0, none⟩), .pointer (some ⟨q9, 0, none⟩)] u w fun e u' w' => u' = u ∧ (e = .returned (.tuple #[]) ∧ w' = w) := by
  go_enter_d Tryz.func179, Tryz.ntmps179
  go_wp2
  go_end0
  exact ⟨rfl, rfl⟩
section
variable {P X S : Nat → Prop} {w0 w w' : World} {a p o l go gl ct fs np n cb bf k m t : Nat} {sts : List DSt}
def SWrE (P X : Nat → Prop) (w0 w : World) (a cb bf k m n p o l go gl ct fs np t M : Nat) (xs : List Nat) (sts : List DSt) (A : Option Addr) (c : Nat) (w' : World) : Prop :=
  M ≤ c ∧ ∃ S', RdL IntR 1 S' w' A M (plL (fs + t) M) ∧ (∀ j, S' j → w.heap.size ≤ j ∧ j < w'.heap.size) ∧
    PoolT w' p o l go gl (ct + M) fs np (t + M) ∧ MidP P (fun j => X j ∨ S' j) w0 w' a cb bf k m n (putC n k (k + m) (scRf (fs + t) ct) (scTx k (fs + t) ct M xs) sts M) ∧ KpX X w w'
def ScwP (P X : Nat → Prop) (w0 w : World) (a cb bf k m n p o l go gl ct fs np t M : Nat) (xs : List Nat) (sts : List DSt) (e : Ending) (w' : World) : Prop :=
  ∃ A' c', e = .returned (.tuple #[.slice A' M c', .int .u64 (ct : Int), .int .i64 0]) ∧ SWrE P X w0 w a cb bf k m n p o l go gl ct fs np t M xs sts A' c' w'
set_option maxRecDepth 100000 in
set_option maxHeartbeats 32000000 in
theorem scw_any (h : MidP P X w0 w a cb bf k m n sts) (hP : PoolT w p o l go gl ct fs np t) (hPB : ∀ j, PoolB p o l go gl j → P j) {A : Option Addr} {size cx : Nat} {xs : List Nat} (R : RdL ByR 1 S w A size xs) (hSX : ∀ j, S j → X j) (hcx : size ≤ cx) (hs : size ≤ 2000) (hct : ct + scN k size ≤ 1048576) (ht : t + scN k size ≤ np) (hnp : fs + np ≤ n) (hcl : ∀ st ∈ sts, st.cache.length < 800000) :
    Calls Tryz.prog 116 #[.pointer (some ⟨a, 0, none⟩), .pointer (some ⟨cb, 0, none⟩), .pointer (some ⟨p, 0, none⟩), .slice A size cx] w fun e w' => ScwP P X w0 w a cb bf k m n p o l go gl ct fs np t (scN k size) xs sts e w' := by
  have hpos := h.pos
  have hmf : ∀ (fn : Fn) (first cap : Array Value) (w : World), (Instr.makeFunc fn first cap).run Tryz.prog w = .ok (.func fn first cap) w := fun _ _ _ _ => rfl
  obtain ⟨q, hq⟩ : ∃ q, w.heap.size = q := ⟨_, rfl⟩
  obtain ⟨q8, hq8⟩ : ∃ q8, q + 1 = q8 := ⟨_, rfl⟩
  obtain ⟨q9, hq9⟩ : ∃ q9, q8 + 1 = q9 := ⟨_, rfl⟩
  obtain ⟨q10, hq10⟩ : ∃ q10, q9 + 1 = q10 := ⟨_, rfl⟩
  have b6 := (((BoxAt.new w #[.pointer (some ⟨p, 0, none⟩)] 73).alloc (.cells #[.slice none 0 0] 46)).alloc (.cells #[.int .u64 0] 22)).alloc (.cells #[.int .i64 0] 33)
  have b8 := ((BoxAt.new (w.alloc (.cells #[.pointer (some ⟨p, 0, none⟩)] 73)) #[.slice none 0 0] 46).alloc (.cells #[.int .u64 0] 22)).alloc (.cells #[.int .i64 0] 33)
  have b9 := (BoxAt.new ((w.alloc (.cells #[.pointer (some ⟨p, 0, none⟩)] 73)).alloc (.cells #[.slice none 0 0] 46)) #[.int .u64 0] 22).alloc (.cells #[.int .i64 0] 33)
  have b10 := BoxAt.new (((w.alloc (.cells #[.pointer (some ⟨p, 0, none⟩)] 73)).alloc (.cells #[.slice none 0 0] 46)).alloc (.cells #[.int .u64 0] 22)) #[.int .i64 0] 33
  have hb0 : Below w.heap.size w ((((w.alloc (.cells #[.pointer (some ⟨p, 0, none⟩)] 73)).alloc (.cells #[.slice none 0 0] 46)).alloc (.cells #[.int .u64 0] 22)).alloc (.cells #[.int .i64 0] 33)) := (by repeat (first | (with_reducible exact Below.refl _ _) | (with_reducible assumption) | (with_reducible refine Below.drew ?_) | (with_reducible refine Below.setCell ?_ ?_ _) | (with_reducible refine Below.alloc ?_ ?_ _) | (with_reducible refine Below.later ?_ ?_ _) | (first | (with_reducible exact Nat.le_refl _) | omega | (simp only [World.size_alloc, World.size_setCell, World.size_drew] <;> omega))))
  obtain ⟨w1, hw1⟩ : ∃ w1, (((w.alloc (.cells #[.pointer (some ⟨p, 0, none⟩)] 73)).alloc (.cells #[.slice none 0 0] 46)).alloc (.cells #[.int .u64 0] 22)).alloc (.cells #[.int .i64 0] 33) = w1 := ⟨_, rfl⟩
  have hs1 : w1.heap.size = q + 4 := by rw [← hw1]; simp only [World.size_alloc]; omega
  rw [hw1] at b6 b8 b9 b10 hb0
  simp only [World.size_alloc, hq, hq8, hq9, hq10] at b6 b8 b9 b10
  have HM1 := Lib.hid (h.below hb0)
  have HP1 := Lib.hid (hP.below hb0)
  have HB0 := Lib.hid hb0
  have HH := Lib.hid h
  have HR := Lib.hid R
  have HPB := Lib.hid hPB
  have HSX := Lib.hid hSX
  have HCL := Lib.hid hcl
  have HMU := Lib.hid (fun i (hi : i < scN k size) => scN_mul hpos.1 hi)
  have hsi := scI_nat k size
  have hM1 := scN_pos k size
  have hM2 := scN_le k size
  obtain ⟨M, hM⟩ : ∃ M, scN k size = M := ⟨_, rfl⟩
  rw [hM] at hct ht hsi hM1 hM2 ⊢
  have HMM := Lib.hid hM
  have HCT := Lib.hid hct
  have HT := Lib.hid ht
  have HQ := Lib.hid (show w.heap.size = q ∧ q8 = q + 1 ∧ q9 = q + 2 ∧ q10 = q + 3 ∧ w1.heap.size = q + 4 by omega)
  have HBX := Lib.hid (show BoxAt w1 q #[.pointer (some ⟨p, 0, none⟩)] ∧ BoxAt w1 q8 #[.slice none 0 0] ∧ BoxAt w1 q9 #[.int .u64 0] ∧ BoxAt w1 q10 #[.int .i64 0] from ⟨b6, b8, b9, b10⟩)
  have hc1 := scnt_any HM1.out.cod (size := (size : Int)) (Lib.hid (by omega))
  rw [hsi] at hc1
  clear h hP hPB R hSX hcl hsi hM hb0 b6 b8 b9 b10 hct ht
  go_enter_defers Tryz.func116, Tryz.ntmps116
  go_wp2_with fail
  refine hc1.mono ?_
  clear hc1 hw1 hq hq8 hq9 hq10 hs1
  rintro e w2 ⟨rfl, hb2⟩
  have hM2' := HM1.out.below' hb2
  have hP2 := HP1.out.below hb2
  have htk := ptake_at hP2 (M := M) HT.out
  have HB2 := Lib.hid hb2
  have HBX2 := Lib.hid (show BoxAt w2 q #[.pointer (some ⟨p, 0, none⟩)] ∧ BoxAt w2 q8 #[.slice none 0 0] ∧ BoxAt w2 q9 #[.int .u64 0] ∧ BoxAt w2 q10 #[.int .i64 0] from ⟨HBX.out.1.below hb2, HBX.out.2.1.below hb2, HBX.out.2.2.1.below hb2, HBX.out.2.2.2.below hb2⟩)
  have c6 := HBX2.out.1.cell 0
  have HM2 := Lib.hid hM2'
  clear hM2' hP2 hb2
  go_wp2_with fail
  refine htk.mono ?_
  clear htk c6
  rintro e w3 ⟨A3, c3, rfl, hc3, hr3, hP3, hK3⟩
  have hKP : Keep P w2 w3 := hK3.mono (fun j hj _ => by subst hj; exact HPB.out _ (.inr (.inr (.inr (.inl rfl)))))
  have hM3 := HM2.out.poolN hKP
  have hs23 := hK3.size
  have hs12 := HB2.out.size
  have hXP : ∀ j, (j = q ∨ j = q8 ∨ j = q9 ∨ j = q10) → (X j ∨ (w.heap.size ≤ j ∧ j < w1.heap.size)) := fun j hj => .inr (by have := HQ.out; omega)
  have hKX := (HM2.out.pool hKP).2
  have b6 := hKX.box HBX2.out.1 (hXP q (.inl rfl))
  have b8 := hKX.box HBX2.out.2.1 (hXP q8 (.inr (.inl rfl)))
  have b9 := hKX.box HBX2.out.2.2.1 (hXP q9 (.inr (.inr (.inl rfl))))
  have b10 := hKX.box HBX2.out.2.2.2 (hXP q10 (.inr (.inr (.inr rfl))))
  have k8 := b8.cell 0
  have k10 := b10.cell 0
  have z8 := b8.frozen 0
  have z10 := b10.frozen 0
  have ne1 : ¬ q8 = q10 := by have := HQ.out; omega
  have ne2 : ¬ q10 = q8 := fun e => ne1 e.symm
  have hK4 : Keep (fun j => j = q8 ∨ j = q10) w3 ((w3.setCell ⟨q8, 0, none⟩ (.slice A3 M c3)).setCell ⟨q10, 0, none⟩ (.int .i64 0)) := ((Keep.refl (fun j => j = q8 ∨ j = q10) w3).setCell (p := ⟨q8, 0, none⟩) (fun _ => .inl rfl) _).setCell (p := ⟨q10, 0, none⟩) (fun _ => .inr rfl) _
  have hM4 := hM3.own hK4 (fun j hj => ⟨.inl (hXP j (by rcases hj with h | h <;> simp [h])), by have := HH.out.bel.size; have := HQ.out; omega⟩)
  have c8 : BoxAt ((w3.setCell ⟨q8, 0, none⟩ (.slice A3 M c3)).setCell ⟨q10, 0, none⟩ (.int .i64 0)) q8 #[.slice A3 M c3] := (b8.set 0 _).set_other ne1 _
  have c10 : BoxAt ((w3.setCell ⟨q8, 0, none⟩ (.slice A3 M c3)).setCell ⟨q10, 0, none⟩ (.int .i64 0)) q10 #[.int .i64 0] := (b10.set_other (p := ⟨q8, 0, none⟩) ne2 _).set 0 _
  have c6 : BoxAt ((w3.setCell ⟨q8, 0, none⟩ (.slice A3 M c3)).setCell ⟨q10, 0, none⟩ (.int .i64 0)) q #[.pointer (some ⟨p, 0, none⟩)] := b6.keeps hK4 (by have := HQ.out; omega)
  have c9 : BoxAt ((w3.setCell ⟨q8, 0, none⟩ (.slice A3 M c3)).setCell ⟨q10, 0, none⟩ (.int .i64 0)) q9 #[.int .u64 0] := b9.keeps hK4 (by have := HQ.out; omega)
  have hP4 := hP3.keep hK4 (fun j hj e => by have h1 := HH.out.ltP (HPB.out j hj); have := HQ.out; omega)
  have hr4 := ((RdL.bound1 IntR.stable hr3).keep IntR.stable hK4 (fun j hj e => by have h1 : w2.heap.size ≤ j := hj.1; have := HQ.out; omega))
  have HS3 := Lib.hid (show w2.heap.size ≤ w3.heap.size ∧ w1.heap.size ≤ w2.heap.size ∧ w.heap.size ≤ w1.heap.size from ⟨hs23, hs12, HB0.out.size⟩)
  obtain ⟨w4, hw4⟩ : ∃ w4, (w3.setCell ⟨q8, 0, none⟩ (.slice A3 M c3)).setCell ⟨q10, 0, none⟩ (.int .i64 0) = w4 := ⟨_, rfl⟩
  have hs4 : w4.heap.size = w3.heap.size := by rw [← hw4]; simp only [World.size_setCell]
  rw [hw4] at hM4 c8 c10 c6 c9 hP4 hr4
  have k4 := c8.cell 0
  have k5 := c10.cell 0
  have k6 := c6.cell 0
  have HKX4 := Lib.hid (show KpX X w w4 from ((KpX.of_below (HB0.out.trans (HB2.out.mono HB0.out.size)) (fun j hj => HH.out.lt hj)).trans (hKX.mono (fun j hj => .inl hj))).trans (by
    rw [← hw4]
    exact ⟨fun j hj => hK4.block j (by have := HH.out.lt hj; have := HQ.out; omega) (by have := HH.out.lt hj; have := HQ.out; omega), hK4.size⟩))
  clear hK4 hM3 hP3 hr3 hK3 hKP hKX b6 b8 b9 b10 hXP
  obtain ⟨X1, hX1⟩ : ∃ X1 : Nat → Prop, (fun j => (X j ∨ w.heap.size ≤ j ∧ j < w1.heap.size) ∨ w2.heap.size ≤ j ∧ j < w3.heap.size) = X1 := ⟨_, rfl⟩
  have HX1 := Lib.hid (show (∀ j, X j → X1 j) ∧ (∀ j, w2.heap.size ≤ j ∧ j < w3.heap.size → X1 j) ∧ X1 q ∧ X1 q8 ∧ X1 q9 ∧ X1 q10 by
    rw [← hX1]
    have := HQ.out
    exact ⟨fun j hj => .inl (.inl hj), fun j hj => .inr hj, .inl (.inr (by omega)), .inl (.inr (by omega)), .inl (.inr (by omega)), .inl (.inr (by omega))⟩)
  rw [hX1] at hM4
  have b12 := BoxAt.new w4 #[.slice A3 M c3] 46
  have hb5 : Below w4.heap.size w4 (w4.alloc (.cells #[.slice A3 M c3] 46)) := (Below.refl _ _).alloc (Nat.le_refl _) _
  obtain ⟨w5, hw5⟩ : ∃ w5, w4.alloc (.cells #[.slice A3 M c3] 46) = w5 := ⟨_, rfl⟩
  obtain ⟨q12, hq12⟩ : ∃ q12, w4.heap.size = q12 := ⟨_, rfl⟩
  rw [hw5] at b12 hb5
  rw [hq12] at b12
  have hM5 := hM4.below' hb5
  have hP5 := hP4.below hb5
  have hgn := gens_at hP5 HCT.out
  have HM5 := Lib.hid hM5
  have HC5 := Lib.hid (show BoxAt w5 q #[.pointer (some ⟨p, 0, none⟩)] ∧ BoxAt w5 q8 #[.slice A3 M c3] ∧ BoxAt w5 q9 #[.int .u64 0] ∧ BoxAt w5 q10 #[.int .i64 0] from ⟨c6.below hb5, c8.below hb5, c9.below hb5, c10.below hb5⟩)
  have HR5 := Lib.hid (hr4.below IntR.stable hb5)
  have HKX5 := Lib.hid (HKX4.out.trans (KpX.of_below hb5 fun j hj => hM4.lt (HX1.out.1 j hj)))
  have HS5 := Lib.hid (show w3.heap.size ≤ w5.heap.size by have := hb5.size; omega)
  have k7 := (c6.below hb5).cell 0
  clear hM4 c8 c10 c6 c9 hP4 hr4 hM5 hP5 hb5 b12 hX1 hs4 hs23 hs12
  go_wp2_with fail
  refine hgn.mono ?_
  clear hgn k4 k5 k6 k7 k8 k10 z8 z10 hw4 hw5 hq12
  rintro e w6 ⟨rfl, hP6, hK6⟩
  have hKP6 : Keep P w5 w6 := hK6.mono (fun j hj _ => by subst hj; exact HPB.out _ (.inl rfl))
  have hKX6 := (HM5.out.pool hKP6).2
  have hM6 := (HM5.out.pool hKP6).1
  have b6 := hKX6.box HC5.out.1 HX1.out.2.2.1
  have b8 := hKX6.box HC5.out.2.1 HX1.out.2.2.2.1
  have b9 := hKX6.box HC5.out.2.2.1 HX1.out.2.2.2.2.1
  have b10 := hKX6.box HC5.out.2.2.2 HX1.out.2.2.2.2.2
  have k9 := b9.cell 0
  have k10 := b10.cell 0
  have z9 := b9.frozen 0
  have z10 := b10.frozen 0
  have ne3 : ¬ q9 = q10 := by have := HQ.out; omega
  have ne4 : ¬ q10 = q9 := fun e => ne3 e.symm
  have hK7 : Keep (fun j => j = q9 ∨ j = q10) w6 ((w6.setCell ⟨q9, 0, none⟩ (.int .u64 (ct : Int))).setCell ⟨q10, 0, none⟩ (.int .i64 0)) := ((Keep.refl (fun j => j = q9 ∨ j = q10) w6).setCell (p := ⟨q9, 0, none⟩) (fun _ => .inl rfl) _).setCell (p := ⟨q10, 0, none⟩) (fun _ => .inr rfl) _
  have hwq : w0.heap.size ≤ q := by have := HH.out.bel.size; have := HQ.out; omega
  have hM7 := hM6.own hK7 (fun j hj => by
    have := HQ.out
    rcases hj with rfl | rfl
    · exact ⟨HX1.out.2.2.2.2.1, by omega⟩
    · exact ⟨HX1.out.2.2.2.2.2, by omega⟩)
  have d9 : BoxAt ((w6.setCell ⟨q9, 0, none⟩ (.int .u64 (ct : Int))).setCell ⟨q10, 0, none⟩ (.int .i64 0)) q9 #[.int .u64 (ct : Int)] := (b9.set 0 _).set_other ne3 _
  have d10 : BoxAt ((w6.setCell ⟨q9, 0, none⟩ (.int .u64 (ct : Int))).setCell ⟨q10, 0, none⟩ (.int .i64 0)) q10 #[.int .i64 0] := (b10.set_other (p := ⟨q9, 0, none⟩) ne4 _).set 0 _
  have d8 : BoxAt ((w6.setCell ⟨q9, 0, none⟩ (.int .u64 (ct : Int))).setCell ⟨q10, 0, none⟩ (.int .i64 0)) q8 #[.slice A3 M c3] := b8.keeps hK7 (by have := HQ.out; omega)
  have hP7 := hP6.keep hK7 (fun j hj e => by have h1 := HH.out.ltP (HPB.out j hj); have := HQ.out; omega)
  have hr7 := ((hKX6.rd IntR.stable HR5.out (fun j hj => HX1.out.2.1 j hj)).keep IntR.stable hK7 (fun j hj e => by have h1 : w2.heap.size ≤ j := hj.1; have := HQ.out; have := HS3.out; omega))
  have HKX7 := Lib.hid ((HKX5.out.trans (hKX6.mono fun j hj => HX1.out.1 j hj)).trans (show KpX X w6 _ from ⟨fun j hj => hK7.block j (by have := HH.out.lt hj; have := hM6.lt (HX1.out.1 j hj); omega) (by have := HH.out.lt hj; have := HQ.out; omega), hK7.size⟩))
  have hs67 := hKX6.2
  obtain ⟨w7, hw7⟩ : ∃ w7, (w6.setCell ⟨q9, 0, none⟩ (.int .u64 (ct : Int))).setCell ⟨q10, 0, none⟩ (.int .i64 0) = w7 := ⟨_, rfl⟩
  have hs7 : w7.heap.size = w6.heap.size := by rw [← hw7]; simp only [World.size_setCell]
  rw [hw7] at hM7 d9 d10 d8 hP7 hr7 HKX7
  have k4 := d8.cell 0
  have k5 := d9.cell 0
  have k6 := d10.cell 0
  have hrf := srefs_any (c := c3) (G := ct) hr7 (by omega) (Lib.hid (by have := HCT.out; omega))
  have HM7 := Lib.hid hM7
  have HP7 := Lib.hid hP7
  have HR7 := Lib.hid hr7
  have HD7 := Lib.hid (show BoxAt w7 q8 #[.slice A3 M c3] ∧ BoxAt w7 q9 #[.int .u64 (ct : Int)] ∧ BoxAt w7 q10 #[.int .i64 0] from ⟨d8, d9, d10⟩)
  have HS7 := Lib.hid (show w5.heap.size ≤ w7.heap.size by omega)
  clear hKP6 hKX6 hM6 hK7 hM7 d8 d9 d10 hP7 hr7 hK6 hP6 b6 b8 b9 b10 hs67 hs7 HM5 HC5 HR5 HKX5
  go_wp2_with fail
  refine hrf.mono ?_
  clear hrf k4 k5 k6 k9 k10 z9 z10 hw7
  rintro e w8 ⟨g, rfl, hg, hrow, hb8⟩
  have hM8 := HM7.out.below hb8
  obtain ⟨XX, hXX⟩ : ∃ XX : Nat → Prop, (fun j => X1 j ∨ w7.heap.size ≤ j ∧ j < w8.heap.size) = XX := ⟨_, rfl⟩
  have HXX := Lib.hid (show (∀ j, X1 j → XX j) ∧ XX g by rw [← hXX]; exact ⟨fun j hj => .inl hj, .inr ⟨hg, hrow.lt⟩⟩)
  rw [hXX] at hM8
  have HM8 := Lib.hid hM8
  have HROW := Lib.hid hrow
  have HP8 := Lib.hid (HP7.out.below hb8)
  have HR8 := Lib.hid (HR7.out.below IntR.stable hb8)
  have HD8 := Lib.hid (show BoxAt w8 q8 #[.slice A3 M c3] ∧ BoxAt w8 q9 #[.int .u64 (ct : Int)] ∧ BoxAt w8 q10 #[.int .i64 0] from ⟨HD7.out.1.below hb8, HD7.out.2.1.below hb8, HD7.out.2.2.below hb8⟩)
  have HKX8 := Lib.hid (HKX7.out.trans (KpX.of_below hb8 fun j hj => HM7.out.lt (HX1.out.1 j hj)))
  have HS8 := Lib.hid (show w7.heap.size ≤ w8.heap.size from hb8.size)
  clear hM8 hXX hrow hb8 HP7 HR7 HD7 HKX7 hg HM7
  go_wp2_with fail
  go_loopw [47] (fun vi wr => ∃ i : Nat, i ≤ M ∧ vi = .int .i64 (i : Int) ∧ Hid (MidP P XX w0 wr a cb bf k m n (putC n k (k + m) (scRf (fs + t) ct) (scTx k (fs + t) ct M xs) sts i)) ∧ Hid (KpX (fun j => XX j ∨ P j) w8 wr)) (fun vi _ => M - (intOf vi).toNat)
  case atStart => exact ⟨0, Nat.zero_le _, rfl, HM8, Lib.hid KpX.refl⟩
  case round =>
    clear HM8
    obtain ⟨i, hi, rfl, HM, HK⟩ := hrel
    have p0 : (0 : Int) ≤ (i : Int) := Int.natCast_nonneg _
    by_cases hlt : i < M
    · have p1 : (i : Int) < (M : Int) := by omega
      obtain ⟨pa, hpa⟩ : ∃ pa, fs + t + i = pa := ⟨_, rfl⟩
      obtain ⟨pg, hpg⟩ : ∃ pg, ct + i = pg := ⟨_, rfl⟩
      obtain ⟨kd, hkd⟩ : ∃ kd, (if i + 1 < M then 4 else 0) = kd := ⟨_, rfl⟩
      obtain ⟨nx, hnx⟩ : ∃ nx, (if i + 1 < M then fs + t + (i + 1) else 0) = nx := ⟨_, rfl⟩
      obtain ⟨ng, hng⟩ : ∃ ng, (if i + 1 < M then ct + (i + 1) else 0) = ng := ⟨_, rfl⟩
      have HTX := Lib.hid (show scTx k (fs + t) ct M xs i = lnk nx ng (scPc k xs i) by unfold scTx; rw [hnx, hng])
      have hnxl : nx < 65536 := by rw [← hnx]; have := HH.out.pos; have := HT.out; split <;> omega
      have hngl : Hid (ng < 2 ^ 64) := Lib.hid (by rw [← hng]; have := HCT.out; split <;> omega)
      have HRFC := Lib.hid (show refC (scRf (fs + t) ct i) = #[.int .u8 4, .int .i64 (pa : Int), .int .u64 (pg : Int)] by unfold refC scRf; rw [hpa, hpg]; rfl)
      have HROK := Lib.hid (show (scRf (fs + t) ct i).ok n from scRf_ok (by have := HT.out; omega))
      have HRG := Lib.hid (show (scRf (fs + t) ct i).gen < 2 ^ 64 by show ct + i < _; have := HCT.out; omega)
      have HSF : Hid (∀ w' : World, w'.heap[g]? = w8.heap[g]? → w'.cell? ⟨g, i * 3, none⟩ = some (.int .u8 4) ∧ w'.cell? ⟨g, i * 3 + 1, none⟩ = some (.int .i64 (pa : Int)) ∧ w'.cell? ⟨g, i * 3 + 2, none⟩ = some (.int .u64 (pg : Int)) ∧ w'.cell? ⟨g, (i + 1) * 3, none⟩ = some (.int .u8 (kd : Int)) ∧ w'.cell? ⟨g, (i + 1) * 3 + 1, none⟩ = some (.int .i64 (nx : Int)) ∧ w'.cell? ⟨g, (i + 1) * 3 + 2, none⟩ = some (.int .u64 (ng : Int))) := Lib.hid fun w' hw => by
        obtain ⟨a0, a1, a2⟩ := HROW.out.cells (rfK_at (a := fs + t) (n := M) (G := ct) (i := M) (j := i) (by omega))
        obtain ⟨e0, e1, e2⟩ := HROW.out.cells (rfK_at (a := fs + t) (n := M) (G := ct) (i := M) (j := i + 1) (by omega))
        rw [if_pos hlt] at a0 a1 a2
        have hc : ∀ o, w'.cell? ⟨g, o, none⟩ = w8.cell? ⟨g, o, none⟩ := fun o => World.cell?_of_block (a := ⟨g, o, none⟩) hw
        rw [hc, hc, hc, hc, hc, hc, a0, a1, a2, e0, e1, e2, ← hpa, ← hpg, ← hkd, ← hnx, ← hng]
        refine ⟨rfl, rfl, rfl, ?_, ?_, ?_⟩ <;> split <;> rfl
      have hgr : g < wr.heap.size := HM.out.lt HXX.out.2
      have hwr : wr.heap[g]? = w8.heap[g]? := HK.out.1 g (.inl HXX.out.2)
      have hd : Below wr.heap.size wr wr.drew := (Below.refl _ _).drew
      have s0 := HSF.out wr.drew ((hd.block g hgr).trans hwr)
      have hiw : IntKind.i64.wrap ((i : Int) + 1) = (i : Int) + 1 := by rw [IntKind.wrap_i64]; omega
      have l1 : (i : Int) < (M : Int) + 1 := by omega
      have l2 : (i : Int) + 1 < (M : Int) + 1 := by omega
      have l3 : (0 : Int) ≤ (i : Int) + 1 := by omega
      have hmu := HMU.out i (by rw [HMM.out]; exact hlt)
      have HMd := Lib.hid (HM.out.below' hd)
      have hKd : KpX X w wr.drew := (HKX8.out.trans (HK.out.mono fun j hj => .inl (HXX.out.1 j (HX1.out.1 j hj)))).trans (KpX.of_below hd fun j hj => HM.out.lt (HXX.out.1 j (HX1.out.1 j hj)))
      have HRX := Lib.hid (hKd.rd ByR.stable HR.out HSX.out)
      have HGR := Lib.hid hgr
      have HWR := Lib.hid hwr
      clear hpa hpg hkd hnx hng hKd hgr hwr
      go_wp2_with fail
      refine Code.wp_mono NoP.le ?_
      refine wp_region_held_drew (S := fun w' => w'.cell? ⟨g, i * 3, none⟩ = some (.int .u8 4) ∧ w'.cell? ⟨g, i * 3 + 1, none⟩ = some (.int .i64 (pa : Int)) ∧ w'.cell? ⟨g, i * 3 + 2, none⟩ = some (.int .u64 (pg : Int)) ∧ w'.cell? ⟨g, (i + 1) * 3, none⟩ = some (.int .u8 (kd : Int)) ∧ w'.cell? ⟨g, (i + 1) * 3 + 1, none⟩ = some (.int .i64 (nx : Int)) ∧ w'.cell? ⟨g, (i + 1) * 3 + 2, none⟩ = some (.int .u64 (ng : Int))) (by kernel_rfl) (by first | exact s0 | exact s11 | exact s12) (fun hHeld => ?_)
      refine wpAnyH_take (i := 0) (v := ?_) rfl (by kernel_rfl) (by kernel_rfl) (by kernel_rfl) (fun _ _ _ h => h) (Or.inl ⟨by first | kernel_rfl | rfl, ?_⟩) (by assumption) ?_
      rotate_left
      · (intro wq hSw; (try dsimp only at hSw); (try simp (maxSteps := 2000000) only [zz1, zz2, zz3]); go_simp); try with_reducible rfl
      try simp (maxSteps := 2000000) only [zz1, zz2, zz3, Act.put, zz4, zz5, zz6]
      refine wpAnyH_take (i := 1) (v := ?_) rfl (by kernel_rfl) (by kernel_rfl) (by kernel_rfl) (fun _ _ _ h => h) (Or.inl ⟨by first | kernel_rfl | rfl, ?_⟩) (by assumption) ?_
      rotate_left
      · (intro wq hSw; (try dsimp only at hSw); (try simp (maxSteps := 2000000) only [zz1, zz2, zz3]); go_simp); try with_reducible rfl
      try simp (maxSteps := 2000000) only [zz1, zz2, zz3, Act.put, zz4, zz5, zz6]
      refine wpAnyH_take (i := 2) (v := ?_) rfl (by kernel_rfl) (by kernel_rfl) (by kernel_rfl) (fun _ _ _ h => h) (Or.inl ⟨by first | kernel_rfl | rfl, ?_⟩) (by assumption) ?_
      rotate_left
      · (intro wq hSw; (try dsimp only at hSw); (try simp (maxSteps := 2000000) only [zz1, zz2, zz3]); go_simp); try with_reducible rfl
      try simp (maxSteps := 2000000) only [zz1, zz2, zz3, Act.put, zz4, zz5, zz6]
      refine wpAnyH_take (i := 3) (v := ?_) rfl (by kernel_rfl) (by kernel_rfl) (by kernel_rfl) (fun _ _ _ h => h) (Or.inl ⟨by first | kernel_rfl | rfl, ?_⟩) (by assumption) ?_
      rotate_left
      · (intro wq hSw; (try dsimp only at hSw); (try simp (maxSteps := 2000000) only [zz1, zz2, zz3]); go_simp); try with_reducible rfl
      try simp (maxSteps := 2000000) only [zz1, zz2, zz3, Act.put, zz4, zz5, zz6]
      refine wpAnyH_take (i := 4) (v := ?_) rfl (by kernel_rfl) (by kernel_rfl) (by kernel_rfl) (fun _ _ _ h => h) (Or.inl ⟨by first | kernel_rfl | rfl, ?_⟩) (by assumption) ?_
      rotate_left
      · (intro wq hSw; (try dsimp only at hSw); (try simp (maxSteps := 2000000) only [zz1, zz2, zz3]); go_simp); try with_reducible rfl
      try simp (maxSteps := 2000000) only [zz1, zz2, zz3, Act.put, zz4, zz5, zz6]
      refine wpAnyH_take (i := 5) (v := ?_) rfl (by kernel_rfl) (by kernel_rfl) (by kernel_rfl) (fun _ _ _ h => h) (Or.inl ⟨by first | kernel_rfl | rfl, ?_⟩) (by assumption) ?_
      rotate_left
      · (intro wq hSw; (try dsimp only at hSw); (try simp (maxSteps := 2000000) only [zz1, zz2, zz3]); go_simp); try with_reducible rfl
      try simp (maxSteps := 2000000) only [zz1, zz2, zz3, Act.put, zz4, zz5, zz6]
      refine wpAnyH_take (i := 6) (v := ?_) rfl (by kernel_rfl) (by kernel_rfl) (by kernel_rfl) (fun _ _ _ h => h) (Or.inl ⟨by first | kernel_rfl | rfl, ?_⟩) (by assumption) ?_
      rotate_left
      · (intro wq hSw; (try dsimp only at hSw); (try simp (maxSteps := 2000000) only [zz1, zz2, zz3]); go_simp); try with_reducible rfl
      try simp (maxSteps := 2000000) only [zz1, zz2, zz3, Act.put, zz4, zz5, zz6]
      refine wpAnyH_take (i := 7) (v := ?_) rfl (by kernel_rfl) (by kernel_rfl) (by kernel_rfl) (fun _ _ _ h => h) (Or.inl ⟨by first | kernel_rfl | rfl, ?_⟩) (by assumption) ?_
      rotate_left
      · (intro wq hSw; (try dsimp only at hSw); (try simp (maxSteps := 2000000) only [zz1, zz2, zz3]); go_simp); try with_reducible rfl
      try simp (maxSteps := 2000000) only [zz1, zz2, zz3, Act.put, zz4, zz5, zz6]
      refine wpAnyH_take (i := 8) (v := ?_) rfl (by kernel_rfl) (by kernel_rfl) (by kernel_rfl) (fun _ _ _ h => h) (Or.inl ⟨by first | kernel_rfl | rfl, ?_⟩) (by assumption) ?_
      rotate_left
      · (intro wq hSw; (try dsimp only at hSw); (try simp (maxSteps := 2000000) only [zz1, zz2, zz3]); go_simp); try with_reducible rfl
      try simp (maxSteps := 2000000) only [zz1, zz2, zz3, Act.put, zz4, zz5, zz6]
      refine wpAnyH_take (i := 9) (v := ?_) rfl (by kernel_rfl) (by kernel_rfl) (by kernel_rfl) (fun _ _ _ h => h) (Or.inl ⟨by first | kernel_rfl | rfl, ?_⟩) (by assumption) ?_
      rotate_left
      · (intro wq hSw; (try dsimp only at hSw); (try simp (maxSteps := 2000000) only [zz1, zz2, zz3]); go_simp); try with_reducible rfl
      try simp (maxSteps := 2000000) only [zz1, zz2, zz3, Act.put, zz4, zz5, zz6]
      refine wpAnyH_take (i := 10) (v := ?_) rfl (by kernel_rfl) (by kernel_rfl) (by kernel_rfl) (fun _ _ _ h => h) (Or.inl ⟨by first | kernel_rfl | rfl, ?_⟩) (by assumption) ?_
      rotate_left
      · (intro wq hSw; (try dsimp only at hSw); (try simp (maxSteps := 2000000) only [zz1, zz2, zz3]); go_simp); try with_reducible rfl
      try simp (maxSteps := 2000000) only [zz1, zz2, zz3, Act.put, zz4, zz5, zz6]
      refine wpAnyH_take (i := 11) (v := ?_) rfl (by kernel_rfl) (by kernel_rfl) (by kernel_rfl) (fun _ _ _ h => h) (Or.inl ⟨by first | kernel_rfl | rfl, ?_⟩) (by assumption) ?_
      rotate_left
      · (intro wq hSw; (try dsimp only at hSw); (try simp (maxSteps := 2000000) only [zz1, zz2, zz3]); go_simp); try with_reducible rfl
      try simp (maxSteps := 2000000) only [zz1, zz2, zz3, Act.put, zz4, zz5, zz6]
      refine wpAnyH_take (i := 12) (v := ?_) rfl (by kernel_rfl) (by kernel_rfl) (by kernel_rfl) (fun _ _ _ h => h) (Or.inl ⟨by first | kernel_rfl | rfl, ?_⟩) (by assumption) ?_
      rotate_left
      · (intro wq hSw; (try dsimp only at hSw); (try simp (maxSteps := 2000000) only [zz1, zz2, zz3]); go_simp); try with_reducible rfl
      try simp (maxSteps := 2000000) only [zz1, zz2, zz3, Act.put, zz4, zz5, zz6]
      refine wpAnyH_take (i := 14) (v := ?_) rfl (by kernel_rfl) (by kernel_rfl) (by kernel_rfl) (fun _ _ _ h => h) (Or.inl ⟨by first | kernel_rfl | rfl, ?_⟩) (by assumption) ?_
      rotate_left
      · (intro wq hSw; (try dsimp only at hSw); (try simp (maxSteps := 2000000) only [zz1, zz2, zz3]); go_simp); try with_reducible rfl
      try simp (maxSteps := 2000000) only [zz1, zz2, zz3, Act.put, zz4, zz5, zz6]
      refine wpAnyH_ready (rs := [13]) (by kernel_rfl) (by simp) ?_
      refine AllReadyH.cons rfl (fun K hK => ?_) AllReadyH.nil
      try simp (maxSteps := 2000000) only [zz1, zz2, zz3]
      go_simp
      go_at_call 119
      refine (sroom_any HMd.out.cod).mono ?_
      rintro e w9 ⟨rfl, hw9⟩
      rw [hw9]
      clear hw9
      try (go_wp2_with fail)
      refine hK.out _ _ (by first | exact s0 | exact s11 | exact s12) (fun hHeld => ?_)
      clear hK K
      try simp (maxSteps := 2000000) only [zz1, zz2, zz3, Act.put, zz4, zz5, zz6]
      refine wpAnyH_ready (rs := [15]) (by kernel_rfl) (by simp) ?_
      refine AllReadyH.cons rfl (fun K hK => ?_) AllReadyH.nil
      try simp (maxSteps := 2000000) only [zz1, zz2, zz3]
      go_simp
      go_at_call 182
      refine (spiece_any HRX.out hcx (by omega) hmu (by omega) (by omega)).mono ?_
      rintro e w9 ⟨A9, l9, c9, rfl, hl9, hr9, hle9, hw9⟩
      rw [hw9]
      clear hw9
      have HR9 := Lib.hid hr9
      have HL9 := Lib.hid hle9
      clear hr9 hle9
      try (go_wp2_with fail)
      refine hK.out _ _ (by first | exact s0 | exact s11 | exact s12) (fun hHeld => ?_)
      clear hK K
      try simp (maxSteps := 2000000) only [zz1, zz2, zz3, Act.put, zz4, zz5, zz6]
      refine wpAnyH_ready (rs := [16]) (by kernel_rfl) (by simp) ?_
      refine AllReadyH.cons rfl (fun K hK => ?_) AllReadyH.nil
      try simp (maxSteps := 2000000) only [zz1, zz2, zz3]
      go_simp
      go_at_call 181
      have hla := laid_any (kd := kd) (p := nx) (g := ng) (c := c9) HR9.out (by have := HL9.out; omega) hnxl hngl
      unfold scR at hla
      refine hla.mono ?_
      clear hla
      rintro e w11 ⟨A11, c11, rfl, hc11, hr11, hb11⟩
      have hm11 : w11.heap[g]? = w8.heap[g]? := ((hd.trans (hb11.mono hd.size)).block g HGR.out).trans HWR.out
      have s11 := HSF.out w11 hm11
      have HR11 := Lib.hid hr11
      have HM11 := Lib.hid (HMd.out.below' hb11)
      have HK11 := Lib.hid (HK.out.trans (KpX.of_below (hd.trans (hb11.mono hd.size)) fun j hj => by
        rcases hj with hj | hj
        · exact HM.out.lt hj
        · exact HM.out.ltP hj))
      clear hr11 hb11 hm11
      try (go_wp2_with fail)
      refine hK.out _ _ (by first | exact s0 | exact s11 | exact s12) (fun hHeld => ?_)
      clear hK K
      try simp (maxSteps := 2000000) only [zz1, zz2, zz3, Act.put, zz4, zz5, zz6]
      refine wpAnyH_ready (rs := [17]) (by kernel_rfl) (by simp) ?_
      refine AllReadyH.cons rfl (fun K hK => ?_) AllReadyH.nil
      try simp (maxSteps := 2000000) only [zz1, zz2, zz3]
      go_simp
      go_at_call 70
      have hpu := put_p HM11.out (r := scRf (fs + t) ct i) HROK.out HRG (fun st hst => by have := putC_cache HCL.out i st hst; omega) HR11.out hc11 (by have := HL9.out; have := HH.out.pos; omega)
      rw [HRFC.out] at hpu
      refine hpu.mono ?_
      clear hpu
      rintro e w12 ⟨rfl, hM12, hK12⟩
      have HM12 := Lib.hid (show MidP P XX w0 w12 a cb bf k m n (putC n k (k + m) (scRf (fs + t) ct) (scTx k (fs + t) ct M xs) sts (i + 1)) by rw [putC, HTX.out]; exact hM12)
      have HK12 := Lib.hid (HK11.out.trans hK12)
      have s12 := HSF.out w12 (HK12.out.1 g (.inl HXX.out.2))
      clear hM12 hK12
      try (go_wp2_with fail)
      refine hK.out _ _ (by first | exact s0 | exact s11 | exact s12) (fun hHeld => ?_)
      clear hK K
      try simp (maxSteps := 2000000) only [zz1, zz2, zz3, Act.put, zz4, zz5, zz6]
      refine wpAnyH_take (i := 18) (v := ?_) rfl (by kernel_rfl) (by kernel_rfl) (by kernel_rfl) (fun _ _ _ h => h) (Or.inl ⟨by first | kernel_rfl | rfl, ?_⟩) (by assumption) ?_
      rotate_left
      · (intro wq hSw; (try dsimp only at hSw); (try simp (maxSteps := 2000000) only [zz1, zz2, zz3]); go_simp); try with_reducible rfl
      try simp (maxSteps := 2000000) only [zz1, zz2, zz3, Act.put, zz4, zz5, zz6]
      refine wpAnyH_take (i := 19) (v := ?_) rfl (by kernel_rfl) (by kernel_rfl) (by kernel_rfl) (fun _ _ _ h => h) (Or.inl ⟨by first | kernel_rfl | rfl, ?_⟩) (by assumption) ?_
      rotate_left
      · (intro wq hSw; (try dsimp only at hSw); (try simp (maxSteps := 2000000) only [zz1, zz2, zz3]); go_simp); try with_reducible rfl
      try simp (maxSteps := 2000000) only [zz1, zz2, zz3, Act.put, zz4, zz5, zz6]
      refine wpAnyH_take (i := 20) (v := ?_) rfl (by kernel_rfl) (by kernel_rfl) (by kernel_rfl) (fun _ _ _ h => h) (Or.inl ⟨by first | kernel_rfl | rfl, ?_⟩) (by assumption) ?_
      rotate_left
      · (intro wq hSw; (try dsimp only at hSw); (try simp (maxSteps := 2000000) only [zz1, zz2, zz3]); go_simp); try with_reducible rfl
      try simp (maxSteps := 2000000) only [zz1, zz2, zz3, Act.put, zz4, zz5, zz6]
      refine wpAnyH_take (i := 21) (v := ?_) rfl (by kernel_rfl) (by kernel_rfl) (by kernel_rfl) (fun _ _ _ h => h) (Or.inl ⟨by first | kernel_rfl | rfl, ?_⟩) (by assumption) ?_
      rotate_left
      · (intro wq hSw; (try dsimp only at hSw); (try simp (maxSteps := 2000000) only [zz1, zz2, zz3]); go_simp); try with_reducible rfl
      try simp (maxSteps := 2000000) only [zz1, zz2, zz3, Act.put, zz4, zz5, zz6]
      refine wpAnyH_take (i := 22) (v := ?_) rfl (by kernel_rfl) (by kernel_rfl) (by kernel_rfl) (fun _ _ _ h => h) (Or.inl ⟨by first | kernel_rfl | rfl, ?_⟩) (by assumption) ?_
      rotate_left
      · (intro wq hSw; (try dsimp only at hSw); (try simp (maxSteps := 2000000) only [zz1, zz2, zz3]); go_simp); try with_reducible rfl
      try simp (maxSteps := 2000000) only [zz1, zz2, zz3, Act.put, zz4, zz5, zz6]
      refine wpAnyH_done (by kernel_rfl) ?_ _
      clear hHeld s0 s11 s12
      refine NoP.normal ?_
      go_wp2_with fail
      exact ⟨⟨i + 1, by omega, by go_num, HM12, HK12⟩, by simp [intOf]; omega⟩
    · have p1 : ¬ (i : Int) < (M : Int) := by omega
      obtain rfl : i = M := by omega
      have bb8 := HK.out.box HD8.out.1 (.inl (HXX.out.1 _ HX1.out.2.2.2.1))
      have bb9 := HK.out.box HD8.out.2.1 (.inl (HXX.out.1 _ HX1.out.2.2.2.2.1))
      have bb10 := HK.out.box HD8.out.2.2 (.inl (HXX.out.1 _ HX1.out.2.2.2.2.2))
      have ne1 : ¬ q8 = q9 ∧ ¬ q8 = q10 ∧ ¬ q9 = q10 ∧ ¬ q9 = q8 ∧ ¬ q10 = q8 ∧ ¬ q10 = q9 := by have := HQ.out; omega
      have HSF : Hid (∀ w' : World, (BoxAt w' q8 #[.slice A3 i c3] ∧ BoxAt w' q9 #[.int .u64 (ct : Int)] ∧ BoxAt w' q10 #[.int .i64 0]) → w'.cell? ⟨q8, 0, none⟩ = some (.slice A3 i c3) ∧ w'.cell? ⟨q9, 0, none⟩ = some (.int .u64 (ct : Int)) ∧ w'.cell? ⟨q10, 0, none⟩ = some (.int .i64 0) ∧ w'.frozen? ⟨q8, 0, none⟩ = false ∧ w'.frozen? ⟨q9, 0, none⟩ = false ∧ w'.frozen? ⟨q10, 0, none⟩ = false) := Lib.hid fun w' h => ⟨h.1.cell 0, h.2.1.cell 0, h.2.2.cell 0, h.1.frozen 0, h.2.1.frozen 0, h.2.2.frozen 0⟩
      have HB1 : Hid (∀ w' : World, (BoxAt w' q8 #[.slice A3 i c3] ∧ BoxAt w' q9 #[.int .u64 (ct : Int)] ∧ BoxAt w' q10 #[.int .i64 0]) → (BoxAt (w'.setCell ⟨q8, 0, none⟩ (.slice A3 i c3)) q8 #[.slice A3 i c3] ∧ BoxAt (w'.setCell ⟨q8, 0, none⟩ (.slice A3 i c3)) q9 #[.int .u64 (ct : Int)] ∧ BoxAt (w'.setCell ⟨q8, 0, none⟩ (.slice A3 i c3)) q10 #[.int .i64 0])) := Lib.hid fun w' h => ⟨h.1.set 0 _, h.2.1.set_other (p := ⟨q8, 0, none⟩) ne1.2.2.2.1 _, h.2.2.set_other (p := ⟨q8, 0, none⟩) ne1.2.2.2.2.1 _⟩
      have HB2 : Hid (∀ w' : World, (BoxAt w' q8 #[.slice A3 i c3] ∧ BoxAt w' q9 #[.int .u64 (ct : Int)] ∧ BoxAt w' q10 #[.int .i64 0]) → (BoxAt (w'.setCell ⟨q9, 0, none⟩ (.int .u64 (ct : Int))) q8 #[.slice A3 i c3] ∧ BoxAt (w'.setCell ⟨q9, 0, none⟩ (.int .u64 (ct : Int))) q9 #[.int .u64 (ct : Int)] ∧ BoxAt (w'.setCell ⟨q9, 0, none⟩ (.int .u64 (ct : Int))) q10 #[.int .i64 0])) := Lib.hid fun w' h => ⟨h.1.set_other (p := ⟨q9, 0, none⟩) ne1.1 _, h.2.1.set 0 _, h.2.2.set_other (p := ⟨q9, 0, none⟩) ne1.2.2.2.2.2 _⟩
      have HB3 : Hid (∀ w' : World, (BoxAt w' q8 #[.slice A3 i c3] ∧ BoxAt w' q9 #[.int .u64 (ct : Int)] ∧ BoxAt w' q10 #[.int .i64 0]) → (BoxAt (w'.setCell ⟨q10, 0, none⟩ (.int .i64 0)) q8 #[.slice A3 i c3] ∧ BoxAt (w'.setCell ⟨q10, 0, none⟩ (.int .i64 0)) q9 #[.int .u64 (ct : Int)] ∧ BoxAt (w'.setCell ⟨q10, 0, none⟩ (.int .i64 0)) q10 #[.int .i64 0])) := Lib.hid fun w' h => ⟨h.1.set_other (p := ⟨q10, 0, none⟩) ne1.2.1 _, h.2.1.set_other (p := ⟨q10, 0, none⟩) ne1.2.2.1 _, h.2.2.set 0 _⟩
      have HE0 := Lib.hid (show BoxAt wr.drew q8 #[.slice A3 i c3] ∧ BoxAt wr.drew q9 #[.int .u64 (ct : Int)] ∧ BoxAt wr.drew q10 #[.int .i64 0] from ⟨bb8.keep rfl, bb9.keep rfl, bb10.keep rfl⟩)
      have HE1 := Lib.hid (HB1.out _ HE0.out)
      have HE2 := Lib.hid (HB2.out _ HE1.out)
      have HE3 := Lib.hid (HB3.out _ HE2.out)
      have s0 := HSF.out _ HE0.out
      clear bb8 bb9 bb10 ne1 HSX HR HCL HMU
      go_wp2_with fail
      refine Code.wp_mono NoP.le ?_
      refine wp_region_held_drew (S := fun w' => w'.cell? ⟨q8, 0, none⟩ = some (.slice A3 i c3) ∧ w'.cell? ⟨q9, 0, none⟩ = some (.int .u64 (ct : Int)) ∧ w'.cell? ⟨q10, 0, none⟩ = some (.int .i64 0) ∧ w'.frozen? ⟨q8, 0, none⟩ = false ∧ w'.frozen? ⟨q9, 0, none⟩ = false ∧ w'.frozen? ⟨q10, 0, none⟩ = false) (by kernel_rfl) (by first | exact s0 | exact HSF.out _ HE1.out | exact HSF.out _ HE2.out | exact HSF.out _ HE3.out) (fun hHeld => ?_)
      refine wpAnyH_take (i := 0) (v := ?_) rfl (by kernel_rfl) (by kernel_rfl) (by kernel_rfl) (fun _ _ _ h => h) (Or.inl ⟨by first | kernel_rfl | rfl, ?_⟩) (by assumption) ?_
      rotate_left
      · (intro wq hSw; (try dsimp only at hSw); (try simp (maxSteps := 2000000) only [zz1, zz2, zz3]); go_simp); try with_reducible rfl
      try simp (maxSteps := 2000000) only [zz1, zz2, zz3, Act.put, zz4, zz5, zz6]
      refine wpAnyH_take (i := 1) (v := ?_) rfl (by kernel_rfl) (by kernel_rfl) (by kernel_rfl) (fun _ _ _ h => h) (Or.inl ⟨by first | kernel_rfl | rfl, ?_⟩) (by assumption) ?_
      rotate_left
      · (intro wq hSw; (try dsimp only at hSw); (try simp (maxSteps := 2000000) only [zz1, zz2, zz3]); go_simp); try with_reducible rfl
      try simp (maxSteps := 2000000) only [zz1, zz2, zz3, Act.put, zz4, zz5, zz6]
      refine wpAnyH_ready (rs := [2]) (by kernel_rfl) (by simp) ?_
      refine AllReadyH.cons rfl (fun K hK => ?_) AllReadyH.nil
      try simp (maxSteps := 2000000) only [zz1, zz2, zz3]
      go_simp
      refine hK.out _ _ (by first | exact s0 | exact HSF.out _ HE1.out | exact HSF.out _ HE2.out | exact HSF.out _ HE3.out) (fun hHeld => ?_)
      clear hK K
      try simp (maxSteps := 2000000) only [zz1, zz2, zz3, Act.put, zz4, zz5, zz6]
      refine wpAnyH_ready (rs := [3]) (by kernel_rfl) (by simp) ?_
      refine AllReadyH.cons rfl (fun K hK => ?_) AllReadyH.nil
      try simp (maxSteps := 2000000) only [zz1, zz2, zz3]
      go_simp
      refine hK.out _ _ (by first | exact s0 | exact HSF.out _ HE1.out | exact HSF.out _ HE2.out | exact HSF.out _ HE3.out) (fun hHeld => ?_)
      clear hK K
      try simp (maxSteps := 2000000) only [zz1, zz2, zz3, Act.put, zz4, zz5, zz6]
      refine wpAnyH_ready (rs := [4]) (by kernel_rfl) (by simp) ?_
      refine AllReadyH.cons rfl (fun K hK => ?_) AllReadyH.nil
      try simp (maxSteps := 2000000) only [zz1, zz2, zz3]
      go_simp
      refine hK.out _ _ (by first | exact s0 | exact HSF.out _ HE1.out | exact HSF.out _ HE2.out | exact HSF.out _ HE3.out) (fun hHeld => ?_)
      clear hK K
      try simp (maxSteps := 2000000) only [zz1, zz2, zz3, Act.put, zz4, zz5, zz6]
      refine wpAnyH_done (by kernel_rfl) ?_ _
      clear hHeld
      refine NoP.normal ?_
      go_wp2_with fail
      refine leaves_cons (f := 179) (args := #[.pointer (some ⟨q10, 0, none⟩), .pointer (some ⟨q, 0, none⟩), .pointer (some ⟨q12, 0, none⟩), .pointer (some ⟨q8, 0, none⟩), .pointer (some ⟨q9, 0, none⟩)]) (by simp) (by simp [go_sem]) ?_
      refine (scw1_ok .returning (HSF.out _ HE3.out).2.2.1).mono ?_
      rintro e u' w'' ⟨rfl, rfl, rfl⟩
      have e8 := (HE3.out.1).cell 0
      have e9 := (HE3.out.2.1).cell 0
      have e10 := (HE3.out.2.2).cell 0
      obtain ⟨wF, hwF⟩ : ∃ wF, ((wr.drew.setCell ⟨q8, 0, none⟩ (.slice A3 i c3)).setCell ⟨q9, 0, none⟩ (.int .u64 (ct : Int))).setCell ⟨q10, 0, none⟩ (.int .i64 0) = wF := ⟨_, rfl⟩
      have hKF : Keep (fun j => j = q8 ∨ j = q9 ∨ j = q10) wr (((wr.drew.setCell ⟨q8, 0, none⟩ (.slice A3 i c3)).setCell ⟨q9, 0, none⟩ (.int .u64 (ct : Int))).setCell ⟨q10, 0, none⟩ (.int .i64 0)) :=
        (((Keep.of_below (F := fun j => j = q8 ∨ j = q9 ∨ j = q10) (Below.refl wr.heap.size wr).drew).setCell (p := ⟨q8, 0, none⟩) (fun _ => .inl rfl) _).setCell (p := ⟨q9, 0, none⟩) (fun _ => .inr (.inl rfl)) _).setCell (p := ⟨q10, 0, none⟩) (fun _ => .inr (.inr rfl)) _
      rw [hwF] at e8 e9 e10 hKF ⊢
      have HFIN : Hid (SWrE P X w0 w a cb bf k m n p o l go gl ct fs np t i xs sts A3 c3 wF) := Lib.hid (by
        have hq := HQ.out
        have h3 := HS3.out
        have h5 := HS5.out
        have h7 := HS7.out
        have h8 := HS8.out
        have hk := HK.out.2
        have hf := hKF.size
        have hw0 : w0.heap.size ≤ w.heap.size := HH.out.bel.size
        refine ⟨hc3, fun j => w2.heap.size ≤ j ∧ j < w3.heap.size, ?_, fun j hj => by omega, ?_, ?_, ?_⟩
        · exact ((HK.out.rd IntR.stable HR8.out (fun j hj => .inl (HXX.out.1 j (HX1.out.2.1 j hj)))).keep IntR.stable hKF (fun j hj e => by have h1 : w2.heap.size ≤ j := hj.1; omega))
        · exact (HP8.out.kp HK.out (fun j hj => .inr (HPB.out j hj))).keep hKF (fun j hj e => by have h1 := HH.out.ltP (HPB.out j hj); omega)
        · exact (HM.out.own hKF (fun j hj => by
            rcases hj with rfl | rfl | rfl
            · exact ⟨HXX.out.1 _ HX1.out.2.2.2.1, by omega⟩
            · exact ⟨HXX.out.1 _ HX1.out.2.2.2.2.1, by omega⟩
            · exact ⟨HXX.out.1 _ HX1.out.2.2.2.2.2, by omega⟩)).sub (fun j hj => hj.elim (fun h => HXX.out.1 j (HX1.out.1 j h)) (fun h => HXX.out.1 j (HX1.out.2.1 j h)))
        · exact (HKX8.out.trans (HK.out.mono fun j hj => .inl (HXX.out.1 j (HX1.out.1 j hj)))).trans ⟨fun j hj => hKF.block j (by have := HH.out.lt hj; omega) (by have := HH.out.lt hj; omega), hf⟩)
      clear hwF hKF
      simp [Leaves, settle, results, Tryz.results116, go_sem, e8, e9, e10]
      exact ⟨A3, c3, rfl, HFIN.out⟩
end
end Go.Proofs.YtcliejdiaohamaaGreat

set_option linter.unusedSimpArgs false
set_option linter.unusedVariables false
namespace Go.Proofs.YtcliejdiaohamaaGreat
open Go.RowKit Go.Cib
attribute [local go_sem] cell_set Later.cell Later.frozen Grw.cell Grw.frozen
section
variable {P X S : Nat → Prop} {w0 w w' : World} {a p o l go gl ct fs np n cb bf k m t : Nat} {sts : List DSt}
end
end Go.Proofs.YtcliejdiaohamaaGreat
