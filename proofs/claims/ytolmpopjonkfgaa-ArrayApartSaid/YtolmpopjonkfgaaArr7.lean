/-
  Drives side by side: Row.
-/
import Derived.Test.YtolmpopjonkfgaaArr6
set_option linter.unusedSimpArgs false
set_option linter.unusedVariables false
namespace Go.Proofs.Ytolmpopjonkfgaa
open Go.RowKit Go.Cib
attribute [local go_sem] cell_set Later.cell Later.frozen Grw.cell Grw.frozen

theorem makeRows (k : Nat) (hk : k ≤ 600) (w : World) : (Instr.makeSlice 63 (.int .i64 (k : Int)) (.int .i64 (k : Int))).run Try.prog w = .ok (.slice (some ⟨w.heap.size, 0, none⟩) k k) (w.alloc (.cells (List.replicate k (Value.slice none 0 0)).toArray 27)) := by
  obtain ⟨i, hi, hz, hs, hb⟩ := info_parts (show (Try.prog.info? 27).map (fun i => (i.zero, i.size, i.bytes)) = some (some (.slice none 0 0), 1, 24) by kernel_rfl)
  have h := run_make (P := Try.prog) w 63 27 i (.slice none 0 0) (by kernel_rfl) hi hz .i64 .i64 k k (by omega) (by omega) (by rw [hb]; omega) (by omega)
  simp only [Int.toNat_natCast, hs, Nat.mul_one] at h
  rw [h, List.toArray_replicate, show (Value.slice none 0 0).cells = Array.replicate 1 (.slice none 0 0) from rfl, madeCells_rep _ _ _ (by omega)]
/-- A row of bytes of the call's own, each cell still to be set. -/
def RowB (B : Nat) (w : World) (ob k : Nat) (xs : List (List Int)) : Prop := ∃ vs : List Value, BoxAt w ob vs.toArray ∧ vs.length = k ∧ xs.length = k ∧ ∀ (j : Nat) (v : Value) (x : List Int), vs[j]? = some v → xs[j]? = some x → ∃ A m c, v = .slice A m c ∧ RdL U8R 1 (fun b => B ≤ b ∧ b ≠ ob) w A m x
theorem RowB.new (B : Nat) (w : World) (k : Nat) (T : TypeId) : RowB B (w.alloc (.cells (List.replicate k (Value.slice none 0 0)).toArray T)) w.heap.size k (List.replicate k []) := by
  refine ⟨List.replicate k (.slice none 0 0), BoxAt.new _ _ _, by simp, by simp, fun j v x hv hx => ?_⟩
  have h1 := List.eq_of_mem_replicate (List.mem_of_getElem? hv)
  have h2 := List.eq_of_mem_replicate (List.mem_of_getElem? hx)
  subst h1; subst h2
  exact ⟨none, 0, 0, rfl, RdL.nil⟩
theorem RowB.below {B : Nat} {w w' : World} {ob k : Nat} {xs : List (List Int)} (h : RowB B w ob k xs) (hb : Below w.heap.size w w') : RowB B w' ob k xs := by
  obtain ⟨vs, h1, h2, h3, h4⟩ := h
  exact ⟨vs, h1.below hb, h2, h3, fun j v x hv hx => by
    obtain ⟨A, m, c, e, hr⟩ := h4 j v x hv hx
    exact ⟨A, m, c, e, hr.below U8R.stable hb⟩⟩
theorem RowB.set {B : Nat} {w : World} {ob k : Nat} {xs : List (List Int)} (h : RowB B w ob k xs) (j : Nat) {A : Option Addr} {m c : Nat} {x : List Int} (hr : RdL U8R 1 (fun b => B ≤ b ∧ b ≠ ob) w A m x) : RowB B (w.setCell ⟨ob, j, none⟩ (.slice A m c)) ob k (xs.set j x) := by
  obtain ⟨vs, h1, h2, h3, h4⟩ := h
  refine ⟨vs.set j (.slice A m c), ?_, by simp [h2], by simp [h3], fun i v y hv hy => ?_⟩
  · have := h1.set j (.slice A m c)
    simpa using this
  · by_cases hij : j = i
    · subst hij
      have hjl : j < vs.length := by simpa using (List.getElem?_eq_some_iff.1 hv).1
      rw [List.getElem?_set_self hjl] at hv
      rw [List.getElem?_set_self (by omega)] at hy
      injection hv with hv
      injection hy with hy
      subst hv; subst hy
      exact ⟨A, m, c, rfl, hr.setCell U8R.stable (p := ⟨ob, j, none⟩) (fun h => h.2 rfl) _⟩
    · rw [List.getElem?_set_ne hij] at hv hy
      obtain ⟨A', m', c', e, hr'⟩ := h4 i v y hv hy
      exact ⟨A', m', c', e, hr'.setCell U8R.stable (p := ⟨ob, j, none⟩) (fun h => h.2 rfl) _⟩
theorem RowB.rd {B : Nat} {w : World} {ob k : Nat} {xs : List (List Int)} (h : RowB B w ob k xs) (hB : B ≤ ob) : RdL BytesR 1 (B ≤ ·) w (some ⟨ob, 0, none⟩) k xs := by
  obtain ⟨vs, h1, h2, h3, h4⟩ := h
  refine ⟨h3, fun _ => ⟨ob, 0, rfl, hB, h1.lt, fun i x hx => ?_⟩⟩
  have hi : i < vs.length := by rw [h2, ← h3]; exact (List.getElem?_eq_some_iff.1 hx).1
  obtain ⟨A, m, c, e, hr⟩ := h4 i _ x (List.getElem?_eq_getElem hi) hx
  refine ⟨[vs[i]], rfl, ⟨A, m, c, by rw [e], hr.weaken U8R.stable (fun b hb => hb.1)⟩, fun j v hj => ?_⟩
  match j, hj with
  | 0, hj =>
    simp only [List.getElem?_cons_zero, Option.some.injEq] at hj
    subst hj
    rw [h1.cell]
    simp [hi]
def rowTo (s : Nat) (z : Int) (i : Nat) (sts : List DSt) : List (List Int) := sts.mapIdx (fun j st => if j < i then readL st s z else [])
theorem rowTo_get (s : Nat) (z : Int) (i : Nat) (sts : List DSt) (j : Nat) : (rowTo s z i sts)[j]? = (sts[j]?).map (fun st => if j < i then readL st s z else []) := by simp [rowTo]
theorem rowTo_len (s : Nat) (z : Int) (i : Nat) (sts : List DSt) : (rowTo s z i sts).length = sts.length := by simp [rowTo]
theorem rowTo_zero (s : Nat) (z : Int) (sts : List DSt) : rowTo s z 0 sts = List.replicate sts.length [] := by
  apply List.ext_getElem?
  intro j
  rw [rowTo_get, List.getElem?_replicate]
  by_cases h : j < sts.length
  · rw [List.getElem?_eq_getElem h]; simp [h]
  · rw [List.getElem?_eq_none (by omega)]; simp [h]
theorem rowTo_succ (s : Nat) (z : Int) (i : Nat) (sts : List DSt) {st : DSt} (h : sts[i]? = some st) : (rowTo s z i sts).set i (readL st s z) = rowTo s z (i + 1) sts := by
  apply List.ext_getElem?
  intro j
  rw [rowTo_get]
  by_cases hj : i = j
  · subst hj
    rw [List.getElem?_set_self (by rw [rowTo_len]; exact (List.getElem?_eq_some_iff.1 h).1), h]; simp
  · rw [List.getElem?_set_ne hj, rowTo_get]
    cases sts[j]? with
    | none => rfl
    | some y =>
      simp only [Option.map_some, Option.some.injEq]
      by_cases h1 : j < i
      · rw [if_pos h1, if_pos (by omega)]
      · rw [if_neg h1, if_neg (by omega)]
theorem rowTo_all (s : Nat) (z : Int) (sts : List DSt) : rowTo s z sts.length sts = sts.map (fun st => readL st s z) := by
  apply List.ext_getElem?
  intro j
  rw [rowTo_get, List.getElem?_map]
  cases h : sts[j]? with
  | none => rfl
  | some y =>
    have := (List.getElem?_eq_some_iff.1 h).1
    simp [this]
section
variable {U : Nat → Prop} {w : World} {a s : Nat} {v : Value} {Fs : Nat → Nat → Prop} {ps : List Nat} {sts : List DSt}
def RowE (w : World) (s : Nat) (z : Int) (sts : List DSt) (e : Ending) (w' : World) : Prop := ∃ ob, e = .returned (.slice (some ⟨ob, 0, none⟩) sts.length sts.length) ∧ RdL BytesR 1 (w.heap.size ≤ ·) w' (some ⟨ob, 0, none⟩) sts.length (sts.map (fun st => readL st s z)) ∧ Below w.heap.size w w'
set_option maxRecDepth 100000 in
set_option maxHeartbeats 4000000 in
theorem arow_any (h : Hid (ArrB U w a v Fs ps s sts)) (hk : 0 < sts.length) (hk2 : sts.length ≤ 600) (z : Int) :
    Calls Try.prog 36 #[.pointer (some ⟨a, 0, none⟩), .int .i64 z] w fun e w' => RowE w s z sts e w' := by
  go_enter Try.func36, Try.ntmps36
  go_wp2_with fail
  refine (an_any h hk).mono ?_
  rintro e w1 ⟨rfl, t1⟩
  have hmk := makeRows sts.length hk2 w1
  have b1 := RowB.new w.heap.size w1 sts.length 27
  have a1 : Below w1.heap.size w1 (w1.alloc (.cells (List.replicate sts.length (Value.slice none 0 0)).toArray 27)) := (Below.refl _ _).alloc (Nat.le_refl _) _
  obtain ⟨w2, hw2⟩ : ∃ w2, w1.alloc (.cells (List.replicate sts.length (Value.slice none 0 0)).toArray 27) = w2 := ⟨_, rfl⟩
  obtain ⟨ob, hob⟩ : ∃ ob, w1.heap.size = ob := ⟨_, rfl⟩
  rw [hw2] at hmk b1 a1
  have a12 := below_then a1 t1
  have hob1 : w.heap.size ≤ ob := by rw [← hob]; exact t1.size
  rw [hob] at hmk b1
  have HB : Hid (RowB w.heap.size w2 ob sts.length (rowTo s z 0 sts)) := Lib.hid (by rw [rowTo_zero]; exact b1)
  have HK := Lib.hid a12
  clear b1 a1 a12 t1 hw2 hob
  go_wp2_with fail
  clear hmk
  go_loopw [12] (fun vi wr => ∃ i : Nat, i ≤ sts.length ∧ vi = .int .i64 i ∧ Hid (RowB w.heap.size wr ob sts.length (rowTo s z i sts)) ∧ Hid (Below w.heap.size w wr)) (fun vi _ => sts.length - (intOf vi).toNat)
  case atStart => exact ⟨0, Nat.zero_le _, rfl, HB, HK⟩
  case round =>
    clear HB HK
    obtain ⟨wo, rfl⟩ : ∃ wo, wo = wr := ⟨_, rfl⟩
    obtain ⟨i, hi, rfl, B, K⟩ := hrel
    by_cases hlt : i < sts.length
    · obtain ⟨st, hst⟩ : ∃ st, sts[i]? = some st := ⟨_, List.getElem?_eq_getElem hlt⟩
      have h1 : (i : Int) < (sts.length : Int) := by omega
      have h2 : (0 : Int) ≤ (i : Int) := Int.natCast_nonneg _
      have h3 : (i : Int) < 600 := by omega
      have HST := Lib.hid hst
      clear hst
      go_wp2_with fail
      refine (aread_in (Lib.hid (h.out.below K.out)) i HST.out z).mono ?_
      rintro e w3 ⟨A, m, c, rfl, r3, t3⟩
      have hol : ob < wo.heap.size := by obtain ⟨vs, hbx, _⟩ := B.out; exact hbx.lt
      have B2 := B.out.below t3
      have r3' : RdL U8R 1 (fun b => w.heap.size ≤ b ∧ b ≠ ob) w3 A m (readL st s z) := r3.weaken U8R.stable (fun b hb => ⟨Nat.le_trans K.out.size hb, by omega⟩)
      have B3 := B2.set (c := c) i r3'
      rw [rowTo_succ _ _ _ _ HST.out] at B3
      obtain ⟨vs, hbx, hvl, _⟩ := B2
      have z2 := hbx.frozen i
      have q2 : ∃ q, w3.cell? ⟨ob, i, none⟩ = some q := by
        rw [hbx.cell]
        exact ⟨_, Array.getElem?_eq_getElem (by simp; omega)⟩
      obtain ⟨q, q2⟩ := q2
      have HB3 := Lib.hid B3
      have K3 := Lib.hid ((below_then t3 K.out).setCell (p := ⟨ob, i, none⟩) hob1 (.slice A m c))
      clear B3 r3 r3' t3 hbx hvl
      go_wp2_with fail
      exact ⟨⟨i + 1, by omega, by go_num, HB3, K3⟩, by simp [intOf]; omega⟩
    · obtain rfl : i = sts.length := by omega
      have h1 : ¬ (sts.length : Int) < (sts.length : Int) := by omega
      go_wp2_with fail
      go_ret
      rw [rowTo_all] at B
      exact ⟨ob, rfl, B.out.rd hob1, K.out⟩
end
end Go.Proofs.Ytolmpopjonkfgaa
