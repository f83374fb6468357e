/-
  What comes back of any rows, or why nothing does.
  Arguments as readings; the last step of a law's proof.
  Bytes, numbers and rows of bytes among the arguments.
  Rows of bytes among the arguments.
-/
import Derived.Test.YthhljmlpjnkfgaaGreatDt9
import Derived.Test.YthhljmlpjnkfgaaGreatDt7
import Derived.Test.YthhljmlpjnkfgaaGreatDt1
import Derived.ProofKit
import Derived.OpenShut
import Derived.Deep.Slices
import Derived.Deep.Fields
import Derived.Carry
import Derived.ChangeSame
import Derived.Test.YthhljmlpjnkfgaaGreatDt2
import Derived.Test.YthhljmlpjnkfgaaGreatDt5
set_option linter.unusedSimpArgs false
set_option linter.unusedVariables false
namespace Go.Proofs.YthhljmlpjnkfgaaGreat
open Go.RowKit Go.Cib
attribute [local go_sem] cell_set Later.cell Later.frozen Grw.cell Grw.frozen
/-- What is answered, either way. -/
def AnsE (w : World) (k m N nr : Nat) (ss : Rws) (e : Ending) (w' : World) : Prop := Below w.heap.size w w' ∧
  ∃ A c, e = .returned (.tuple #[.slice A (if rightF k m N ss = 0 then nr else 0) c, .int .i64 (rightF k m N ss)]) ∧ RdL RowR 1 (fun _ => True) w' A (if rightF k m N ss = 0 then nr else 0) (if rightF k m N ss = 0 then outF k N nr ss else []) ∧ (if rightF k m N ss = 0 then nr else 0) ≤ c
theorem fil_ans {w w' : World} {k m N nr : Nat} {ss : Rws} {e : Ending} (h : FilE w k m N nr ss e w') : AnsE w k m N nr ss e w' := by
  obtain ⟨hb, ⟨h1, rfl⟩ | ⟨h1, h2, rfl⟩ | ⟨h1, h2, g, rfl, hr⟩⟩ := h
  · have e : rightF k m N ss = 2 := by unfold rightF; rw [if_pos h1]
    refine ⟨hb, none, 0, ?_, ?_, ?_⟩
    · rw [e]; rfl
    · rw [e]; exact RdL.nil
    · rw [e]; exact Nat.le_refl _
  · have e : rightF k m N ss = 60 := by unfold rightF; rw [if_neg (by rw [h1]; simp), if_pos h2]
    refine ⟨hb, none, 0, ?_, ?_, ?_⟩
    · rw [e]; rfl
    · rw [e]; exact RdL.nil
    · rw [e]; exact Nat.le_refl _
  · have e : rightF k m N ss = 0 := by unfold rightF; rw [if_neg (by rw [h1]; simp), if_neg h2]
    refine ⟨hb, some ⟨g, 0, none⟩, nr, ?_, ?_, ?_⟩
    · rw [e]; rfl
    · rw [e]; exact hr.weaken RowR.stable fun _ _ => trivial
    · rw [e]; exact Nat.le_refl _
theorem dat_ans {w w' : World} {k m N : Nat} {ss : Rws} {e : Ending} (h : DatE w k m N ss e w') : AnsE w k m N k ss e w' := by
  obtain ⟨hb, ⟨h1, rfl⟩ | ⟨h1, g, rfl, hr⟩⟩ := h
  · refine ⟨hb, none, 0, ?_, ?_, ?_⟩
    · rw [if_neg h1]
    · rw [if_neg h1, if_neg h1]; exact RdL.nil
    · rw [if_neg h1]; exact Nat.le_refl _
  · refine ⟨hb, some ⟨g, 0, none⟩, k, ?_, ?_, ?_⟩
    · rw [if_pos h1, h1]
    · rw [if_pos h1, if_pos h1]; exact hr
    · rw [if_pos h1]; exact Nat.le_refl _
theorem ral_ans {w w' : World} {k m N : Nat} {ss : Rws} {e : Ending} (h : RalE w k m N ss e w') : AnsE w k m N (k + m) ss e w' := by
  obtain ⟨hb, ⟨h1, rfl⟩ | ⟨h1, A, c, rfl, hc, hr⟩⟩ := h
  · refine ⟨hb, none, 0, ?_, ?_, ?_⟩
    · rw [if_neg h1]
    · rw [if_neg h1, if_neg h1]; exact RdL.nil
    · rw [if_neg h1]; exact Nat.le_refl _
  · refine ⟨hb, A, c, ?_, ?_, ?_⟩
    · rw [if_pos h1, h1]
    · rw [if_pos h1, if_pos h1]; exact hr
    · rw [if_pos h1]; exact hc
set_option maxRecDepth 100000 in
set_option maxHeartbeats 16000000 in
theorem tells_any {w : World} {z0 z1 : Int} {A2 : Option Addr} {n2 c2 : Nat} {ss : Rws} (R2 : RdL RowR 1 (fun _ => True) w A2 n2 ss) :
    Calls Tryz.prog 4 #[.int .i64 z0, .int .i64 z1, .slice A2 n2 c2] w fun e w' => e = .returned (.bool true) ∧ Below w.heap.size w w' := by
  have H2 := Lib.hid R2
  have hrl := R2.1
  clear R2
  have hmay := fun w => may_any (w := w) z0 z1
  go_enter Tryz.func4, Tryz.ntmps4
  go_wp2_with fail
  refine fldnew_any.mono ?_
  rintro e w1 ⟨rfl, hF, hb1⟩
  have hs1 := hb1.size
  by_cases hok : 1 ≤ z0 ∧ 1 ≤ z1 ∧ z0 ≤ 255 ∧ z1 ≤ 255 - z0
  · rw [show mayB z0 z1 = true from decide_eq_true hok] at hmay
    obtain ⟨k, rfl⟩ : ∃ k : Nat, z0 = (k : Int) := ⟨z0.toNat, by omega⟩
    obtain ⟨m, rfl⟩ : ∃ m : Nat, z1 = (m : Int) := ⟨z1.toNat, by omega⟩
    have k1 : 1 ≤ k := by omega
    have m1 : 1 ≤ m := by omega
    have km : k + m ≤ 255 := by omega
    have hnew := new_any (k := k) (m := m) hF k1 m1 km
    clear hok
    go_wp2_with fail
    refine hnew.mono ?_
    rintro e w2 ⟨cb, rfl, hC, hk⟩
    have hb2 : Below w.heap.size w w2 := hb1.trans (Keep.below hk hb1.size (fun k hk => by rw [hk]; exact Nat.le_refl _))
    have HC := Lib.hid hC
    have HB2 := Lib.hid hb2
    clear hF hb1 hnew hC hk hb2
    have q0 : (0 : Int) ≤ (k : Int) := Int.natCast_nonneg _
    have q1 : (0 : Int) ≤ (m : Int) := Int.natCast_nonneg _
    have q2 : (k : Int) + (m : Int) ≤ 255 := by omega
    have hdc := decodes_any (w := w2)
    go_wp2_with fail
    refine (hmay w2).mono ?_
    rintro e w3 ⟨rfl, hw3⟩
    rw [hw3]
    clear hw3 hmay
    by_cases hbig : (k : Int) + (m : Int) > 16
    · go_wp2_with fail
      refine hdc.mono ?_
      rintro e w3 ⟨rfl, hb3⟩
      go_wp2_with fail
      go_ret
      exact ⟨rfl, HB2.out.trans (hb3.mono HB2.out.size)⟩
    · have hN : k + m ≤ 16 := by omega
      have h22 := H2.out.below RowR.stable HB2.out
      have hfw := looksFew_any (c := c2) h22 0
      obtain ⟨B, hB⟩ : ∃ B, fewB ss n2 = B := ⟨_, rfl⟩
      rw [hB] at hfw
      have HBB := Lib.hid hB
      have H22 := Lib.hid h22
      clear hB h22
      cases B with
      | false =>
        go_wp2_with fail
        refine hfw.mono ?_
        rintro e w3 ⟨rfl, hw3⟩
        rw [hw3]
        clear hw3 hfw
        go_wp2_with fail
        refine hdc.mono ?_
        rintro e w3 ⟨rfl, hb3⟩
        go_wp2_with fail
        go_ret
        exact ⟨rfl, HB2.out.trans (hb3.mono HB2.out.size)⟩
      | true =>
        clear hdc
        obtain ⟨hn2, hlen⟩ := fewB_ok hrl HBB.out
        have hlen2 : ∀ i, lenF ss i ≤ 1000000 := fun i => Nat.le_trans (hlen i) (by omega)
        have HL2 := Lib.hid hlen2
        have hinj : thBad k m n2 ss = false → ¬ (thU ss n2).length < k → Inj k (useF k (useT k n2 ss)) := fun h1 h2 => by
          obtain rfl := (use_ok h1 h2 k1).1
          exact inj_useT h1 h2 k1 km
        have HINJ := Lib.hid hinj
        have hda := ddata_any (cs := c2) HC.out H22.out (by omega) hlen2 (Lib.hid hinj)
        obtain ⟨rv, hrv⟩ : ∃ r, rightF k m n2 ss = r := ⟨_, rfl⟩
        have HRV := Lib.hid hrv
        have hl1 : (if rv = 0 then k else 0) ≤ 1000 := by split <;> omega
        have hl2 : (if rv = 0 then k + m else 0) ≤ 1000 := by split <;> omega
        obtain ⟨l1, hl1e⟩ : ∃ l, (if rv = 0 then k else 0) = l := ⟨_, rfl⟩
        obtain ⟨l2, hl2e⟩ : ∃ l, (if rv = 0 then k + m else 0) = l := ⟨_, rfl⟩
        obtain ⟨R1, hR1⟩ : ∃ R : Rws, (if rv = 0 then outF k n2 k ss else []) = R := ⟨_, rfl⟩
        obtain ⟨R3, hR3⟩ : ∃ R : Rws, (if rv = 0 then outF k n2 (k + m) ss else []) = R := ⟨_, rfl⟩
        have hA1 : ∀ {w e w'}, AnsE w k m n2 k ss e w' → Below w.heap.size w w' ∧ ∃ A c, e = .returned (.tuple #[.slice A l1 c, .int .i64 rv]) ∧ RdL RowR 1 (fun _ => True) w' A l1 R1 ∧ l1 ≤ c := fun h => by
          unfold AnsE at h
          rw [hrv, hl1e, hR1] at h
          exact h
        have hA2 : ∀ {w e w'}, AnsE w k m n2 (k + m) ss e w' → Below w.heap.size w w' ∧ ∃ A c, e = .returned (.tuple #[.slice A l2 c, .int .i64 rv]) ∧ RdL RowR 1 (fun _ => True) w' A l2 R3 ∧ l2 ≤ c := fun h => by
          unfold AnsE at h
          rw [hrv, hl2e, hR3] at h
          exact h
        have HA1 := fun w e w' => Lib.hid (@hA1 w e w')
        have HA2 := fun w e w' => Lib.hid (@hA2 w e w')
        rw [hl1e] at hl1
        rw [hl2e] at hl2
        clear hlen hlen2 HBB hinj hrv hl1e hl2e hR1 hR3 hA1 hA2
        go_wp2_with fail
        refine hfw.mono ?_
        rintro e w3 ⟨rfl, hw3⟩
        rw [hw3]
        clear hw3 hfw
        go_wp2_with fail
        refine hda.mono ?_
        clear hda
        rintro e w3 h3
        obtain ⟨hb3, A3, c3, rfl, hr3, _⟩ := (HA1 _ _ _).out (fil_ans h3)
        clear h3
        have hrd := rdata_any (c := c2) (H22.out.below RowR.stable hb3) (by omega) HL2.out k1 km
        have HR3 := Lib.hid hr3
        have HB3 := Lib.hid hb3
        clear hr3 hb3
        go_wp2_with fail
        refine hrd.mono ?_
        clear hrd
        rintro e w4 h4
        obtain ⟨hb4, A4, c4, rfl, hr4, _⟩ := (HA1 _ _ _).out (dat_ans h4)
        clear h4
        have HR34 := Lib.hid (HR3.out.below RowR.stable hb4)
        have HR4 := Lib.hid hr4
        have HB4 := Lib.hid (HB3.out.trans (hb4.mono HB3.out.size))
        clear hr4 hb4 HR3 HB3
        have hal := dall_any (cs := c2) (HC.out.below HB4.out) (H22.out.below RowR.stable HB4.out) (by omega) HL2.out HINJ
        go_wp2_with fail
        refine hal.mono ?_
        clear hal
        rintro e w5 h5
        obtain ⟨hb5, A5, c5, rfl, hr5, _⟩ := (HA2 _ _ _).out (fil_ans h5)
        clear h5
        have HR35 := Lib.hid (HR34.out.below RowR.stable hb5)
        have HR45 := Lib.hid (HR4.out.below RowR.stable hb5)
        have HR5 := Lib.hid hr5
        have HB5 := Lib.hid (HB4.out.trans (hb5.mono HB4.out.size))
        clear hr5 hb5 HR34 HR4 HB4
        have hra := rall_any (c := c2) (H22.out.below RowR.stable HB5.out) (by omega) HL2.out k1 km
        go_wp2_with fail
        refine hra.mono ?_
        clear hra
        rintro e w6 h6
        obtain ⟨hb6, A6, c6, rfl, hr6, _⟩ := (HA2 _ _ _).out (ral_ans h6)
        clear h6
        have hs1 := same5_any (ca := c3) (cb := c4) (HR35.out.below RowR.stable hb6) (HR45.out.below RowR.stable hb6) hl1
        have HR56 := Lib.hid (HR5.out.below RowR.stable hb6)
        have HR6 := Lib.hid hr6
        have HB6 := Lib.hid (HB5.out.trans (hb6.mono HB5.out.size))
        have q9 : (rv == rv) = true := by simp
        clear hr6 hb6 HR35 HR45 HR5 HB5
        go_wp2_with fail
        refine hs1.mono ?_
        clear hs1
        rintro e w7 ⟨rfl, hb7⟩
        have hs2 := same5_any (ca := c5) (cb := c6) (HR56.out.below RowR.stable hb7) (HR6.out.below RowR.stable hb7) hl2
        have HB7 := Lib.hid (HB6.out.trans (hb7.mono HB6.out.size))
        clear hb7 HR56 HR6 HB6
        go_wp2_with fail
        refine hs2.mono ?_
        clear hs2
        rintro e w8 ⟨rfl, hb8⟩
        have hdc := decodes_any (w := w8)
        have HB8 := Lib.hid (HB2.out.trans ((HB7.out.trans (hb8.mono HB7.out.size)).mono HB2.out.size))
        clear hb8 HB7
        go_wp2_with fail
        refine hdc.mono ?_
        clear hdc
        rintro e w9 ⟨rfl, hb9⟩
        go_wp2_with fail
        go_ret
        exact ⟨by first | rfl | simp, HB8.out.trans (hb9.mono HB8.out.size)⟩
  · rw [show mayB z0 z1 = false from decide_eq_false hok] at hmay
    have hnew := new_bad (w := w1) (f := .pointer (some ⟨w.heap.size, 0, none⟩)) hok
    clear hok
    go_wp2_with fail
    refine hnew.mono ?_
    rintro e w2 ⟨rfl, rfl⟩
    have hdc := decodes_any (w := w2)
    go_wp2_with fail
    refine (hmay w2).mono ?_
    rintro e w3 ⟨rfl, hw3⟩
    rw [hw3]
    clear hw3
    go_wp2_with fail
    refine hdc.mono ?_
    rintro e w3 ⟨rfl, hb3⟩
    go_wp2_with fail
    go_ret
    exact ⟨rfl, hb1.trans (hb3.mono hb1.size)⟩
end Go.Proofs.YthhljmlpjnkfgaaGreat

set_option linter.unusedSimpArgs false
set_option linter.unusedVariables false
namespace Go.Cib
open Go.RowKit Go.ChangeShapes Go.WideShapes Go.Deep

section
variable {P : Program} {X : Type}

/-- What reads as data of type t reads by R. -/
def Opens (P : Program) (t : TypeId) (R : (Nat → Prop) → World → List Value → X → Prop) (s : Nat) : Prop :=
  P.cellsOf t = s ∧ 0 < s ∧ ∀ (H : Type) (enc : TypeId × Value → H) (w : World) (base : Nat) (spare : Nat → Bool) (held : Bool) (fuel : Nat) (cs : List Value) (x : DataW H × List MemPlace),
    cs.length = s → DataW.trod enc P w base spare held fuel t cs = some x → ∃ y : X, R (fun _ => True) w cs y

theorem opens_int {t : TypeId} (h : P.underlying t = some (.int .i64)) (hc : P.cellsOf t = 1) : Opens P t IntR 1 :=
  ⟨hc, by omega, fun H enc w base spare held fuel cs x _ hx => by
    obtain ⟨n, rfl, _, _⟩ := DataW.trod_int h hx
    exact ⟨n, rfl⟩⟩
theorem opens_u64 {t : TypeId} (h : P.underlying t = some (.int .u64)) (hc : P.cellsOf t = 1) : Opens P t U64R 1 :=
  ⟨hc, by omega, fun H enc w base spare held fuel cs x _ hx => by
    obtain ⟨n, rfl, _, _⟩ := DataW.trod_int h hx
    exact ⟨n, rfl⟩⟩

theorem opens_slice {R : (Nat → Prop) → World → List Value → X → Prop} {t e : TypeId} {s : Nat} (ht : P.underlying t = some (.slice e)) (ho : Opens P e R s) {H : Type} {enc : TypeId × Value → H} {w : World} {base : Nat} {spare : Nat → Bool} {held : Bool} {fuel : Nat} {cs : List Value} {x : DataW H × List MemPlace}
    (h : DataW.trod enc P w base spare held fuel t cs = some x) : ∃ A n c xs, cs = [.slice A n c] ∧ n ≤ c ∧ c ≤ maxLen ∧ RdL R s (fun _ => True) w A n xs := by
  obtain ⟨hs, hpos, hR⟩ := ho
  rcases open_slice ht h with ⟨rfl, _⟩ | ⟨a, len, cap, m, n, D, Pl, rfl, hb, hl, hm, hmm, hx, hi⟩
  · exact ⟨none, 0, 0, [], rfl, Nat.le_refl _, by simp [maxLen], RdL.nil⟩
  · have hlm : len ≤ m := by rw [hmm]; split <;> omega
    rw [hs] at hi
    have hel : ∀ i, i < len → ∃ (cs' : List Value) (y : X), cs'.length = s ∧ R (fun _ => True) w cs' y ∧ ∀ j v, cs'[j]? = some v → w.cell? ((a.add (i * s)).add j) = some v := by
      intro i hil
      obtain ⟨cs', h1, h2⟩ := hi i (by omega)
      obtain ⟨_, h3, h4⟩ := World.cells?_some h1
      obtain ⟨y, hy⟩ := hR _ _ _ _ _ _ _ _ _ h3 h2
      exact ⟨cs', y, h3, hy, fun j v hj => by
        have hjl := (List.getElem?_eq_some_iff.1 hj).1
        rw [h4 j (by omega), hj]⟩
    rcases Nat.eq_zero_or_pos len with h0 | h0
    · subst h0
      exact ⟨some a, 0, cap, [], rfl, hl, hm, RdL.nil⟩
    · have hspot : a.spot = none := by
        obtain ⟨cs', y, h1, _, h2⟩ := hel 0 h0
        have h3 := h2 0 (cs'[0]'(by omega)) (List.getElem?_eq_getElem (by omega))
        simp only [Nat.zero_mul, Addr.add, if_true] at h3
        unfold World.cell? at h3
        split at h3
        · split at h3
          · cases h3
          · rename_i hs; simpa using hs
        · cases h3
      obtain ⟨b, o, sp⟩ := a
      simp only at hspot
      subst hspot
      have hxs : ∀ k, k ≤ len → ∃ xs : List X, xs.length = k ∧ ∀ i y, xs[i]? = some y → ∃ cs' : List Value, cs'.length = s ∧ R (fun _ => True) w cs' y ∧ ∀ j v, cs'[j]? = some v → w.cell? ⟨b, o + i * s + j, none⟩ = some v := by
        intro k
        induction k with
        | zero => exact fun _ => ⟨[], rfl, by simp⟩
        | succ k ih =>
          intro hk
          obtain ⟨xs, e1, e2⟩ := ih (by omega)
          obtain ⟨cs', y, h1, h2, h3⟩ := hel k (by omega)
          refine ⟨xs ++ [y], by simp [e1], fun i y' hy' => ?_⟩
          by_cases hik : i < k
          · rw [List.getElem?_append_left (by omega)] at hy'
            exact e2 i y' hy'
          · have hie : i = k := by
              have := (List.getElem?_eq_some_iff.1 hy').1
              simp [e1] at this; omega
            subst hie
            rw [List.getElem?_append_right (by omega)] at hy'
            simp only [e1, Nat.sub_self, List.getElem?_cons_zero, Option.some.injEq] at hy'
            subst hy'
            exact ⟨cs', h1, h2, fun j v hj => by have := h3 j v hj; rw [Addr.add_lit, Addr.add_lit] at this; exact this⟩
      obtain ⟨xs, e1, e2⟩ := hxs len (Nat.le_refl _)
      obtain ⟨cs', y, h1, _, h3⟩ := hel 0 h0
      have hblt : b < w.heap.size := by
        have := h3 0 (cs'[0]'(by omega)) (List.getElem?_eq_getElem (by omega))
        have := World.block_lt_of_cell? w _ this
        simpa [Addr.add_lit] using this
      exact ⟨some ⟨b, o, none⟩, len, cap, xs, rfl, hl, hm, e1, fun _ => ⟨b, o, rfl, trivial, hblt, e2⟩⟩

/-- A slice among the arguments. -/
theorem open_rd {R : (Nat → Prop) → World → List Value → X → Prop} {t e : TypeId} {s : Nat} (ht : P.underlying t = some (.slice e)) (ho : Opens P e R s) {H : Type} {enc : TypeId × Value → H} {w : World} {base b0 : Nat} {spare : Nat → Bool} {held : Bool} {r : Reach} {v : Value} {d : DataW H} {ps : List MemPlace}
    (hval : Value.okWide P w r b0 t v) (h : DataW.Trod enc P w base spare held t v d ps) : ∃ A n c xs, v = .slice A n c ∧ n ≤ c ∧ c ≤ maxLen ∧ RdL R s (fun _ => True) w A n xs := by
  obtain ⟨A, n, c, rfl⟩ := okWide_slice ht hval
  obtain ⟨fuel, hf⟩ := h
  obtain ⟨A', n', c', xs, e1, e2, e3, e4⟩ := opens_slice ht ho hf
  simp only [Value.cells, List.cons.injEq, and_true, Value.slice.injEq] at e1
  obtain ⟨rfl, rfl, rfl⟩ := e1
  exact ⟨A, n, c, xs, rfl, e2, e3, e4⟩
end

section
variable {H : Type} {enc : TypeId × Value → H} {P : Program}

theorem trodAll_stays (hl : laidOutB P = true) {W W' : World} (hb : Below W.heap.size W W') : ∀ (ts : List TypeId) (vs : List Value) (ds : List (DataW H)) (ps : List MemPlace), (∀ t ∈ ts, P.readableRec t = true ∧ t < P.types.size) → (∀ x ∈ ps, x.block < W.heap.size) →
    DataW.TrodAll enc P W 0 (fun _ => true) true ts vs ds ps → DataW.TrodAll enc P W' 0 (fun b => decide (b < W.heap.size)) true ts vs ds ps
  | [], vs, ds, ps, _, _, h => by
    obtain ⟨rfl, rfl, rfl⟩ := trodAll_nil h
    exact trodAll_mk0
  | t :: ts, vs, ds, ps, hr, hlt, h => by
    obtain ⟨v, vs', d, ds', p, q, rfl, rfl, rfl, hd, hrest⟩ := trodAll_cons h
    have h1 := Below.trod hl (hr t (by simp)).1 (hr t (by simp)).2 hd hb (fun x hx => hlt x (by simp [hx]))
    have h2 := trodAll_stays hl hb ts vs' ds' q (fun u hu => hr u (List.mem_cons_of_mem _ hu)) (fun x hx => hlt x (by simp [hx])) hrest
    exact trodAll_cons_mk h1 h2

/-- The end of a law's proof: it answered true, and what was there is as it was. -/
theorem law_post {f : Func} {s : ChangeSpec} {W W' : World} {args : Array Value} {ds gs : List (DataW H)} {before : List MemPlace} {tb : TypeId} (hl : laidOutB P = true) (hr : ∀ t ∈ f.params.toList, P.readableRec t = true ∧ t < P.types.size)
    (hres : f.resultTypes = #[tb]) (htb : P.underlying tb = some .bool) (hvars : s.vars = []) (hfn : (s.fn H (ds ++ gs)).results = [.lit (.bool true)] ∧ (s.fn H (ds ++ gs)).args = ds ∧ (s.fn H (ds ++ gs)).vars = [])
    (hW : DataW.Whole enc P f.params.toList s.vars false W args.toList ds gs before) (hb : Below W.heap.size W W') :
    s.post enc P f false true false false W args (.bool true) W' := by
  have hlt : ∀ p ∈ before, p.block < W.heap.size := fun p hp => hW.lt p hp
  have hW2 := hW
  obtain ⟨p, q, hA, hV, rfl, hz, hn⟩ := hW2
  rw [hvars] at hV
  obtain ⟨rfl, rfl⟩ := trodVars_none hV
  simp only [List.append_nil] at hlt hfn hz hW ⊢
  have hargs := trodAll_stays hl hb _ _ _ _ hr hlt hA
  have hr1 : ∀ (b : Nat) (sp : Nat → Bool) (hd : Bool), DataW.TrodAll enc P W' b sp hd f.resultTypes.toList ((Value.bool true).resultList f.resultTypes.size) (s.fn H ds).results [] := fun b sp hd => by
    rw [hres, hfn.1]
    exact trodAll_mk1 (shut_bool htb true)
  refine ⟨ds, [], p, [], p, [], hW, by rw [List.append_nil]; exact hr1 _ _ _, by rw [List.append_nil, hfn.2.1]; exact hargs, by rw [List.append_nil, hvars, hfn.2.2]; exact rfl, World.keptBut_mono (fun x hx => ⟨hx, .inr (.inl hx)⟩) (hb.frame (· ∈ p)), fun h => by cases h⟩
end
end Go.Cib

set_option linter.unusedSimpArgs false
set_option linter.unusedVariables false
namespace Go.Proofs.YthhljmlpjnkfgaaGreat
open Go.RowKit Go.Cib
attribute [local go_sem] cell_set Later.cell Later.frozen Grw.cell Grw.frozen
open Go.ChangeShapes Go.WideShapes Go.ChangeAt Go.Deep

theorem laidOut_ : laidOutB Tryz.prog = true := by kernel_rfl
theorem ownKnob_ : ownKnob Tryz.prog.godebug = none := by kernel_rfl
theorem opens_by : Opens Tryz.prog 5 ByR 1 :=
  ⟨by kernel_rfl, by omega, fun H enc w base spare held fuel cs x _ hx => by
    obtain ⟨n, rfl, _, hw⟩ := DataW.trod_int Tryz.underlying5 hx
    have h2 : 0 ≤ n ∧ n ≤ 255 := by
      simp [Lit.wf, IntKind.min, IntKind.max, IntKind.signed, IntKind.bits] at hw
      omega
    exact ⟨n.toNat, by omega, by rw [show ((n.toNat : Nat) : Int) = n by omega]⟩⟩
end Go.Proofs.YthhljmlpjnkfgaaGreat

set_option linter.unusedSimpArgs false
set_option linter.unusedVariables false
namespace Go.Proofs.YthhljmlpjnkfgaaGreat
open Go.RowKit Go.Cib
attribute [local go_sem] cell_set Later.cell Later.frozen Grw.cell Grw.frozen
open Go.ChangeShapes Go.WideShapes Go.ChangeAt Go.Deep

theorem opens_rowb : Opens Tryz.prog 29 RowR 1 :=
  ⟨by kernel_rfl, by omega, fun H enc w base spare held fuel cs x _ hx => by
    obtain ⟨A, n, c, xs, rfl, hnc, _, hr⟩ := opens_slice sl_by.und opens_by hx
    exact ⟨xs, A, n, c, rfl, hnc, hr⟩⟩
end Go.Proofs.YthhljmlpjnkfgaaGreat
