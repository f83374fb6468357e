/-
  Plan: by which shards and factors a shard comes of others.
-/
import Derived.Test.YthhljmlpjnkfgaaGreatDec6
import Derived.Test.YthhljmlpjnkfgaaGreatSeq3
set_option linter.unusedSimpArgs false
set_option linter.unusedVariables false
namespace Go.Proofs.YthhljmlpjnkfgaaGreat
open Go.RowKit Go.Cib
attribute [local go_sem] cell_set Later.cell Later.frozen Grw.cell Grw.frozen

def usN (k : Nat) (xs : List Int) : List Nat := ((srtF xs).take k).map Int.toNat
theorem srt_perm (xs : List Int) : (srtF xs).Perm xs := List.mergeSort_perm _ _
theorem srt_len (xs : List Int) : (srtF xs).length = xs.length := (srt_perm xs).length_eq
theorem usN_len {k : Nat} {xs : List Int} (h : k ≤ xs.length) : (usN k xs).length = k := by unfold usN; rw [List.length_map, List.length_take, srt_len]; omega
theorem usN_ok {k n : Nat} {xs : List Int} (h : numOk n xs) : ∀ u ∈ usN k xs, u < n := fun u hu => by
  obtain ⟨x, hx, rfl⟩ := List.mem_map.1 hu
  have hm : x ∈ xs := (srt_perm xs).mem_iff.1 (List.mem_of_mem_take hx)
  have := h.1 x hm
  omega
theorem nat_of_int {S : Nat → Prop} {w : World} {A : Option Addr} {n : Nat} {l : List Int} (h : RdL IntR 1 S w A n l) (h0 : ∀ x ∈ l, 0 ≤ x) : RdL NatR 1 S w A n (l.map Int.toNat) := by
  refine ⟨by rw [List.length_map]; exact h.1, fun hn => ?_⟩
  obtain ⟨b, o, hA, hS, hlt, hc⟩ := h.2 hn
  refine ⟨b, o, hA, hS, hlt, fun i x hx => ?_⟩
  rw [List.getElem?_map] at hx
  cases hl : l[i]? with
  | none => rw [hl] at hx; cases hx
  | some y =>
    rw [hl] at hx
    injection hx with hx
    obtain ⟨cs, h1, h2, h3⟩ := hc i y hl
    have hy := h0 y (List.mem_of_getElem? hl)
    refine ⟨cs, h1, ?_, h3⟩
    show cs = [.int .i64 (x : Int)]
    rw [h2, ← hx]
    congr 2
    omega
def badP (k m : Nat) (xs : List Int) (want : Int) : Prop := want < 0 ∨ want ≥ ((k + m : Nat) : Int) ∨ ¬ numOk (k + m) xs
instance (k m : Nat) (xs : List Int) (want : Int) : Decidable (badP k m xs want) := inferInstanceAs (Decidable (_ ∨ _))
def PlanE (w : World) (k m n : Nat) (xs : List Int) (want : Int) (e : Ending) (w' : World) : Prop := Below w.heap.size w w' ∧
  ((badP k m xs want ∧ e = .returned (.tuple #[.slice none 0 0, .slice none 0 0, .int .i64 2])) ∨
   (¬ badP k m xs want ∧ n < k ∧ e = .returned (.tuple #[.slice none 0 0, .slice none 0 0, .int .i64 60])) ∨
   (¬ badP k m xs want ∧ ¬ n < k ∧ ∃ A c A2 c2, e = .returned (.tuple #[.slice A k c, .slice A2 k c2, .int .i64 0]) ∧ RdL NatR 1 (fun j => w.heap.size ≤ j) w' A k (usN k xs) ∧ RdL ByR 1 (fun j => w.heap.size ≤ j) w' A2 k (planF k (usN k xs) want.toNat)))
set_option maxRecDepth 100000 in
set_option maxHeartbeats 8000000 in
theorem dplan_any {w : World} {cb b k m n c : Nat} {A : Option Addr} {S : Nat → Prop} {xs : List Int} {want : Int} (H : CodAt w cb b k m) (R : RdL IntR 1 S w A n xs) (hn : n ≤ 1000000)
    (hI : Hid (¬ badP k m xs want → ¬ n < k → Inj k (useF k (usN k xs)))) :
    Calls Tryz.prog 12 #[.pointer (some ⟨cb, 0, none⟩), .slice A n c, .int .i64 want] w fun e w' => PlanE w k m n xs want e w' := by
  have HC := Lib.hid H
  have HR := Lib.hid R
  have hxl := R.1
  have hk1 := H.k1
  have hm1 := H.m1
  have hkm := H.km
  have q2 : (((k + m : Nat) : Int) == 0) = false := by simp; omega
  have q3 : (((k : Int) + (m : Int)) == 0) = false := by simp; omega
  have q4 : (n : Int) ≤ 1000000 := by omega
  have q5 : (k : Int) ≤ 255 := by omega
  have hN1 := cn_any H
  clear H R
  go_enter Tryz.func12, Tryz.ntmps12
  go_wp2_with fail
  refine hN1.mono ?_
  rintro e w1 ⟨rfl, hb1⟩
  have HB1 := Lib.hid hb1
  have hN2 := cn_any (HC.out.below hb1)
  clear hN1 hb1
  by_cases h1 : want < 0
  · have hbad : badP k m xs want := .inl h1
    have HBAD := Lib.hid hbad
    clear hbad hN2
    go_wp2_with fail
    go_ret3
    exact ⟨HB1.out, .inl ⟨HBAD.out, rfl⟩⟩
  · by_cases h2 : want ≥ ((k + m : Nat) : Int)
    · have hbad : badP k m xs want := .inr (.inl h2)
      have HBAD := Lib.hid hbad
      have h2' : want ≥ (k : Int) + (m : Int) := by omega
      clear hbad
      go_wp2_with (go_at_call 29; refine hN2.mono ?_; rintro e w2 ⟨rfl, hb2⟩; have HB2 := Lib.hid (HB1.out.trans (hb2.mono HB1.out.size)); clear hN2 hb2)
      go_ret3
      exact ⟨HB2.out, .inl ⟨HBAD.out, rfl⟩⟩
    · have h2' : ¬ want ≥ (k : Int) + (m : Int) := by omega
      go_wp2_with fail
      refine hN2.mono ?_
      rintro e w2 ⟨rfl, hb2⟩
      have HB2 := Lib.hid (HB1.out.trans (hb2.mono HB1.out.size))
      have hnu := numbers_any (c := c) (HC.out.below HB2.out) (HR.out.below IntR.stable HB2.out) hn
      clear hN2 hb2
      by_cases h3 : numOk (k + m) xs
      · rw [decide_eq_true h3] at hnu
        have hgood : ¬ badP k m xs want := fun h => h.elim (fun h => by omega) fun h => h.elim (fun h => by omega) fun h => h h3
        have HG := Lib.hid hgood
        have H3 := Lib.hid h3
        clear hgood h3
        go_wp2_with fail
        refine hnu.mono ?_
        rintro e w3 ⟨rfl, hb3⟩
        have HB3 := Lib.hid (HB2.out.trans (hb3.mono HB2.out.size))
        have hK := ck_any (HC.out.below HB3.out)
        clear hnu hb3
        by_cases h4 : n < k
        · have p4 : (n : Int) < (k : Int) := by omega
          go_wp2_with (go_at_call 31; refine hK.mono ?_; rintro e w9 ⟨rfl, hw9⟩; rw [hw9]; clear hw9 hK)
          go_ret3
          exact ⟨HB3.out, .inr (.inl ⟨HG.out, h4, rfl⟩)⟩
        · have p4 : ¬ (n : Int) < (k : Int) := by omega
          have hinj := hI.out HG.out h4
          have hbx := BoxAt.new w3 #[.slice A n c] 22
          have hba : Below w3.heap.size w3 (w3.alloc (.cells #[.slice A n c] 22)) := (Below.refl _ _).alloc (Nat.le_refl _) _
          obtain ⟨w4, hw4⟩ : ∃ w4, w3.alloc (.cells #[.slice A n c] 22) = w4 := ⟨_, rfl⟩
          have hva := values_any (w := w3) (A := A) (n := n) (c := c)
          rw [hw4] at hbx hba hva
          have HB4 := Lib.hid (HB3.out.trans (hba.mono HB3.out.size))
          have hso := sortedI_any (HR.out.below IntR.stable HB4.out) hn hbx
          have hs34 := HB3.out.size
          have HBA := Lib.hid hba
          have HIN := Lib.hid hinj
          clear hbx hba hw4 hinj
          go_wp2_with (first
            | (go_at_call 31; refine hK.mono ?_; rintro e w9 ⟨rfl, hw9⟩; rw [hw9]; clear hw9 hK)
            | (go_at_call 33; refine hva.mono ?_; rintro e w9 ⟨rfl, hw9⟩; rw [hw9]; clear hw9 hva))
          refine hso.mono ?_
          rintro e w5 ⟨A5, c5, rfl, hc5, hr5, hb5⟩
          have HB5 := Lib.hid (HB4.out.trans (hb5.mono HB4.out.size))
          have hs4 := HB4.out.size
          have hK5 := ck_any (HC.out.below HB5.out)
          have hp := fun w => piece_pre sl_intI (A := A5) (N := n) (c := c5) (k := k) (by omega) w
          have hru : RdL NatR 1 (fun j => w.heap.size ≤ j) w5 A5 k (usN k xs) := nat_of_int (RdL.take (hr5.weaken IntR.stable (S' := fun j => w.heap.size ≤ j) (fun j hj => Nat.le_trans hs4 hj)) (by omega)) (fun x hx => (H3.out.1 x ((srt_perm xs).mem_iff.1 (List.mem_of_mem_take hx))).1)
          have hww : want = ((want.toNat : Nat) : Int) := by omega
          have hpl := plan_any (c := c5) (HC.out.below HB5.out) hru (usN_ok H3.out) HIN.out (want := want.toNat) (by omega)
          rw [← hww] at hpl
          have HRU := Lib.hid hru
          have hs5 := HB5.out.size
          clear hso hr5 hb5 hru hww
          go_wp2_with (first
            | (go_at_call 31; refine hK5.mono ?_; rintro e w9 ⟨rfl, hw9⟩; rw [hw9]; clear hw9 hK5)
            | (go_at_call 34; refine hpl.mono ?_; rintro e w6 ⟨A6, c6, rfl, hc6, hr6, hb6⟩; have HR6 := Lib.hid (hr6.weaken ByR.stable (S' := fun j => w.heap.size ≤ j) (fun j hj => Nat.le_trans hs5 hj)); have HRU6 := Lib.hid (HRU.out.below NatR.stable hb6); have HB6 := Lib.hid (HB5.out.trans (hb6.mono HB5.out.size)); clear hpl hr6 hb6))
          go_ret3
          exact ⟨HB6.out, .inr (.inr ⟨HG.out, h4, A5, c5, A6, c6, rfl, HRU6.out, HR6.out⟩)⟩
      · rw [decide_eq_false h3] at hnu
        have hbad : badP k m xs want := .inr (.inr h3)
        have HBAD := Lib.hid hbad
        clear hbad h3
        go_wp2_with fail
        refine hnu.mono ?_
        rintro e w3 ⟨rfl, hb3⟩
        have HB3 := Lib.hid (HB2.out.trans (hb3.mono HB2.out.size))
        clear hnu hb3
        go_wp2_with fail
        go_ret3
        exact ⟨HB3.out, .inl ⟨HBAD.out, rfl⟩⟩
end Go.Proofs.YthhljmlpjnkfgaaGreat
