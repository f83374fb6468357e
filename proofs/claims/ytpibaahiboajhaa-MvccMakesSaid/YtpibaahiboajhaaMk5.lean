/-
  MvccMakes, walked.
-/
import Derived.Test.YtpibaahiboajhaaMk3
import Derived.Test.YtpibaahiboajhaaMk4
set_option linter.unusedSimpArgs false
set_option linter.unusedVariables false
namespace Go.Proofs.Ytpibaahiboajhaa
open Go.RowKit Go.Cib
attribute [local go_sem] cell_set Later.cell Later.frozen Grw.cell Grw.frozen
theorem below_then {w0 w1 w2 : World} (h2 : Below w1.heap.size w1 w2) (h1 : Below w0.heap.size w0 w1) : Below w0.heap.size w0 w2 := h1.trans (h2.mono h1.size)
theorem upto {α : Type} {l : List α} {p : α → Prop} {n : Nat} (hn : l.length ≤ n) (h : ∀ j x, j < n → l[j]? = some x → p x) : ∀ x ∈ l, p x := by
  intro x hx
  obtain ⟨j, hj, rfl⟩ := List.getElem_of_mem hx
  exact h j _ (by omega) (List.getElem?_eq_getElem hj)
theorem fromOk_all {last : Int} : ∀ {l : List Ent} {pk : ByteArray}, fromOk last pk l = true → ∀ y ∈ l, fitsE last y = true
  | [], _, _, y, hy => by cases hy
  | x :: l, pk, h, y, hy => by
    unfold fromOk at h
    simp only [Bool.and_eq_true] at h
    rcases List.mem_cons.1 hy with rfl | hy
    · exact h.1
    · exact fromOk_all h.2.2 y hy
theorem from_ok {last : Int} {l : List Ent} (h : fromOk last ⟨#[]⟩ l = true) (hv : ∀ y ∈ l, y.vers.length ≤ 30) (hs : ∀ y ∈ l, Small y.vers) : OkL 30 last l := fun y hy => by
  obtain ⟨h1, h2, h3, h4⟩ := fits_right (fromOk_all h y hy)
  unfold keyOk at h1
  exact ⟨of_decide_eq_true h1, h2, h3, h4, hs y hy, hv y hy⟩
set_option maxRecDepth 100000 in
set_option maxHeartbeats 8000000 in
theorem makes24_any {w : World} {A : Option Addr} {n c : Nat} {l : List Ent} {last : Int} (R : Hid (RdL EntR 2 (fun _ => True) w A n l)) (hv : Hid (∀ y ∈ l, Small y.vers ∧ ∀ v ∈ y.vers, 0 ≤ v.stamp)) :
    Calls Try.prog 8 #[.slice A n c, .int .u64 last] w fun e w' => e = .returned (.bool true) ∧ Below w.heap.size w w' := by
  have hll : l.length = n := R.out.1
  by_cases hn : n ≤ 30
  case neg =>
    have e1 : (30 : Int) < (n : Int) := by omega
    have hh := holds24_any w
    go_enter Try.func8, Try.ntmps8
    go_wp2_with fail
    refine hh.mono ?_
    rintro e w' ⟨rfl, hb⟩
    go_wp2_with fail
    go_ret
    exact ⟨rfl, hb⟩
  have e1 : ¬ (30 : Int) < (n : Int) := by omega
  go_enter Try.func8, Try.ntmps8
  go_wp2_with fail
  go_loopw [5] (fun vi wr => ∃ i : Nat, i ≤ n ∧ vi = .int .i64 i ∧ Hid (∀ j y, j < i → l[j]? = some y → y.vers.length ≤ 30) ∧ wr = w) (fun vi _ => n - (intOf vi).toNat)
  case atStart => exact ⟨0, Nat.zero_le _, rfl, Lib.hid (fun j x hj => absurd hj (by omega)), rfl⟩
  case round =>
    obtain ⟨i, hi, rfl, HF, hw⟩ := hrel
    replace hw := hw.symm
    subst hw
    have q2 : (0 : Int) ≤ (i : Int) := Int.natCast_nonneg _
    by_cases hlt : i < n
    · have q1 : (i : Int) < (n : Int) := by omega
      obtain ⟨b, o, rfl, _, hb⟩ := R.out.addr hlt
      obtain ⟨y, VA, vm, vc, hy, _, hER, d0, d1⟩ := ent2_at R.out hlt
      obtain ⟨_, _, _, hcs, _, hV⟩ := hER
      injection hcs with _ hcs
      injection hcs with hcs _
      injection hcs with f1 f2 f3
      subst f1; subst f2; subst f3
      have hvl : y.vers.length = vm := hV.1
      have hh := holds24_any w
      by_cases h1 : y.key.size ≤ 60
      · have e2 : ¬ (60 : Int) < (y.key.size : Int) := by omega
        by_cases h2 : vm ≤ 30
        · have e3 : ¬ (30 : Int) < (vm : Int) := by omega
          have HF2 : Hid (∀ j z, j < i + 1 → l[j]? = some z → z.vers.length ≤ 30) := Lib.hid (fun j z hj hz => by
            by_cases hji : j = i
            · subst hji
              rw [hy] at hz
              injection hz with hz
              subst hz
              omega
            · exact HF.out j z (by omega) hz)
          clear hy hV hvl HF h1 h2 hh
          go_wp2_with fail
          exact ⟨⟨i + 1, by omega, by go_num, HF2, trivial⟩, by simp [intOf]; omega⟩
        · have e3 : (30 : Int) < (vm : Int) := by omega
          clear hy hV hvl HF h1 h2
          go_wp2_with fail
          refine hh.mono ?_
          rintro e w' ⟨rfl, hb⟩
          go_wp2_with fail
          go_ret
          exact ⟨rfl, hb⟩
      · have e2 : (60 : Int) < (y.key.size : Int) := by omega
        clear hy hV hvl HF h1
        go_wp2_with fail
        refine hh.mono ?_
        rintro e w' ⟨rfl, hb⟩
        go_wp2_with fail
        go_ret
        exact ⟨rfl, hb⟩
    · have q1 : ¬ (i : Int) < (n : Int) := by omega
      have hlen := upto (p := fun y : Ent => y.vers.length ≤ 30) (n := i) (by omega) HF.out
      have HV1 : Hid (∀ y ∈ l, y.vers.length ≤ 1000 ∧ Small y.vers) := Lib.hid (fun y hy => ⟨by have := hlen y hy; omega, (hv.out y hy).1⟩)
      have HV2 : Hid (∀ y ∈ l, y.vers.length ≤ 1000 ∧ Small y.vers ∧ ∀ v ∈ y.vers, 0 ≤ v.stamp) := Lib.hid (fun y hy => ⟨by have := hlen y hy; omega, (hv.out y hy).1, (hv.out y hy).2⟩)
      have hfrom := mvfrom_any (c := c) (last := last) R (by omega) HV1
      cases hok : fromOk last ⟨#[]⟩ l with
      | false =>
        go_wp2_with fail
        refine hfrom.mono ?_
        rintro e w1 ⟨hb1, hp⟩
        rw [hok] at hp
        rw [if_neg (by decide)] at hp
        subst hp
        have href := reffrom_any (c := c) (last := last) (Lib.hid (R.out.below EntR.stable hb1)) (by omega) HV2
        go_wp2_with fail
        refine href.mono ?_
        rintro e w2 ⟨hb2, hp⟩
        rw [hok] at hp
        rw [if_neg (by decide)] at hp
        subst hp
        have HB2 := Lib.hid (below_then hb2 hb1)
        have hh := holds24_any w2
        clear hfrom href hb1 hb2
        go_wp2_with fail
        refine hh.mono ?_
        rintro e w3 ⟨rfl, hb3⟩
        go_wp2_with fail
        go_ret
        exact ⟨rfl, below_then hb3 HB2.out⟩
      | true =>
        have HOL := Lib.hid (from_ok hok hlen (fun y hy => (hv.out y hy).1))
        have HNE : Hid (∀ y ∈ l, y.vers ≠ []) := Lib.hid (fun y hy => (HOL.out y hy).ne)
        go_wp2_with fail
        refine hfrom.mono ?_
        rintro e w1 ⟨hb1, hp⟩
        rw [hok, if_pos rfl] at hp
        obtain ⟨s, F, rfl, hM1⟩ := hp
        have href := reffrom_any (c := c) (last := last) (Lib.hid (R.out.below EntR.stable hb1)) (by omega) HV2
        go_wp2_with fail
        refine href.mono ?_
        rintro e w2 ⟨hb2, hp⟩
        rw [hok, if_pos rfl] at hp
        obtain ⟨q, XA, xc, rfl, hX, hXR⟩ := hp
        have HM2 := Lib.hid (hM1.below hb2)
        have HX2 := Lib.hid hX
        have HXR2 := Lib.hid hXR
        have HB2 := Lib.hid (below_then hb2 hb1)
        have hrows := rows_all HM2 HOL (by omega) (by omega)
        clear hfrom href hb1 hb2 hM1 hX hXR
        go_wp2_with fail
        refine hrows.mono ?_
        rintro e w3 ⟨v, rfl, ho, hb3⟩
        obtain ⟨RA, rcap, rfl, hrc, hRR⟩ := row_rd ho
        have HM3 := Lib.hid (HM2.out.below hb3)
        have HX3 := Lib.hid (HX2.out.below hb3)
        have HXR3 := Lib.hid (HXR2.out.below EntR.stable hb3)
        have HB3 := Lib.hid (below_then hb3 HB2.out)
        have hsame := samerows_any (c1 := rcap) (c2 := c) (Lib.hid hRR) (Lib.hid (by rw [hll]; exact R.out.below EntR.stable HB3.out : RdL EntR 2 (fun _ => True) w3 A l.length l)) (by omega) HV1
        rw [hll] at hsame
        rw [hll]
        clear hrows ho hRR hb3 HM2 HX2 HXR2 HB2
        go_wp2_with fail
        refine hsame.mono ?_
        rintro e w4 ⟨rfl, hb4⟩
        have HM4 := Lib.hid (HM3.out.below hb4)
        have HX4 := Lib.hid (HX3.out.below hb4)
        have HXR4 := Lib.hid (HXR3.out.below EntR.stable hb4)
        have HB4 := Lib.hid (below_then hb4 HB3.out)
        have hlast := mvlast_any HM4
        clear hsame hb4 HM3 HX3 HXR3 HB3
        go_wp2_with fail
        refine hlast.mono ?_
        rintro e w5 ⟨rfl, hw5⟩
        replace hw5 := hw5.symm
        subst hw5
        have hlive := live_any HM4 HOL (by omega) (by omega)
        go_wp2_with fail
        refine hlive.mono ?_
        rintro e w6 ⟨rfl, hb6⟩
        have HX6 := Lib.hid (HX4.out.below hb6)
        have HXR6 := Lib.hid (HXR4.out.below EntR.stable hb6)
        have HB6 := Lib.hid (below_then hb6 HB4.out)
        have hrl := reflive_any HX6 HXR6 (by omega) HNE
        clear hlive hlast hb6 HM4 HX4 HXR4 HB4
        go_wp2_with fail
        refine hrl.mono ?_
        rintro e w7 ⟨rfl, hb7⟩
        have HB7 := Lib.hid (below_then hb7 HB6.out)
        have hh := holds24_any w7
        clear hrl hb7 HX6 HXR6 HB6
        go_wp2_with fail
        refine hh.mono ?_
        rintro e w8 ⟨rfl, hb8⟩
        go_wp2_with fail
        go_ret
        exact ⟨rfl, below_then hb8 HB7.out⟩
end Go.Proofs.Ytpibaahiboajhaa
