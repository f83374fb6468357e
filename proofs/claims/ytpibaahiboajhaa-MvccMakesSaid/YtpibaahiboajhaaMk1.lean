/-
  Does a row fit?
-/
import Derived.Test.YtpibaahiboajhaaMw2
import Derived.Test.YtpibaahiboajhaaMk0
set_option linter.unusedSimpArgs false
set_option linter.unusedVariables false
namespace Go.Proofs.Ytpibaahiboajhaa
open Go.RowKit Go.Cib
attribute [local go_sem] cell_set Later.cell Later.frozen Grw.cell Grw.frozen

def fitsE (last : Int) (y : Ent) : Bool := keyOk y.key && (decide (0 < y.vers.length) && (rightL y.vers && (decide ((y.vers.getD 0 .none_).stamp ≤ last) && decide (0 < (y.vers.getD (y.vers.length - 1) .none_).stamp))))
set_option maxRecDepth 100000 in
set_option maxHeartbeats 4000000 in
theorem fits_any {S : Nat → Prop} {W : World} {y : Ent} {VA : Option Addr} {vm vc : Nat} {last : Int} (hV : Hid (RdL VerR 5 S W VA vm y.vers)) (hvm : vm ≤ 4194304) :
    Calls Try.prog 83 #[.agg #[.string y.key, .slice VA vm vc], .int .u64 last] W fun e W' => e = .returned (.bool (fitsE last y)) ∧ Below W.heap.size W W' := by
  have bx := BoxAt.new W #[.string y.key, .slice VA vm vc] 72
  have hal : Below W.heap.size W (W.alloc (.cells #[.string y.key, .slice VA vm vc] 72)) := (Below.refl _ _).alloc (Nat.le_refl _) _
  obtain ⟨vb, hvb⟩ : ∃ vb, W.heap.size = vb := ⟨_, rfl⟩
  obtain ⟨w2, hw2⟩ : ∃ w2, W.alloc (.cells #[.string y.key, .slice VA vm vc] 72) = w2 := ⟨_, rfl⟩
  rw [hw2] at bx hal
  rw [hvb] at bx
  have k0 := bx.cell 0
  have k1 := bx.cell 1
  have hvl := bx.lt
  have hR2 := hV.out.below VerR.stable hal
  have hkey := okey_any y.key w2
  have hright := right_any VA vm vc w2 hvm (Lib.hid hR2)
  have HR2 := Lib.hid hR2
  have HAL := Lib.hid hal
  have hlen : y.vers.length = vm := hV.out.1
  have HFE : Hid (∀ b, (keyOk y.key && (decide (0 < vm) && (rightL y.vers && (decide ((y.vers.getD 0 .none_).stamp ≤ last) && decide (0 < (y.vers.getD (vm - 1) .none_).stamp))))) = b → fitsE last y = b) := Lib.hid (fun b h => by unfold fitsE; rw [hlen]; exact h)
  clear bx hal hR2 hlen
  cases hk : keyOk y.key with
  | false =>
    rw [hk] at hkey
    go_enter Try.func83, Try.ntmps83
    go_wp2_with fail
    refine hkey.mono ?_
    rintro e wn ⟨rfl, hwn⟩
    replace hwn := hwn.symm
    subst hwn
    go_wp2_with fail
    go_ret
    subst hvb
    rw [HFE.out false (by rw [hk]; rfl)]
    exact ⟨rfl, HAL.out⟩
  | true =>
    rw [hk] at hkey
    by_cases h0 : 0 < vm
    case neg =>
      have q0 : ¬ (0 : Int) < (vm : Int) := by omega
      go_enter Try.func83, Try.ntmps83
      go_wp2_with fail
      refine hkey.mono ?_
      rintro e wn ⟨rfl, hwn⟩
      replace hwn := hwn.symm
      subst hwn
      go_wp2_with fail
      go_ret
      subst hvb
      rw [HFE.out false (by rw [hk, decide_eq_false h0]; rfl)]
      exact ⟨rfl, HAL.out⟩
    have q0 : (0 : Int) < (vm : Int) := by omega
    cases hr : rightL y.vers with
    | false =>
      rw [hr] at hright
      have HF := Lib.hid (HFE.out false (by rw [hk, decide_eq_true h0, hr]; rfl))
      clear HFE
      go_enter Try.func83, Try.ntmps83
      go_wp2_with fail
      refine hkey.mono ?_
      rintro e wn ⟨rfl, hwn⟩
      replace hwn := hwn.symm
      subst hwn
      go_wp2_with fail
      refine hright.mono ?_
      rintro e w3 ⟨rfl, hb3⟩
      have HB3 := Lib.hid (HAL.out.trans (hb3.mono HAL.out.size))
      go_wp2_with fail
      go_ret
      subst hvb
      rw [HF.out]
      exact ⟨rfl, HB3.out⟩
    | true =>
      rw [hr] at hright
      obtain ⟨b, o, rfl, _, hb⟩ := HR2.out.addr h0
      obtain ⟨x, A1, m1, c1, hx, _, _, e0, _⟩ := vers_at HR2.out h0
      obtain ⟨z, A2, m2, c2, hz, _, _, g0, _⟩ := vers_at HR2.out (show vm - 1 < vm by omega)
      have hx0 : y.vers.getD 0 .none_ = x := by rw [List.getD_eq_getElem?_getD, hx]; rfl
      have hz0 : y.vers.getD (vm - 1) .none_ = z := by rw [List.getD_eq_getElem?_getD, hz]; rfl
      have HF : Hid (∀ d, (decide (x.stamp ≤ last) && decide (0 < z.stamp)) = d → fitsE last y = d) := Lib.hid (fun d h => HFE.out d (by rw [hk, decide_eq_true h0, hr, hx0, hz0]; simpa using h))
      rw [Nat.zero_mul, Nat.add_zero] at e0
      clear HFE hx hz hx0 hz0 hkey
      have hkey := okey_any y.key w2
      rw [hk] at hkey
      have i0 : IntKind.i64.wrap ((vm : Int) - 1) = ((vm - 1 : Nat) : Int) := by rw [IntKind.wrap_i64]; omega
      have i1 : (0 : Int) ≤ ((vm - 1 : Nat) : Int) := Int.natCast_nonneg _
      have i2 : ((vm - 1 : Nat) : Int) < (vm : Int) := by omega
      by_cases h1 : x.stamp ≤ last
      · have q1 : decide (x.stamp ≤ last) = true := decide_eq_true h1
        have HF2 := Lib.hid (fun d (h : decide (0 < z.stamp) = d) => HF.out d (by rw [q1]; simpa using h))
        clear HF
        go_enter Try.func83, Try.ntmps83
        go_wp2_with fail
        refine hkey.mono ?_
        rintro e wn ⟨rfl, hwn⟩
        replace hwn := hwn.symm
        subst hwn
        go_wp2_with fail
        refine hright.mono ?_
        rintro e w3 ⟨rfl, hb3⟩
        have HB3 := Lib.hid (HAL.out.trans (hb3.mono HAL.out.size))
        have l1 := (hb3.cell (p := ⟨vb, 1, none⟩) hvl).trans k1
        have l2 := (hb3.cell (p := ⟨b, o, none⟩) hb).trans e0
        have l3 := (hb3.cell (p := ⟨b, o + (vm - 1) * 5, none⟩) hb).trans g0
        go_wp2_with fail
        go_ret
        subst hvb
        exact ⟨by rw [HF2.out _ rfl]; rfl, HB3.out⟩
      · have q1 : decide (x.stamp ≤ last) = false := decide_eq_false h1
        have HF2 := Lib.hid (HF.out false (by rw [q1]; rfl))
        clear HF
        go_enter Try.func83, Try.ntmps83
        go_wp2_with fail
        refine hkey.mono ?_
        rintro e wn ⟨rfl, hwn⟩
        replace hwn := hwn.symm
        subst hwn
        go_wp2_with fail
        refine hright.mono ?_
        rintro e w3 ⟨rfl, hb3⟩
        have HB3 := Lib.hid (HAL.out.trans (hb3.mono HAL.out.size))
        have l1 := (hb3.cell (p := ⟨vb, 1, none⟩) hvl).trans k1
        have l2 := (hb3.cell (p := ⟨b, o, none⟩) hb).trans e0
        go_wp2_with fail
        go_ret
        subst hvb
        rw [HF2.out]
        exact ⟨rfl, HB3.out⟩
end Go.Proofs.Ytpibaahiboajhaa
