/-
  Rows of sectors, as they are built.
-/
import Derived.Test.YtolmpopjonkfgaaApart1
set_option linter.unusedSimpArgs false
set_option linter.unusedVariables false
namespace Go.Proofs.Ytolmpopjonkfgaa
open Go.RowKit Go.Cib
attribute [local go_sem] cell_set Later.cell Later.frozen Grw.cell Grw.frozen
attribute [local go_sem ↓] run_min_as run_max_as

def rowAt (c : Int) (i : Nat) : List Int := if i % 5 = 4 then [] else rep ((c + (i : Int)) % 256)
def rowsL (c : Int) (q : Nat) : List (List Int) := (List.range q).map (rowAt c)
theorem rowsL_len (c : Int) (q : Nat) : (rowsL c q).length = q := by simp [rowsL]
theorem rowsL_succ (c : Int) (q : Nat) : rowsL c (q + 1) = rowsL c q ++ [rowAt c q] := by simp [rowsL, List.range_succ]
def RowsE (w : World) (c : Int) (q : Nat) (e : Ending) (w' : World) : Prop := ∃ A cc, e = .returned (.slice A q cc) ∧ RdL BytesR 1 (fun b => w.heap.size ≤ b ∧ b < w'.heap.size) w' A q (rowsL c q) ∧ Below w.heap.size w w'
set_option maxRecDepth 100000 in
set_option maxHeartbeats 4000000 in
theorem rowsOf_any (c n : Int) (q : Nat) (hq : min n 20 = q ∨ (min n 20 < 0 ∧ q = 0)) (w : World) :
    Calls Try.prog 39 #[.int .u8 c, .int .i64 n] w fun e w' => RowsE w c q e w' := by
  have hq20 : q ≤ 20 := by omega
  obtain ⟨mn, hmn⟩ : ∃ k, min n 20 = k := ⟨_, rfl⟩
  rw [hmn] at hq
  have hqm : ∀ i : Nat, i ≤ q → ((i : Int) < mn ↔ i < q) := fun i hi => by omega
  clear hq
  go_enter Try.func39, Try.ntmps39
  go_wp2_with fail
  go_loopw [5, 6] (fun va vi wr => ∃ (i : Nat) (SA : Nat → Prop), i ≤ q ∧ vi = .int .i64 i ∧ Hid (OwnL BytesR 27 1 w.heap.size SA wr va i (rowsL c i)) ∧ Hid (∀ b, SA b → w.heap.size ≤ b) ∧ Hid (Below w.heap.size w wr)) (fun _ vi _ => q - (intOf vi).toNat)
  case atStart => exact ⟨0, fun _ => False, Nat.zero_le _, rfl, Lib.hid OwnL.nil_, Lib.hid (fun _ h => h.elim), Lib.hid (Below.refl _ _)⟩
  case round =>
    obtain ⟨wo, rfl⟩ : ∃ wo, wo = wr := ⟨_, rfl⟩
    obtain ⟨i, SA, hi, rfl, O, hSA, T⟩ := hrel
    by_cases hlt : i < q
    · obtain ⟨AA, ca, rfl, _⟩ := O.out.form
      have h1 : (i : Int) < mn := (hqm i hi).2 hlt
      have h2 : (0 : Int) ≤ (i : Int) := Int.natCast_nonneg _
      have h3 : (i : Int) < 20 := by omega
      have ht : Int.tmod (i : Int) 5 = (i : Int) % 5 := Int.tmod_eq_emod_of_nonneg h2
      by_cases h4 : i % 5 = 4
      · have hrow : rowAt c i = [] := by simp [rowAt, h4]
        have h5 : ((Int.tmod (i : Int) 5) == 4) = true := by rw [beq_iff_eq, ht]; omega
        have h6 : Int.tmod (i : Int) 5 = 4 := by rw [ht]; omega
        clear ht
        have hown := O.out
        have hsz := T.out.size
        have hy : BytesR (Go.Cib.Rest SA (.slice AA i ca)) wo [.slice none 0 0] [] := ⟨none, 0, 0, rfl, RdL.nil⟩
        clear hqm
        go_wp2_with (at_builtin; go_must (refine wpList_push1 BytesR.stable BytesR.one slRows (by rfl) (by rfl) (base := w.heap.size) (S := SA) (cs := #[.slice none 0 0]) (y := []) (by rfl) (by rfl) hown (by rfl) hy (by unfold maxLen; omega) (by omega) hsz ?_); intro A11 c11 u11 hc11 own11 hlt11 hb11 hat11)
        exact ⟨⟨i + 1, SA, by omega, by go_num, Lib.hid (by rw [rowsL_succ, hrow]; exact own11), hSA, Lib.hid (T.out.trans hb11)⟩, by simp [intOf]; omega⟩
      · have hrow : rowAt c i = rep ((c + (i : Int)) % 256) := by simp [rowAt, h4]
        have h5 : ((Int.tmod (i : Int) 5) == 4) = false := by rw [beq_eq_false_iff_ne, ht]; omega
        have h6 : ¬ Int.tmod (i : Int) 5 = 4 := by rw [ht]; omega
        clear ht
        clear hqm
        go_wp2_with fail
        refine (full_at _ wo).mono ?_
        rintro e w3 ⟨b3, o3, rfl, l3, l3', r3, t3⟩
        have hown := ownL_wide2 (T := fun k => SA k ∨ k = b3) BytesR.stable (O.out.keep BytesR.stable t3) (fun b h => .inl h)
        have hne : some b3 ≠ (Value.slice AA i ca).ownBlock := fun e => by have := (O.out.lt b3 e.symm).2; omega
        have T4 := T.out.trans (t3.mono T.out.size)
        have hsz := T4.size
        have hb3 : w.heap.size ≤ b3 := Nat.le_trans T.out.size l3
        have hy : BytesR (Go.Cib.Rest (fun k => SA k ∨ k = b3) (.slice AA i ca)) w3 [.slice (some ⟨b3, o3, none⟩) 64 64] (rep ((c + (i : Int)) % 256)) := ⟨_, _, _, rfl, r3.weaken U8R.stable (by rintro k rfl; exact ⟨.inr rfl, hne⟩)⟩
        clear r3 t3
        go_wp2_with (at_builtin; go_must (refine wpList_push1 BytesR.stable BytesR.one slRows (by rfl) (by rfl) (base := w.heap.size) (S := fun k => SA k ∨ k = b3) (cs := #[.slice (some ⟨b3, o3, none⟩) 64 64]) (y := rep ((c + (i : Int)) % 256)) (by rfl) (by rfl) hown (by rfl) hy (by unfold maxLen; omega) (by omega) hsz ?_); intro A11 c11 u11 hc11 own11 hlt11 hb11 hat11)
        exact ⟨⟨i + 1, _, by omega, by go_num, Lib.hid (by rw [rowsL_succ, hrow]; exact own11), Lib.hid (fun b (hb : SA b ∨ b = b3) => Or.elim hb (hSA.out b) (fun e => e ▸ hb3)), Lib.hid (T4.trans hb11)⟩, by simp [intOf]; omega⟩
    · obtain rfl : i = q := by omega
      have h1 : ¬ (i : Int) < mn := fun h => by have := (hqm i (Nat.le_refl _)).1 h; omega
      obtain ⟨AA, ca, e, _, RA⟩ := O.out.rd (S' := (w.heap.size ≤ ·)) (fun k hk => hk) (fun cs x ⟨A, m, c, e, hr⟩ => ⟨A, m, c, e, hr.weaken U8R.stable (fun b hb => hSA.out b hb.1)⟩)
      subst e
      clear hqm
      go_wp2_with fail
      go_ret
      exact ⟨AA, ca, rfl, RA.stable BytesR.stable (fun b hb hlt => ⟨⟨hb, hlt⟩, rfl⟩), T.out⟩
end Go.Proofs.Ytolmpopjonkfgaa
