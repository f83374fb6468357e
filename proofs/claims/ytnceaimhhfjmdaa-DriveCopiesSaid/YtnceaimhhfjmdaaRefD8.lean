/-
  The document's drive: Read.
-/
import Derived.Test.YtnceaimhhfjmdaaRefD7
set_option linter.unusedSimpArgs false
set_option linter.unusedVariables false
namespace Go.Proofs.Ytnceaimhhfjmdaa
open Go.RowKit Go.Cib
attribute [local go_sem] cell_set Later.cell Later.frozen Grw.cell Grw.frozen
attribute [local go_sem ↓] shut_build shut_slice

/-- What waits for k, newest first, in front of `d`. -/
def waitE (l : List Ev) (k : Int) (d : List Int) : List Int := l.foldl (fun b e => if e.at_ = k then e.b else b) d
theorem waitE_snoc (l : List Ev) (e : Ev) (k : Int) (d : List Int) : waitE (l ++ [e]) k d = if e.at_ = k then e.b else waitE l k d := by simp [waitE]
def seenE (rs : RSt) (k : Int) : List Int := waitE rs.wait k (storedE rs.L k)

set_option maxRecDepth 100000 in
theorem rread_gone {G : Nat → Prop} {w : World} {x n : Nat} {rs : RSt} (h : Hid (RefAt G w x n rs)) (hd : rs.gone = true) (z : Int) :
    Calls Try.prog 65 #[.pointer (some ⟨x, 0, none⟩), .int .i64 z] w fun e w' => e = .returned (.tuple #[.slice none 0 0, .int .i64 90]) ∧ Below w.heap.size w w' := by
  obtain ⟨Sb, vL, vW, hB, _⟩ := h.out
  obtain ⟨k0, k1, k2, k3⟩ := ref_cells hB
  clear hB
  rw [hd] at k3
  go_enter Try.func65, Try.ntmps65
  go_wp2_with fail
  go_ret2
  exact ⟨rfl, Below.refl _ _⟩

set_option maxRecDepth 100000 in
set_option maxHeartbeats 4000000 in
theorem rread_good {G : Nat → Prop} {w : World} {x n : Nat} {rs : RSt} (h : Hid (RefAt G w x n rs)) (hd : rs.gone = false) (z : Nat) (hz : z < n) (hcl : rs.L.length < 1000000) (hcw : rs.wait.length < 1000000) (hok : Hid (∀ e ∈ rs.L, EvOk e)) (hw64 : Hid (∀ e ∈ rs.wait, e.b.length = 64)) :
    Calls Try.prog 65 #[.pointer (some ⟨x, 0, none⟩), .int .i64 z] w fun e w' => ∃ A c, e = .returned (.tuple #[.slice A 64 c, .int .i64 0]) ∧ RdL U8R 1 (fun _ => True) w' A 64 (seenE rs z) ∧ Below w.heap.size w w' := by
  obtain ⟨Sb, vL, vW, hB, _⟩ := h.out
  obtain ⟨k0, k1, k2, k3⟩ := ref_cells hB
  clear hB
  rw [hd] at k3
  have e1 : decide (0 ≤ (z : Int) ∧ (z : Int) < n) = true := by simp; omega
  go_enter Try.func65, Try.ntmps65
  go_wp2_with fail
  refine (rhas_any h z).mono ?_
  rintro e w1 ⟨rfl, t1⟩
  rw [e1]
  clear e1 k0 k1 k2 k3
  have H1 := Lib.hid (h.out.below t1)
  obtain ⟨Sb, vL, vW, hB, g1, g2, g3, g4, lt⟩ := H1.out
  obtain ⟨AW, cW, rfl⟩ := ownL_form hB.oW
  have k2 : w1.cell? ⟨x, 2, none⟩ = some (.slice AW rs.wait.length cW) := hB.box.cell 2
  have OW := Lib.hid hB.oW
  have T1 := Lib.hid t1
  have hw1s := t1.size
  have hsub : IntKind.i64.wrap ((rs.wait.length : Int) - 1) = (rs.wait.length : Int) - 1 := by rw [IntKind.wrap_i64]; omega
  clear hB t1
  go_wp2_with fail
  clear hsub
  go_loopw [6] (fun vi wr => ∃ i : Nat, i ≤ rs.wait.length ∧ vi = .int .i64 ((i : Int) - 1) ∧ wr = w1 ∧ Hid (seenE rs z = waitE (rs.wait.take i) z (storedE rs.L z))) (fun vi _ => (intOf vi + 1).toNat)
  case atStart => exact ⟨rs.wait.length, Nat.le_refl _, rfl, rfl, Lib.hid (by rw [List.take_length]; rfl)⟩
  case round =>
    obtain ⟨i, hi, rfl, rfl, hs⟩ := hrel
    match i, hi, hs with
    | 0, _, hs =>
      have h1 : decide ((0 : Int) ≤ ((0 : Nat) : Int) - 1) = false := by decide
      go_wp2_with fail
      refine (rstored_good H1 hd z hz hcl hok).mono ?_
      rintro e w2 ⟨g, c, rfl, _, _, hr, t2⟩
      go_wp2_with fail
      go_ret2
      refine ⟨_, c, rfl, ?_, T1.out.trans (t2.mono hw1s)⟩
      rw [hs.out]
      exact hr.weaken U8R.stable (fun _ _ => trivial)
    | i + 1, hi, hs =>
      have hlt : i < rs.wait.length := by omega
      have h0 : ((i + 1 : Nat) : Int) - 1 = (i : Int) := by omega
      rw [h0]
      have h1 : (i : Int) < (rs.wait.length : Int) := by omega
      have h2 : (0 : Int) ≤ (i : Int) := Int.natCast_nonneg _
      have h3 : (i : Int) < 1000000 := by omega
      have hsub : IntKind.i64.wrap ((i : Int) - 1) = (i : Int) - 1 := by rw [IntKind.wrap_i64]; omega
      obtain ⟨ge, e, B, mm, d, rfl, he, hre, y0, y1, y2, y3⟩ := ev_at OW.out hlt
      have hee := hw64.out e (List.mem_of_getElem? he)
      have htk : rs.wait.take (i + 1) = rs.wait.take i ++ [e] := by rw [List.take_succ_eq_append_getElem hlt, (List.getElem?_eq_some_iff.1 he).2]
      have hs2 := hs.out
      rw [htk, waitE_snoc] at hs2
      obtain rfl : mm = 64 := hre.1.symm.trans hee
      have HR := Lib.hid hre
      clear hre he htk hee h0
      by_cases ha : e.at_ = z
      · rw [if_pos ha] at hs2
        have HS := Lib.hid hs2
        rw [ha] at y0
        clear hs2
        go_wp2_with fail
        go_ret2
        refine ⟨_, d, rfl, ?_, T1.out⟩
        rw [HS.out]
        exact HR.out.weaken U8R.stable (fun _ _ => trivial)
      · rw [if_neg ha] at hs2
        have HS := Lib.hid hs2
        have haf : (e.at_ == (z : Int)) = false := by simpa using ha
        clear hs2
        go_wp2_with fail
        exact ⟨⟨i, by omega, rfl, trivial, HS⟩, by simp [intOf]⟩
end Go.Proofs.Ytnceaimhhfjmdaa
