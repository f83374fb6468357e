/-
  The document's drive: Rotten, Rot.
-/
import Derived.Test.YtnceaimhhfjmdaaRefD5
set_option linter.unusedSimpArgs false
set_option linter.unusedVariables false
namespace Go.Proofs.Ytnceaimhhfjmdaa
open Go.RowKit Go.Cib
attribute [local go_sem] cell_set Later.cell Later.frozen Grw.cell Grw.frozen
attribute [local go_sem ↓] shut_build

/-- Is what lies at k spoilt? -/
def badE (L : List Ev) (k : Int) : Bool := L.foldl (fun bad e => if e.at_ = k then !(e.mask == 0) else bad) false
theorem badE_snoc (L : List Ev) (e : Ev) (k : Int) : badE (L ++ [e]) k = if e.at_ = k then !(e.mask == 0) else badE L k := by simp [badE]

set_option maxRecDepth 100000 in
set_option maxHeartbeats 4000000 in
theorem rrotten_any {G : Nat → Prop} {w : World} {x n : Nat} {rs : RSt} (h : Hid (RefAt G w x n rs)) (z : Int) (hcl : rs.L.length < 1000000) :
    Calls Try.prog 68 #[.pointer (some ⟨x, 0, none⟩), .int .i64 z] w fun e w' => e = .returned (.bool (!rs.gone && badE rs.L z)) ∧ Below w.heap.size w w' := by
  obtain ⟨Sb, vL, vW, hB, g1, g2, g3, g4, lt⟩ := h.out
  obtain ⟨AL, cL, rfl⟩ := ownL_form hB.oL
  have k1 : w.cell? ⟨x, 1, none⟩ = some (.slice AL rs.L.length cL) := hB.box.cell 1
  have k3 : w.cell? ⟨x, 3, none⟩ = some (.bool rs.gone) := hB.box.cell 3
  have HB := Lib.hid hB
  clear hB
  go_enter Try.func68, Try.ntmps68
  go_wp2_with fail
  cases hd : rs.gone with
  | true =>
    rw [hd] at k3
    go_loopw [5, 6] (fun vb vi wr => vb = .bool false ∧ vi = .int .i64 0 ∧ wr = w) (fun _ _ _ => 0)
    case atStart => exact ⟨rfl, rfl, rfl⟩
    case round =>
      obtain ⟨rfl, rfl, rfl⟩ := hrel
      by_cases h0 : 0 < rs.L.length
      · have h1 : (0 : Int) < (rs.L.length : Int) := by omega
        go_wp2_with fail
        go_ret
        exact ⟨ret_bool2 (by simp [hd]), Below.refl _ _⟩
      · have h1 : ¬ (0 : Int) < (rs.L.length : Int) := by omega
        go_wp2_with fail
        go_ret
        exact ⟨ret_bool2 (by simp [hd]), Below.refl _ _⟩
  | false =>
    rw [hd] at k3
    go_loopw [5, 6] (fun vb vi wr => ∃ (i : Nat) (b : Bool), i ≤ rs.L.length ∧ vb = .bool b ∧ vi = .int .i64 i ∧ wr = w ∧ Hid (b = badE (rs.L.take i) z)) (fun _ vi _ => rs.L.length - (intOf vi).toNat)
    case atStart => exact ⟨0, false, Nat.zero_le _, rfl, rfl, rfl, Lib.hid rfl⟩
    case round =>
      obtain ⟨i, b, hi, rfl, rfl, rfl, hb⟩ := hrel
      by_cases hlt : i < rs.L.length
      · have h1 : (i : Int) < (rs.L.length : Int) := by omega
        have h2 : (0 : Int) ≤ (i : Int) := Int.natCast_nonneg _
        have h3 : (i : Int) < 1000000 := by omega
        obtain ⟨g, e, B, mm, d, rfl, he, hre, y0, y1, y2, y3⟩ := ev_at HB.out.oL hlt
        have htk : rs.L.take (i + 1) = rs.L.take i ++ [e] := by rw [List.take_succ_eq_append_getElem hlt, (List.getElem?_eq_some_iff.1 he).2]
        by_cases ha : e.at_ = z
        · have hn : badE (rs.L.take (i + 1)) z = !(e.mask == 0) := by rw [htk, badE_snoc, if_pos ha]
          have HN := Lib.hid hn
          rw [ha] at y0
          clear hn htk he hre
          go_wp2_with fail
          exact ⟨⟨i + 1, (e.mask != 0), by omega, rfl, by go_num, trivial, Lib.hid (by rw [HN.out]; rfl)⟩, by simp [intOf]; omega⟩
        · have hn : badE (rs.L.take (i + 1)) z = badE (rs.L.take i) z := by rw [htk, badE_snoc, if_neg ha]
          have HN := Lib.hid hn
          have haf : (e.at_ == z) = false := by simpa using ha
          clear hn htk he hre
          go_wp2_with fail
          exact ⟨⟨i + 1, b, by omega, rfl, by go_num, trivial, Lib.hid (by rw [HN.out]; exact hb.out)⟩, by simp [intOf]; omega⟩
      · obtain rfl : i = rs.L.length := by omega
        have h1 : ¬ (rs.L.length : Int) < (rs.L.length : Int) := by omega
        go_wp2_with fail
        go_ret
        refine ⟨ret_bool2 ?_, Below.refl _ _⟩
        rw [hb.out, List.take_length] <;> rfl

def rrotOk (rs : RSt) (n : Nat) (z off mask : Int) : Prop := rs.gone = false ∧ (0 ≤ z ∧ z < n) ∧ (0 ≤ off ∧ off ≤ 60) ∧ ¬ mask = 0 ∧ badE rs.L z = false
set_option maxRecDepth 100000 in
set_option maxHeartbeats 4000000 in
theorem rrot_bad {G : Nat → Prop} {w : World} {x n : Nat} {rs : RSt} (h : Hid (RefAt G w x n rs)) (z off mask : Int) (hcl : rs.L.length < 1000000) (hz : ¬ rrotOk rs n z off mask) :
    Calls Try.prog 64 #[.pointer (some ⟨x, 0, none⟩), .int .i64 z, .int .i64 off, .int .u32 mask] w fun e w' => (∃ E, e = .returned (.int .i64 E)) ∧ Below w.heap.size w w' := by
  obtain ⟨Sb, vL, vW, hB, _⟩ := h.out
  obtain ⟨k0, k1, k2, k3⟩ := ref_cells hB
  clear hB
  cases hd : rs.gone with
  | true =>
    rw [hd] at k3
    go_enter Try.func64, Try.ntmps64
    go_wp2_with fail
    go_ret
    exact ⟨⟨_, rfl⟩, Below.refl _ _⟩
  | false =>
    rw [hd] at k3
    by_cases h0 : 0 ≤ z ∧ z < n
    · have e1 : decide (0 ≤ z ∧ z < (n : Int)) = true := by simpa using h0
      by_cases h1 : off < 0
      · have d1 : decide (off < 0) = true := by simpa using h1
        clear hz
        go_enter Try.func64, Try.ntmps64
        go_wp2_with fail
        refine (rhas_any h z).mono ?_
        rintro e w1 ⟨rfl, t1⟩
        rw [e1]
        clear e1 h0
        go_wp2_with fail
        go_ret
        exact ⟨⟨_, rfl⟩, t1⟩
      have d1 : decide (off < 0) = false := by simpa using h1
      by_cases h2 : 60 < off
      · have d2 : decide (60 < off) = true := by simpa using h2
        clear hz
        go_enter Try.func64, Try.ntmps64
        go_wp2_with fail
        refine (rhas_any h z).mono ?_
        rintro e w1 ⟨rfl, t1⟩
        rw [e1]
        clear e1 h0
        go_wp2_with fail
        go_ret
        exact ⟨⟨_, rfl⟩, t1⟩
      have d2 : decide (60 < off) = false := by simpa using h2
      by_cases h3 : mask = 0
      · have d3 : (mask == 0) = true := by simpa using h3
        clear hz h3
        go_enter Try.func64, Try.ntmps64
        go_wp2_with fail
        refine (rhas_any h z).mono ?_
        rintro e w1 ⟨rfl, t1⟩
        rw [e1]
        clear e1 h0
        go_wp2_with fail
        go_ret
        exact ⟨⟨_, rfl⟩, t1⟩
      have d3 : (mask == 0) = false := by simpa using h3
      have hbad : badE rs.L z = true := by
        cases hb : badE rs.L z with
        | true => rfl
        | false => exact absurd ⟨hd, h0, ⟨by omega, by omega⟩, h3, hb⟩ hz
      have HBd := Lib.hid (show (!rs.gone && badE rs.L z) = true by rw [hd, hbad]; rfl)
      clear hz hbad
      go_enter Try.func64, Try.ntmps64
      go_wp2_with fail
      refine (rhas_any h z).mono ?_
      rintro e w1 ⟨rfl, t1⟩
      rw [e1]
      clear e1 h0
      have H1 := Lib.hid (h.out.below t1)
      go_wp2_with fail
      refine (rrotten_any H1 z hcl).mono ?_
      rintro e w2 ⟨rfl, t2⟩
      rw [HBd.out]
      have t12 := t1.trans (t2.mono t1.size)
      clear H1 t1 t2
      go_wp2_with fail
      go_ret
      exact ⟨⟨_, rfl⟩, t12⟩
    · have e1 : decide (0 ≤ z ∧ z < (n : Int)) = false := by simpa using h0
      clear hz
      go_enter Try.func64, Try.ntmps64
      go_wp2_with fail
      refine (rhas_any h z).mono ?_
      rintro e w1 ⟨rfl, h1⟩
      rw [e1]
      clear e1 h0
      go_wp2_with fail
      go_ret
      exact ⟨⟨_, rfl⟩, h1⟩

set_option maxRecDepth 100000 in
set_option maxHeartbeats 4000000 in
theorem rrot_good {G : Nat → Prop} {w : World} {x n : Nat} {rs : RSt} (h : Hid (RefAt G w x n rs)) (z off mask : Int) (hcl : rs.L.length < 1000000) (hz : rrotOk rs n z off mask) :
    Calls Try.prog 64 #[.pointer (some ⟨x, 0, none⟩), .int .i64 z, .int .i64 off, .int .u32 mask] w fun e w' => e = .returned (.int .i64 0) ∧ RUpd G w w' x n { rs with L := rs.L ++ [⟨z, [], off, mask⟩] } := by
  obtain ⟨hd, h0, ⟨h1, h2⟩, h3, hbad⟩ := hz
  obtain ⟨Sb, vL, vW, hB, _⟩ := h.out
  obtain ⟨k0, k1, k2, k3⟩ := ref_cells hB
  clear hB
  rw [hd] at k3
  have e1 : decide (0 ≤ z ∧ z < (n : Int)) = true := by simpa using h0
  have d1 : decide (off < 0) = false := by simp; omega
  have d1' : ¬ off < 0 := by omega
  have d2 : decide (60 < off) = false := by simp; omega
  have d2' : ¬ 60 < off := by omega
  have d3 : (mask == 0) = false := by simpa using h3
  have HBd := Lib.hid (show (!rs.gone && badE rs.L z) = false by rw [hbad]; simp)
  clear hbad h3
  go_enter Try.func64, Try.ntmps64
  go_wp2_with fail
  refine (rhas_any h z).mono ?_
  rintro e w1 ⟨rfl, t1⟩
  rw [e1]
  clear e1 h0
  have H1 := Lib.hid (h.out.below t1)
  go_wp2_with fail
  refine (rrotten_any H1 z hcl).mono ?_
  rintro e w2 ⟨rfl, t2⟩
  rw [HBd.out]
  have t12 := Lib.hid (t1.trans (t2.mono t1.size))
  obtain ⟨Sb, vL, vW, hB, g1, g2, g3, g4, lt⟩ := H1.out.below t2
  obtain ⟨AL, cL, rfl⟩ := ownL_form hB.oL
  have k1 : w2.cell? ⟨x, 1, none⟩ = some (.slice AL rs.L.length cL) := hB.box.cell 1
  have z1 := hB.box.frozen 1
  have HB := Lib.hid hB
  have hxL : some x ≠ (Value.slice AL rs.L.length cL).ownBlock := fun e => hB.lx e.symm
  have own1 := hB.oL
  have hye : EvR (Go.Cib.Rest Sb (.slice AL rs.L.length cL)) w2 (#[.int .i64 z, .slice none 0 0, .int .i64 off, .int .u32 mask] : Array Value).toList ⟨z, [], off, mask⟩ := ⟨none, 0, 0, rfl, RdL.nil⟩
  have KF := Lib.hid (fun (u : Grw (Value.slice AL rs.L.length cL).ownBlock w2) => And.intro (cell_far2 (a := ⟨x, 1, none⟩) k1 u.ok hxL) (frozen_far2 (a := ⟨x, 1, none⟩) k1 z1 u.ok hxL))
  clear H1 t1 t2 hB hxL h
  go_wp2_with (at_builtin; refine wpList_push1 EvR.stable EvR.one slEv (by rfl) (by rfl) (W := w2) (base := 0) (S := Sb) (cs := #[.int .i64 z, .slice none 0 0, .int .i64 off, .int .u32 mask]) (y := ⟨z, [], off, mask⟩) (by rfl) (by rfl) own1 (by rfl) hye (by unfold maxLen; omega) (by omega) (Nat.zero_le _) ?_; intro A11 c11 u11 hc11 own11 hlt11 hb11 hat11; obtain ⟨k30, k31⟩ := KF.out u11)
  go_ret
  have hp := rpush_post HB.out g1 g2 g3 g4 lt u11.ok own11 hat11
  exact ⟨rfl, RUpd.trans (G1 := G) (fun k h _ => h) (Keep.of_below t12.out) hp⟩
end Go.Proofs.Ytnceaimhhfjmdaa
