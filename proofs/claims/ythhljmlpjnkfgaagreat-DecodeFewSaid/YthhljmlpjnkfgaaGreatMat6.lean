/-
  The first row that has something in a column.
-/
import Derived.Test.YthhljmlpjnkfgaaGreatMat5
set_option linter.unusedSimpArgs false
set_option linter.unusedVariables false
namespace Go.Proofs.YthhljmlpjnkfgaaGreat
open Go.RowKit Go.Cib
attribute [local go_sem] cell_set Later.cell Later.frozen Grw.cell Grw.frozen

def pvI (col : Nat) (a : Rws) (d : Nat) : Int := match pvF col (a.drop d) d with
  | none => -1
  | some k => k
theorem drop_ra {a : Rws} {k : Nat} (hk : k < a.length) : a.drop k = ra a k :: a.drop (k + 1) := by
  rw [List.drop_eq_getElem_cons hk]
  congr 1
  exact (ra_some (List.getElem?_eq_getElem hk)).symm
theorem pvF_cons (col : Nat) (r : List Nat) (l : Rws) (i : Nat) : pvF col (r :: l) i = if gt r col = 0 then pvF col l (i + 1) else some i := rfl
theorem pvI_next {col : Nat} {a : Rws} {k : Nat} (hk : k < a.length) (h0 : gt (ra a k) col = 0) : pvI col a k = pvI col a (k + 1) := by
  unfold pvI
  rw [drop_ra hk, pvF_cons, if_pos h0]
theorem pvI_found {col : Nat} {a : Rws} {k : Nat} (hk : k < a.length) (h0 : gt (ra a k) col ≠ 0) : pvI col a k = k := by
  unfold pvI
  rw [drop_ra hk, pvF_cons, if_neg h0]
theorem pvI_end {col : Nat} {a : Rws} {k : Nat} (hk : a.length ≤ k) : pvI col a k = -1 := by
  unfold pvI
  rw [List.drop_of_length_le hk]
  rfl
set_option maxRecDepth 100000 in
set_option maxHeartbeats 4000000 in
theorem pivot_any {w : World} {p b m base g n c : Nat} {a : Rws} (H : WorkAt w p b m base g n c a) {d col : Nat} (hd : d < n) (hn : n ≤ 1000) (hcol : col < m) (hm : m ≤ 1000) :
    Calls Tryz.prog 107 #[.pointer (some ⟨p, 0, none⟩), .int .i64 (d : Int), .int .i64 (col : Int)] w fun e w' => e = .returned (.int .i64 (pvI col a d)) ∧ w' = w := by
  have k0 := H.box.cell 0
  have k1 := H.box.cell 1
  have hnc := H.nc
  have hal := H.shp.1
  have hp := fun w => piece_suf sl_rows (A := some ⟨g, 0, none⟩) (N := n) (c := c) (k := d) (by omega) w
  rw [if_neg (by omega)] at hp
  have e0 : Option.map (fun x : Addr => x.add (d * 1)) (some ⟨g, 0, none⟩) = some ⟨g, d, none⟩ := by
    simp only [Option.map_some, Addr.add]
    split
    · rename_i e; rw [show d = 0 by omega]
    · rw [Nat.mul_one, Nat.zero_add]
  rw [e0] at hp
  have HW := Lib.hid H
  have q0 : (0 : Int) ≤ (d : Int) := Int.natCast_nonneg _
  have q1 : (d : Int) < 1000 := by omega
  have q2 : (0 : Int) ≤ (col : Int) := Int.natCast_nonneg _
  have q3 : (col : Int) < (m : Int) := by omega
  have q4 : (m : Int) ≤ 1000 := by omega
  have q5 : ((n - d : Nat) : Int) ≤ 1000 := by omega
  clear H e0
  go_enter Tryz.func107, Tryz.ntmps107
  go_wp2_with fail
  clear hp
  go_loopw [16] (fun vi wr => ∃ k : Nat, k ≤ n - d ∧ vi = .int .i64 k ∧ wr = w ∧ Hid (pvI col a d = pvI col a (d + k))) (fun vi _ => (n - d) - (intOf vi).toNat)
  case atStart => exact ⟨0, Nat.zero_le _, rfl, rfl, Lib.hid rfl⟩
  case round =>
    obtain ⟨k, hk, rfl, hwr, HP⟩ := hrel
    rw [hwr]
    clear hwr
    have p0 : (0 : Int) ≤ (k : Int) := Int.natCast_nonneg _
    by_cases hlt : k < n - d
    · have p1 : (k : Int) < ((n - d : Nat) : Int) := by omega
      obtain ⟨A, c', v1, _, hc1, hr⟩ := HW.out.row (i := d + k) (by omega)
      obtain ⟨bb, o, rfl, _, hbb⟩ := hr.addr hcol
      obtain ⟨v2, x2⟩ := by_at hr hcol
      have hdk : d + k < a.length := by omega
      by_cases h0 : gt (ra a (d + k)) col = 0
      · have hnx := pvI_next hdk h0
        rw [h0] at v2
        have HN := Lib.hid (HP.out.trans hnx)
        clear hnx h0 x2 hr
        go_wp2_with fail
        exact ⟨⟨k + 1, by omega, by go_num, trivial, HN⟩, by simp [intOf]; omega⟩
      · have hf := HP.out.trans (pvI_found hdk h0)
        have h1 : ((gt (ra a (d + k)) col : Nat) : Int) ≠ 0 := by omega
        have h2 : (((gt (ra a (d + k)) col : Nat) : Int) != 0) = true := by simpa using h0
        have HN := Lib.hid hf
        have p3 : IntKind.i64.wrap ((d : Int) + (k : Int)) = ((d + k : Nat) : Int) := by rw [IntKind.wrap_i64]; omega
        clear hf hr x2
        go_wp2_with fail
        go_ret
        refine ⟨?_, rfl⟩
        rw [HN.out]
        congr 2
    · have p1 : ¬ (k : Int) < ((n - d : Nat) : Int) := by omega
      have hk2 : d + k = n := by omega
      have hf := HP.out.trans (pvI_end (by omega))
      have HN := Lib.hid hf
      clear hf HP
      go_wp2_with fail
      go_ret
      exact ⟨by rw [HN.out]; rfl, rfl⟩
end Go.Proofs.YthhljmlpjnkfgaaGreat
