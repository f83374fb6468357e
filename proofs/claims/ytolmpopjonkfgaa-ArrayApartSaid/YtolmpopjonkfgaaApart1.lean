/-
  Acts on arrays among the arguments: are there few? Rows of sectors.
-/
import Derived.Test.YtolmpopjonkfgaaRows2
set_option linter.unusedSimpArgs false
set_option linter.unusedVariables false
namespace Go.Proofs.Ytolmpopjonkfgaa
open Go.RowKit Go.Cib
attribute [local go_sem] cell_set Later.cell Later.frozen Grw.cell Grw.frozen
attribute [local go_sem ↓] run_min_as run_max_as

structure ActA where
  kind : Int
  d : Int
  at_ : Int
  off : Int
  c : Int
  mask : Int
  keep : List (List Bool)
def ActAR (S : Nat → Prop) (w : World) (cs : List Value) (a : ActA) : Prop := ∃ KA km kc, cs = [.int .i64 a.kind, .int .i64 a.d, .int .i64 a.at_, .int .i64 a.off, .int .u8 a.c, .int .u32 a.mask, .slice KA km kc] ∧ RdL BoolsR 1 S w KA km a.keep
theorem ActAR.stable : Stable ActAR := by
  rintro S S' w w' cs e ⟨KA, km, kc, rfl, h1⟩ hk
  exact ⟨KA, km, kc, rfl, h1.stable BoolsR.stable hk⟩
theorem actA_at {S : Nat → Prop} {w : World} {A : Option Addr} {m : Nat} {xs : List ActA} (h : RdL ActAR 7 S w A m xs) {i : Nat} (hi : i < m) : ∃ b o a KA km kc, A = some ⟨b, o, none⟩ ∧ xs[i]? = some a ∧ RdL BoolsR 1 S w KA km a.keep ∧
    ∀ w', Below w.heap.size w w' → w'.cell? ⟨b, o + i * 7, none⟩ = some (.int .i64 a.kind) ∧ w'.cell? ⟨b, o + i * 7 + 1, none⟩ = some (.int .i64 a.d) ∧ w'.cell? ⟨b, o + i * 7 + 2, none⟩ = some (.int .i64 a.at_) ∧ w'.cell? ⟨b, o + i * 7 + 3, none⟩ = some (.int .i64 a.off) ∧ w'.cell? ⟨b, o + i * 7 + 4, none⟩ = some (.int .u8 a.c) ∧ w'.cell? ⟨b, o + i * 7 + 5, none⟩ = some (.int .u32 a.mask) ∧ w'.cell? ⟨b, o + i * 7 + 6, none⟩ = some (.slice KA km kc) := by
  obtain ⟨b, o, rfl, _, hlt⟩ := h.addr hi
  obtain ⟨hl, cs, h1, h2, h3⟩ := h.at hi
  obtain ⟨KA, km, kc, rfl, r1⟩ := h2
  refine ⟨b, o, xs[i], KA, km, kc, rfl, by simp [hl], r1, fun w' hb => ?_⟩
  have hc : ∀ j v, _ → w'.cell? ⟨b, o + i * 7 + j, none⟩ = some v := fun j v hj => by rw [hb.cell (p := ⟨b, _, none⟩) hlt]; exact h3 j v hj
  exact ⟨hc 0 _ rfl, hc 1 _ rfl, hc 2 _ rfl, hc 3 _ rfl, hc 4 _ rfl, hc 5 _ rfl, hc 6 _ rfl⟩

def FewA (m : Nat) (e : Ending) : Prop := ∃ r : Bool, e = .returned (.bool r) ∧ (r = true → m ≤ 80)
set_option maxRecDepth 100000 in
set_option maxHeartbeats 4000000 in
theorem fewA_any {S : Nat → Prop} {w : World} {A : Option Addr} {m c : Nat} {xs : List ActA} (R : Hid (RdL ActAR 7 S w A m xs)) :
    Calls Try.prog 38 #[.int .i64 0, .slice A m c] w fun e w' => FewA m e ∧ Below w.heap.size w w' := by
  go_enter Try.func38, Try.ntmps38
  go_wp2_with fail
  go_loopw [5] (fun vi wr => ∃ i : Nat, i ≤ m ∧ i ≤ 100 ∧ vi = .int .i64 i ∧ wr = w) (fun vi _ => 100 - (intOf vi).toNat)
  case atStart => exact ⟨0, Nat.zero_le _, by omega, rfl, rfl⟩
  case round =>
    obtain ⟨i, hi, h100, rfl, rfl⟩ := hrel
    by_cases hlt : i < m ∧ i < 100
    · obtain ⟨b, o, a, KA, km, kc, rfl, hx, RK, hcells⟩ := actA_at R.out hlt.1
      obtain ⟨_, _, _, _, _, _, y6⟩ := hcells wr (Below.refl _ _)
      have HRK := Lib.hid RK
      have h1 : (i : Int) < (m : Int) := by omega
      have h2 : (i : Int) < 100 := by omega
      have h3 : (0 : Int) ≤ (i : Int) := Int.natCast_nonneg _
      clear hcells RK hx
      by_cases hk : 300 < km
      · have h4 : (300 : Int) < (km : Int) := by omega
        go_wp2_with fail
        go_ret
        exact ⟨⟨false, rfl, fun h => by cases h⟩, Below.refl _ _⟩
      · have h4 : ¬ (300 : Int) < (km : Int) := by omega
        go_wp2_with fail
        go_loopw [6] (fun vk wr2 => ∃ k : Nat, k ≤ km ∧ vk = .int .i64 k ∧ wr2 = wr) (fun vk _ => km - (intOf vk).toNat)
        case atStart => exact ⟨0, Nat.zero_le _, rfl, rfl⟩
        case round =>
          obtain ⟨k, hk2, rfl, hw⟩ := hrel
          subst hw
          by_cases hlt2 : k < km
          · obtain ⟨b2, o2, x2, A2, m2, c2, rfl, hx2, y7, _⟩ := bools_at HRK.out hlt2
            have h5 : (k : Int) < (km : Int) := by omega
            have h6 : (0 : Int) ≤ (k : Int) := Int.natCast_nonneg _
            have h7 : (k : Int) < 301 := by omega
            clear hx2
            by_cases hm2 : 100 < m2
            · have h8 : (100 : Int) < (m2 : Int) := by omega
              go_wp2_with fail
              go_ret
              exact ⟨⟨false, rfl, fun h => by cases h⟩, Below.refl _ _⟩
            · have h8 : ¬ (100 : Int) < (m2 : Int) := by omega
              go_wp2_with fail
              exact ⟨⟨k + 1, by omega, by go_num, trivial⟩, by simp [intOf]; omega⟩
          · obtain rfl : k = km := by omega
            have h5 : ¬ (k : Int) < (k : Int) := by omega
            go_wp2_with fail
            exact ⟨⟨i + 1, by omega, by omega, by go_num, trivial⟩, by simp [intOf]; omega⟩
    · have hm80 : ∀ h : (m : Int) ≤ 80, m ≤ 80 := fun h => by omega
      by_cases him : i < m
      · have h1 : (i : Int) < (m : Int) := by omega
        have h2 : ¬ (i : Int) < 100 := by omega
        have h3 : ¬ (m : Int) ≤ 80 := by omega
        go_wp2_with fail
        go_ret
        exact ⟨⟨false, rfl, fun h => by cases h⟩, Below.refl _ _⟩
      · have h1 : ¬ (i : Int) < (m : Int) := by omega
        by_cases hm : m ≤ 80
        · have h3 : (m : Int) ≤ 80 := by omega
          go_wp2_with fail
          go_ret
          exact ⟨⟨true, rfl, fun _ => hm⟩, Below.refl _ _⟩
        · have h3 : ¬ (m : Int) ≤ 80 := by omega
          go_wp2_with fail
          go_ret
          exact ⟨⟨false, rfl, fun h => by cases h⟩, Below.refl _ _⟩
end Go.Proofs.Ytolmpopjonkfgaa
