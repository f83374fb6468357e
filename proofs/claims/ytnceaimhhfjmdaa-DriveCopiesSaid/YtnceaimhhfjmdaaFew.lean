/-
  Acts among the arguments; are there few acts?
-/
import Derived.Test.YtnceaimhhfjmdaaAlike
set_option linter.unusedSimpArgs false
set_option linter.unusedVariables false
namespace Go.Proofs.Ytnceaimhhfjmdaa
open Go.RowKit Go.Cib
attribute [local go_sem] cell_set Later.cell Later.frozen Grw.cell Grw.frozen
attribute [local go_sem ↓] run_min_as run_max_as

/-- An act, as it lies. -/
def ActR (S : Nat → Prop) (w : World) (cs : List Value) (a : ActV) : Prop := ∃ KA km kc BA bm bc, cs = [.int .i64 a.kind, .int .i64 a.at_, .int .i64 a.off, .int .u8 a.c, .int .u32 a.mask, .slice KA km kc, .slice BA bm bc] ∧ RdL BoolR 1 S w KA km a.keep ∧ RdL U8R 1 S w BA bm a.b
theorem ActR.stable : Stable ActR := by
  rintro S S' w w' cs e ⟨KA, km, kc, BA, bm, bc, rfl, h1, h2⟩ hk
  exact ⟨KA, km, kc, BA, bm, bc, rfl, h1.stable BoolR.stable hk, h2.stable U8R.stable hk⟩
theorem act_at {S : Nat → Prop} {w : World} {A : Option Addr} {m : Nat} {xs : List ActV} (h : RdL ActR 7 S w A m xs) {i : Nat} (hi : i < m) : ∃ b o a KA km kc BA bm bc, A = some ⟨b, o, none⟩ ∧ xs[i]? = some a ∧ RdL BoolR 1 S w KA km a.keep ∧ RdL U8R 1 S w BA bm a.b ∧
    ∀ w', Below w.heap.size w w' → w'.cell? ⟨b, o + i * 7, none⟩ = some (.int .i64 a.kind) ∧ w'.cell? ⟨b, o + i * 7 + 1, none⟩ = some (.int .i64 a.at_) ∧ w'.cell? ⟨b, o + i * 7 + 2, none⟩ = some (.int .i64 a.off) ∧ w'.cell? ⟨b, o + i * 7 + 3, none⟩ = some (.int .u8 a.c) ∧ w'.cell? ⟨b, o + i * 7 + 4, none⟩ = some (.int .u32 a.mask) ∧ w'.cell? ⟨b, o + i * 7 + 5, none⟩ = some (.slice KA km kc) ∧ w'.cell? ⟨b, o + i * 7 + 6, none⟩ = some (.slice BA bm bc) := by
  obtain ⟨b, o, rfl, _, hlt⟩ := h.addr hi
  obtain ⟨hl, cs, h1, h2, h3⟩ := h.at hi
  obtain ⟨KA, km, kc, BA, bm, bc, rfl, r1, r2⟩ := h2
  refine ⟨b, o, xs[i], KA, km, kc, BA, bm, bc, rfl, by simp [hl], r1, r2, fun w' hb => ?_⟩
  have hc : ∀ j v, _ → w'.cell? ⟨b, o + i * 7 + j, none⟩ = some v := fun j v hj => by rw [hb.cell (p := ⟨b, _, none⟩) hlt]; exact h3 j v hj
  exact ⟨hc 0 _ rfl, hc 1 _ rfl, hc 2 _ rfl, hc 3 _ rfl, hc 4 _ rfl, hc 5 _ rfl, hc 6 _ rfl⟩

def FewE (m : Nat) (e : Ending) : Prop := ∃ r : Bool, e = .returned (.bool r) ∧ (r = true → m ≤ 100)
set_option maxRecDepth 100000 in
set_option maxHeartbeats 4000000 in
theorem few_any {S : Nat → Prop} {w : World} {A : Option Addr} {m c : Nat} {xs : List ActV} (R : Hid (RdL ActR 7 S w A m xs)) :
    Calls Try.prog 39 #[.int .i64 0, .slice A m c] w fun e w' => FewE m e ∧ Below w.heap.size w w' := by
  go_enter Try.func39, Try.ntmps39
  go_wp2_with fail
  go_loopw [5, 6] (fun vl vi wr => ∃ (i : Nat) (L : Int), i ≤ m ∧ i ≤ 200 ∧ vl = .int .i64 L ∧ vi = .int .i64 i ∧ (4000 - 10000 * (i : Int) ≤ L ∧ L ≤ 4000) ∧ Hid (Below w.heap.size w wr)) (fun _ vi _ => 200 - (intOf vi).toNat)
  case atStart => exact ⟨0, 4000, Nat.zero_le _, by omega, rfl, rfl, by omega, Lib.hid (Below.refl _ _)⟩
  case round =>
    obtain ⟨i, L, hi, h200, rfl, rfl, hL, hb⟩ := hrel
    by_cases hlt : i < m ∧ i < 200
    · obtain ⟨b, o, a, KA, km, kc, BA, bm, bc, rfl, hx, _, _, hcells⟩ := act_at R.out hlt.1
      obtain ⟨_, _, _, _, _, y5, y6⟩ := hcells wr hb.out
      have h1 : (i : Int) < (m : Int) := by omega
      have h2 : (i : Int) < 200 := by omega
      have h3 : (0 : Int) ≤ (i : Int) := Int.natCast_nonneg _
      obtain ⟨k1, hk1⟩ : ∃ k, min (km : Int) 5000 = k := ⟨_, rfl⟩
      obtain ⟨k2, hk2⟩ : ∃ k, min (bm : Int) 5000 = k := ⟨_, rfl⟩
      have r1 : 0 ≤ k1 ∧ k1 ≤ 5000 := by omega
      have r2 : 0 ≤ k2 ∧ k2 ≤ 5000 := by omega
      have w1 : IntKind.i64.wrap (L - k1) = L - k1 := by rw [IntKind.wrap_i64]; omega
      have w2 : IntKind.i64.wrap (L - k1 - k2) = L - k1 - k2 := by rw [IntKind.wrap_i64]; omega
      have hL2 := Lib.hid hL
      have rr1 := Lib.hid r1
      have rr2 := Lib.hid r2
      clear hcells hL r1 r2
      go_wp2_with fail
      refine wp_region_held_drew (S := fun w' => w'.cell? ⟨b, o + i * 7 + 5, none⟩ = some (.slice KA km kc) ∧ w'.cell? ⟨b, o + i * 7 + 6, none⟩ = some (.slice BA bm bc)) (by kernel_rfl) (by exact ⟨y5, y6⟩) (fun hHeld => ?_)
      refine wpAnyH_take (i := 0) (v := ?_) rfl (by kernel_rfl) (by kernel_rfl) (by kernel_rfl) (fun _ _ _ h => h) (Or.inl ⟨by rfl, ?_⟩) (by assumption) ?_
      rotate_left
      · (intro wq hSw; (try dsimp only at hSw); (try simp only [List.getElem_toArray, List.getElem_cons_succ, List.getElem_cons_zero]); go_simp); try with_reducible rfl
      try simp only [List.getElem_toArray, List.getElem_cons_succ, List.getElem_cons_zero, Act.put, List.setIfInBounds_toArray, List.set_cons_zero, List.set_cons_succ]
      refine wpAnyH_take (i := 1) (v := ?_) rfl (by kernel_rfl) (by kernel_rfl) (by kernel_rfl) (fun _ _ _ h => h) (Or.inl ⟨by rfl, ?_⟩) (by assumption) ?_
      rotate_left
      · (intro wq hSw; (try dsimp only at hSw); (try simp only [List.getElem_toArray, List.getElem_cons_succ, List.getElem_cons_zero]); go_simp); try with_reducible rfl
      try simp only [List.getElem_toArray, List.getElem_cons_succ, List.getElem_cons_zero, Act.put, List.setIfInBounds_toArray, List.set_cons_zero, List.set_cons_succ]
      refine wpAnyH_take (i := 2) (v := ?_) rfl (by kernel_rfl) (by kernel_rfl) (by kernel_rfl) (fun _ _ _ h => h) (Or.inl ⟨by rfl, ?_⟩) (by assumption) ?_
      rotate_left
      · (intro wq hSw; (try dsimp only at hSw); (try simp only [List.getElem_toArray, List.getElem_cons_succ, List.getElem_cons_zero]); go_simp); try with_reducible rfl
      try simp only [List.getElem_toArray, List.getElem_cons_succ, List.getElem_cons_zero, Act.put, List.setIfInBounds_toArray, List.set_cons_zero, List.set_cons_succ]
      refine wpAnyH_take (i := 3) (v := ?_) rfl (by kernel_rfl) (by kernel_rfl) (by kernel_rfl) (fun _ _ _ h => h) (Or.inl ⟨by rfl, ?_⟩) (by assumption) ?_
      rotate_left
      · (intro wq hSw; (try dsimp only at hSw); (try simp only [List.getElem_toArray, List.getElem_cons_succ, List.getElem_cons_zero]); go_simp); try with_reducible rfl
      try simp only [List.getElem_toArray, List.getElem_cons_succ, List.getElem_cons_zero, Act.put, List.setIfInBounds_toArray, List.set_cons_zero, List.set_cons_succ]
      refine wpAnyH_take (i := 4) (v := ?_) rfl (by kernel_rfl) (by kernel_rfl) (by kernel_rfl) (fun _ _ _ h => h) (Or.inl ⟨by rfl, ?_⟩) (by assumption) ?_
      rotate_left
      · (intro wq hSw; (try dsimp only at hSw); (try simp only [List.getElem_toArray, List.getElem_cons_succ, List.getElem_cons_zero]); go_simp); try with_reducible rfl
      try simp only [List.getElem_toArray, List.getElem_cons_succ, List.getElem_cons_zero, Act.put, List.setIfInBounds_toArray, List.set_cons_zero, List.set_cons_succ]
      refine wpAnyH_take (i := 5) (v := ?_) rfl (by kernel_rfl) (by kernel_rfl) (by kernel_rfl) (fun _ _ _ h => h) (Or.inl ⟨by rfl, ?_⟩) (by assumption) ?_
      rotate_left
      · (intro wq hSw; (try dsimp only at hSw); (try simp only [List.getElem_toArray, List.getElem_cons_succ, List.getElem_cons_zero]); go_simp); try with_reducible rfl
      try simp only [List.getElem_toArray, List.getElem_cons_succ, List.getElem_cons_zero, Act.put, List.setIfInBounds_toArray, List.set_cons_zero, List.set_cons_succ]
      refine wpAnyH_take (i := 6) (v := ?_) rfl (by kernel_rfl) (by kernel_rfl) (by kernel_rfl) (fun _ _ _ h => h) (Or.inl ⟨by rfl, ?_⟩) (by assumption) ?_
      rotate_left
      · (intro wq hSw; (try dsimp only at hSw); (try simp only [List.getElem_toArray, List.getElem_cons_succ, List.getElem_cons_zero]); go_simp); try with_reducible rfl
      try simp only [List.getElem_toArray, List.getElem_cons_succ, List.getElem_cons_zero, Act.put, List.setIfInBounds_toArray, List.set_cons_zero, List.set_cons_succ]
      refine wpAnyH_take (i := 7) (v := ?_) rfl (by kernel_rfl) (by kernel_rfl) (by kernel_rfl) (fun _ _ _ h => h) (Or.inl ⟨by rfl, ?_⟩) (by assumption) ?_
      rotate_left
      · (intro wq hSw; (try dsimp only at hSw); (try simp only [List.getElem_toArray, List.getElem_cons_succ, List.getElem_cons_zero]); go_simp); try with_reducible rfl
      try simp only [List.getElem_toArray, List.getElem_cons_succ, List.getElem_cons_zero, Act.put, List.setIfInBounds_toArray, List.set_cons_zero, List.set_cons_succ]
      refine wpAnyH_take (i := 8) (v := ?_) rfl (by kernel_rfl) (by kernel_rfl) (by kernel_rfl) (fun _ _ _ h => h) (Or.inl ⟨by rfl, ?_⟩) (by assumption) ?_
      rotate_left
      · (intro wq hSw; (try dsimp only at hSw); (try simp only [List.getElem_toArray, List.getElem_cons_succ, List.getElem_cons_zero]); go_simp); try with_reducible rfl
      try simp only [List.getElem_toArray, List.getElem_cons_succ, List.getElem_cons_zero, Act.put, List.setIfInBounds_toArray, List.set_cons_zero, List.set_cons_succ]
      refine wpAnyH_take (i := 9) (v := ?_) rfl (by kernel_rfl) (by kernel_rfl) (by kernel_rfl) (fun _ _ _ h => h) (Or.inl ⟨by rfl, ?_⟩) (by assumption) ?_
      rotate_left
      · (intro wq hSw; (try dsimp only at hSw); (try simp only [List.getElem_toArray, List.getElem_cons_succ, List.getElem_cons_zero]); go_simp); try with_reducible rfl
      try simp only [List.getElem_toArray, List.getElem_cons_succ, List.getElem_cons_zero, Act.put, List.setIfInBounds_toArray, List.set_cons_zero, List.set_cons_succ]
      refine wpAnyH_take (i := 10) (v := ?_) rfl (by kernel_rfl) (by kernel_rfl) (by kernel_rfl) (fun _ _ _ h => h) (Or.inl ⟨by rfl, ?_⟩) (by assumption) ?_
      rotate_left
      · (intro wq hSw; (try dsimp only at hSw); (try simp only [List.getElem_toArray, List.getElem_cons_succ, List.getElem_cons_zero]); go_simp); try with_reducible rfl
      try simp only [List.getElem_toArray, List.getElem_cons_succ, List.getElem_cons_zero, Act.put, List.setIfInBounds_toArray, List.set_cons_zero, List.set_cons_succ]
      refine wpAnyH_take (i := 11) (v := ?_) rfl (by kernel_rfl) (by kernel_rfl) (by kernel_rfl) (fun _ _ _ h => h) (Or.inl ⟨by rfl, ?_⟩) (by assumption) ?_
      rotate_left
      · (intro wq hSw; (try dsimp only at hSw); (try simp only [List.getElem_toArray, List.getElem_cons_succ, List.getElem_cons_zero]); go_simp); try with_reducible rfl
      try simp only [List.getElem_toArray, List.getElem_cons_succ, List.getElem_cons_zero, Act.put, List.setIfInBounds_toArray, List.set_cons_zero, List.set_cons_succ]
      refine wpAnyH_take (i := 12) (v := ?_) rfl (by kernel_rfl) (by kernel_rfl) (by kernel_rfl) (fun _ _ _ h => h) (Or.inl ⟨by rfl, ?_⟩) (by assumption) ?_
      rotate_left
      · (intro wq hSw; (try dsimp only at hSw); (try simp only [List.getElem_toArray, List.getElem_cons_succ, List.getElem_cons_zero]); go_simp); try with_reducible rfl
      try simp only [List.getElem_toArray, List.getElem_cons_succ, List.getElem_cons_zero, Act.put, List.setIfInBounds_toArray, List.set_cons_zero, List.set_cons_succ]
      refine wpAnyH_take (i := 13) (v := ?_) rfl (by kernel_rfl) (by kernel_rfl) (by kernel_rfl) (fun _ _ _ h => h) (Or.inl ⟨by rfl, ?_⟩) (by assumption) ?_
      rotate_left
      · (intro wq hSw; (try dsimp only at hSw); (try simp only [List.getElem_toArray, List.getElem_cons_succ, List.getElem_cons_zero]); go_simp); try with_reducible rfl
      try simp only [List.getElem_toArray, List.getElem_cons_succ, List.getElem_cons_zero, Act.put, List.setIfInBounds_toArray, List.set_cons_zero, List.set_cons_succ]
      refine wpAnyH_take (i := 14) (v := ?_) rfl (by kernel_rfl) (by kernel_rfl) (by kernel_rfl) (fun _ _ _ h => h) (Or.inl ⟨by rfl, ?_⟩) (by assumption) ?_
      rotate_left
      · (intro wq hSw; (try dsimp only at hSw); (try simp only [List.getElem_toArray, List.getElem_cons_succ, List.getElem_cons_zero]); go_simp); try with_reducible rfl
      try simp only [List.getElem_toArray, List.getElem_cons_succ, List.getElem_cons_zero, Act.put, List.setIfInBounds_toArray, List.set_cons_zero, List.set_cons_succ]
      refine wpAnyH_take (i := 15) (v := ?_) rfl (by kernel_rfl) (by kernel_rfl) (by kernel_rfl) (fun _ _ _ h => h) (Or.inl ⟨by rfl, ?_⟩) (by assumption) ?_
      rotate_left
      · (intro wq hSw; (try dsimp only at hSw); (try simp only [List.getElem_toArray, List.getElem_cons_succ, List.getElem_cons_zero]); go_simp); try with_reducible rfl
      try simp only [List.getElem_toArray, List.getElem_cons_succ, List.getElem_cons_zero, Act.put, List.setIfInBounds_toArray, List.set_cons_zero, List.set_cons_succ]
      refine wpAnyH_take (i := 16) (v := ?_) rfl (by kernel_rfl) (by kernel_rfl) (by kernel_rfl) (fun _ _ _ h => h) (Or.inl ⟨by rfl, ?_⟩) (by assumption) ?_
      rotate_left
      · (intro wq hSw; (try dsimp only at hSw); (try simp only [List.getElem_toArray, List.getElem_cons_succ, List.getElem_cons_zero]); go_simp); try with_reducible rfl
      try simp only [List.getElem_toArray, List.getElem_cons_succ, List.getElem_cons_zero, Act.put, List.setIfInBounds_toArray, List.set_cons_zero, List.set_cons_succ]
      refine wpAnyH_take (i := 17) (v := ?_) rfl (by kernel_rfl) (by kernel_rfl) (by kernel_rfl) (fun _ _ _ h => h) (Or.inl ⟨by rfl, ?_⟩) (by assumption) ?_
      rotate_left
      · (intro wq hSw; (try dsimp only at hSw); (try simp only [List.getElem_toArray, List.getElem_cons_succ, List.getElem_cons_zero]); go_simp); try with_reducible rfl
      try simp only [List.getElem_toArray, List.getElem_cons_succ, List.getElem_cons_zero, Act.put, List.setIfInBounds_toArray, List.set_cons_zero, List.set_cons_succ]
      refine wpAnyH_done (by kernel_rfl) ?_ _
      go_wp2_with fail
      have := hL2.out; have := rr1.out; have := rr2.out
      exact ⟨⟨i + 1, L - k1 - k2, by omega, by omega, rfl, by go_num, by omega, Lib.hid hb.out.drew⟩, by simp [intOf]; omega⟩
    · by_cases him : i < m
      · have h1 : (i : Int) < (m : Int) := by omega
        have h2 : ¬ (i : Int) < 200 := by omega
        have h3 : ¬ (m : Int) ≤ 100 := by omega
        go_wp2_with fail
        go_ret
        exact ⟨⟨false, rfl, fun h => by cases h⟩, hb.out⟩
      · have h1 : ¬ (i : Int) < (m : Int) := by omega
        by_cases hm : m ≤ 100
        · have h3 : (m : Int) ≤ 100 := by omega
          by_cases h0 : 0 ≤ L
          · go_wp2_with fail
            go_ret
            exact ⟨⟨true, rfl, fun _ => hm⟩, hb.out⟩
          · go_wp2_with fail
            go_ret
            exact ⟨⟨false, rfl, fun _ => hm⟩, hb.out⟩
        · have h3 : ¬ (m : Int) ≤ 100 := by omega
          go_wp2_with fail
          go_ret
          exact ⟨⟨false, rfl, fun h => by cases h⟩, hb.out⟩
end Go.Proofs.Ytnceaimhhfjmdaa
