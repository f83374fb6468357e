/-
  ArrayApart, walked.
-/
import Derived.Test.YtolmpopjonkfgaaApart2
set_option linter.unusedSimpArgs false
set_option linter.unusedVariables false
namespace Go.Proofs.Ytolmpopjonkfgaa
open Go.RowKit Go.Cib
attribute [local go_sem] cell_set Later.cell Later.frozen Grw.cell Grw.frozen
attribute [local go_sem ↓] run_min_as run_max_as

set_option maxRecDepth 100000 in
theorem apart_bad (n s d : Int) (A : Option Addr) (m cc : Nat) (w : World) (h : ¬ (2 ≤ n ∧ n ≤ 8 ∧ 1 ≤ s ∧ s ≤ 10 ∧ 0 ≤ d ∧ d < n)) :
    Calls Try.prog 8 #[.int .i64 n, .int .i64 s, .int .i64 d, .slice A m cc] w fun e w' => e = .returned (.bool true) ∧ Below w.heap.size w w' := by
  by_cases h0 : n < 2
  · have d0 : decide (n < 2) = true := by simpa using h0
    go_enter Try.func8, Try.ntmps8
    go_wp2_with fail
    refine (stands_any w).mono ?_
    rintro e w' ⟨rfl, hb⟩
    go_wp2_with fail
    go_ret
    exact ⟨rfl, hb⟩
  have d0 : decide (n < 2) = false := by simpa using h0
  by_cases h1 : 8 < n
  · have d1 : decide (8 < n) = true := by simpa using h1
    go_enter Try.func8, Try.ntmps8
    go_wp2_with fail
    refine (stands_any w).mono ?_
    rintro e w' ⟨rfl, hb⟩
    go_wp2_with fail
    go_ret
    exact ⟨rfl, hb⟩
  have d1 : decide (8 < n) = false := by simpa using h1
  by_cases h2 : s < 1
  · have d2 : decide (s < 1) = true := by simpa using h2
    go_enter Try.func8, Try.ntmps8
    go_wp2_with fail
    refine (stands_any w).mono ?_
    rintro e w' ⟨rfl, hb⟩
    go_wp2_with fail
    go_ret
    exact ⟨rfl, hb⟩
  have d2 : decide (s < 1) = false := by simpa using h2
  by_cases h3 : 10 < s
  · have d3 : decide (10 < s) = true := by simpa using h3
    go_enter Try.func8, Try.ntmps8
    go_wp2_with fail
    refine (stands_any w).mono ?_
    rintro e w' ⟨rfl, hb⟩
    go_wp2_with fail
    go_ret
    exact ⟨rfl, hb⟩
  have d3 : decide (10 < s) = false := by simpa using h3
  by_cases h4 : d < 0
  · have d4 : decide (d < 0) = true := by simpa using h4
    go_enter Try.func8, Try.ntmps8
    go_wp2_with fail
    refine (stands_any w).mono ?_
    rintro e w' ⟨rfl, hb⟩
    go_wp2_with fail
    go_ret
    exact ⟨rfl, hb⟩
  have d4 : decide (d < 0) = false := by simpa using h4
  have d9 : decide (n ≤ d) = true := decide_eq_true (by omega)
  go_enter Try.func8, Try.ntmps8
  go_wp2_with fail
  refine (stands_any w).mono ?_
  rintro e w' ⟨rfl, hb⟩
  go_wp2_with fail
  go_ret
  exact ⟨rfl, hb⟩

/-- Drives of which none is dead or spoilt. -/
def Sound (t : Nat) (sts : List DSt) : Prop := ∀ st ∈ sts, st.dead = false ∧ st.cache.length ≤ t ∧ ∀ r ∈ st.rotten, r = false
theorem Sound.new (n s : Nat) : Sound 0 (List.replicate n (DSt.new s)) := fun st h => by
  have := List.eq_of_mem_replicate h
  subst this
  exact ⟨rfl, by simp [DSt.new], fun r hr => by simp [DSt.new] at hr; exact hr.2⟩
theorem Sound.put {t : Nat} {sts : List DSt} (h : Sound t sts) (s : Nat) (z : Int) (rows : List (List Int)) : Sound (t + 1) (sts.mapIdx (putG s z rows)) := fun st hst => by
  obtain ⟨d, hd, rfl⟩ := List.mem_iff_getElem.1 hst
  rw [List.getElem_mapIdx]
  obtain ⟨h1, h2, h3⟩ := h _ (List.getElem_mem (show d < sts.length by simpa using hd))
  unfold putG wrDA
  split
  · split
    · exact ⟨h1, by simp [DSt.write]; omega, h3⟩
    · exact ⟨h1, by omega, h3⟩
  · exact ⟨h1, by omega, h3⟩
theorem Sound.cache {t : Nat} {sts : List DSt} (h : Sound t sts) (ht : t < 1000) : ∀ st ∈ sts, st.cache.length < 1000000 := fun st hst => by have := (h st hst).2.1; omega
theorem cnt_four : ∀ n, n < 9 → cnt ((List.range n).map (fun d => decide (d < 4))) = min n 4 := by decide
theorem put_four {t n s z : Nat} {sts : List DSt} (h : Sound t sts) (hn : sts.length = n) (h8 : n ≤ 8) (hz : z < s) (c : Int) : cnt (sts.mapIdx (putOk s z (rowsL c 4))) = min n 4 := by
  rw [← cnt_four n (by omega)]
  congr 1
  apply List.ext_getElem?
  intro d
  rw [List.getElem?_mapIdx, List.getElem?_map]
  by_cases hd : d < n
  · rw [List.getElem?_eq_getElem (by omega), List.getElem?_range hd]
    simp only [Option.map_some, Option.some.injEq]
    have hst := (h sts[d] (List.getElem_mem (by omega))).1
    have h1 : readyE (sts[d]'(by omega)).dead s z = 0 := (ready_iff _ s z).2 ⟨hst, by omega, by omega⟩
    by_cases h4 : d < 4
    · have hr : (rAt (rowsL c 4) d).length = 64 := by
        have : (rowsL c 4)[d]? = some (rep ((c + (d : Int)) % 256)) := by
          simp [rowsL, h4, rowAt]; omega
        unfold rAt; rw [List.getD, this]; exact rep_len _
      unfold putOk writeE
      simp [hr, h1, h4]
    · have hr : rAt (rowsL c 4) d = [] := by
        unfold rAt; rw [List.getD, List.getElem?_eq_none (by rw [rowsL_len]; omega)]; rfl
      unfold putOk
      simp [hr, h4]
  · rw [List.getElem?_eq_none (by omega), List.getElem?_eq_none (by simp; omega)]; rfl
/-- What the others are stays. -/
structure Others (n d t : Nat) (s0 sts : List DSt) : Prop where
  len : sts.length = n
  same : ∀ k, k ≠ d → sts[k]? = s0[k]?
  few : ∀ st, sts[d]? = some st → st.cache.length ≤ t
theorem Others.set {n d t : Nat} {s0 sts : List DSt} (h : Others n d t s0 sts) {st' : DSt} (hc : st'.cache.length ≤ t + 1) : Others n d (t + 1) s0 (sts.set d st') := by
  refine ⟨by simp [h.len], fun k hk => ?_, fun st hst => ?_⟩
  · rw [List.getElem?_set_ne (fun e => hk e.symm)]; exact h.same k hk
  · by_cases hd : d < sts.length
    · rw [List.getElem?_set_self hd] at hst
      injection hst with hst
      subst hst; exact hc
    · rw [List.getElem?_eq_none (by simp; omega)] at hst; cases hst
theorem wrDA_cache (s : Nat) (st : DSt) (z : Int) (bs : List Int) : (wrDA s st z bs).cache.length ≤ st.cache.length + 1 := by unfold wrDA; split <;> simp [DSt.write]
theorem rtDA_cache (s : Nat) (st : DSt) (z off mask : Int) : (rtDA s st z off mask).cache.length ≤ st.cache.length := by unfold rtDA; split <;> simp [DSt.rot, DSt.rotAt]

set_option maxRecDepth 100000 in
set_option maxHeartbeats 16000000 in
theorem apart_good (n s d : Nat) (A0 : Option Addr) (m cc0 : Nat) (w : World) (h2 : 2 ≤ n) (h8 : n ≤ 8) (hs1 : 1 ≤ s) (hs10 : s ≤ 10) (hd : d < n) {acts : List ActA} (R0 : Hid (RdL ActAR 7 (fun _ => True) w A0 m acts)) :
    Calls Try.prog 8 #[.int .i64 n, .int .i64 s, .int .i64 d, .slice A0 m cc0] w fun e w' => e = .returned (.bool true) ∧ Below w.heap.size w w' := by
  have d0 : (2 : Int) ≤ n := by omega
  have d1 : (n : Int) ≤ 8 := by omega
  have d2 : (1 : Int) ≤ s := by omega
  have d3 : (s : Int) ≤ 10 := by omega
  have d4 : (0 : Int) ≤ d := by omega
  have d5 : (d : Int) < n := by omega
  go_enter Try.func8, Try.ntmps8
  go_wp2_with fail
  refine (fewA_any R0).mono ?_
  rintro e w1 ⟨⟨r0, rfl, hm0⟩, s1⟩
  cases r0 with
  | false =>
    have S1 := Lib.hid s1
    clear s1 hm0
    go_wp2_with fail
    refine (stands_any w1).mono ?_
    rintro e w' ⟨rfl, hb⟩
    go_wp2_with fail
    go_ret
    exact ⟨rfl, S1.out.trans (hb.mono S1.out.size)⟩
  | true =>
  replace hm0 := hm0 rfl
  have S1 := Lib.hid s1
  have hnew := anew_any n s (by omega) (by omega) hs1 (by omega) w1
  clear s1
  go_wp2_with fail
  refine hnew.mono ?_
  rintro e w2 ⟨a, U, rfl, A1, hU1, t1⟩
  have HA := Lib.hid A1
  have HU : Hid (∀ b, U b → w.heap.size ≤ b) := Lib.hid fun b hb => Nat.le_trans S1.out.size (hU1 b hb)
  have T1 := Lib.hid (S1.out.trans (t1.mono S1.out.size))
  clear hnew A1 hU1 t1 S1
  obtain ⟨k4, hk4⟩ : ∃ k : Nat, min (n : Int) 4 = k := ⟨min n 4, by omega⟩
  have hk4n : k4 = min n 4 := by omega
  go_wp2_with fail
  go_loopw [10] (fun vi wr => ∃ (i : Nat) (U : Nat → Prop) (sts : List DSt), i ≤ s ∧ vi = .int .i64 i ∧ sts.length = n ∧ Hid (ArrAt U wr a s sts) ∧ Hid (∀ b, U b → w.heap.size ≤ b) ∧ Hid (Sound i sts) ∧ Hid (Below w.heap.size w wr)) (fun vi _ => s - (intOf vi).toNat)
  case atStart => exact ⟨0, U, _, Nat.zero_le _, rfl, by simp, HA, HU, Lib.hid (Sound.new n s), T1⟩
  case round =>
    clear HA HU T1
    obtain ⟨wo, rfl⟩ : ∃ wo, wo = wr := ⟨_, rfl⟩
    obtain ⟨i, U, sts, hi, rfl, hln, HA, HU, HN, T⟩ := hrel
    by_cases hlt : i < s
    · have q1 : (i : Int) < (s : Int) := by omega
      have q2 : (0 : Int) ≤ (i : Int) := Int.natCast_nonneg _
      have q3 : (i : Int) < 10 := by omega
      go_wp2_with fail
      refine (rowsOf_any _ 4 4 (.inl (by decide)) wo).mono ?_
      rintro e w3 ⟨AR, cR, rfl, RR, t3⟩
      have hput := aput_any (Lib.hid (HA.out.below t3)) (by omega) (by omega) (Lib.hid (HN.out.cache (by omega))) (i : Int) (c := cR) (Lib.hid RR) (fun b hb => ⟨fun hu => by have := HA.out.lt hu; omega, hb.2⟩)
      have hs3 := t3.size
      have T3 := Lib.hid (T.out.trans (t3.mono T.out.size))
      clear RR t3
      go_wp2_with fail
      refine hput.mono ?_
      rintro e w4 ⟨rfl, U4, A4, hU4, K4⟩
      rw [put_four HN.out hln h8 hlt, ← hk4n]
      have HA4 := Lib.hid A4
      have hs03 := T3.out.size
      have HU4 : Hid (∀ b, U4 b → w.heap.size ≤ b) := Lib.hid fun b hb => by
        by_cases hlt : b < w3.heap.size
        · exact HU.out b (hU4 b hb hlt)
        · have := K4.size; omega
      have T4 := Lib.hid (T3.out.trans (K4.below hs03 HU.out))
      clear hput A4 hU4 K4 hs3 hs03
      go_wp2_with fail
      exact ⟨⟨i + 1, U4, _, by omega, by go_num, by simpa using hln, HA4, HU4, Lib.hid (HN.out.put s _ _), T4⟩, by simp [intOf]; omega⟩
    · obtain rfl : i = s := by omega
      have q1 : ¬ (i : Int) < (i : Int) := by omega
      obtain ⟨v, Fs, ps, hB⟩ := HA.out
      have hcopy := acopy_any (Lib.hid hB) (by omega) (by omega) (Lib.hid (HN.out.cache (by omega)))
      clear hB
      go_wp2_with fail
      refine hcopy.mono ?_
      rintro e w5 ⟨bb, V, rfl, A5, hV5, t5⟩
      have HD : Hid (Duo w 0 w.heap.size U V w5 a bb i sts sts) := Lib.hid
        ⟨HA.out.below t5, A5, fun k hu hv => by have := HA.out.lt hu; have := hV5 k hv; omega, HU.out, fun k hu hlt => by have := HU.out k hu; omega, fun k hv => by have := hV5 k hv; have := T.out.size; omega,
         T.out.trans (t5.mono T.out.size), by have := T.out.size; have := t5.size; omega, Nat.le_refl _⟩
      have HO : Hid (Others n d (10 + 0) sts sts) := Lib.hid ⟨hln, fun _ _ => rfl, fun st hst => by have := (HN.out st (List.mem_of_getElem? hst)).2.1; omega⟩
      clear hcopy A5 hV5 t5 HA HU T q1
      have q1 : ¬ (i : Int) < (i : Int) := by omega
      go_wp2_with fail
      clear q1
      go_loopw [12] (fun vi wr => ∃ (j : Nat) (U : Nat → Prop) (sa : List DSt), j ≤ m ∧ vi = .int .i64 j ∧ Hid (Duo w 0 w.heap.size U V wr a bb i sa sts) ∧ Hid (Others n d (10 + j) sts sa)) (fun vi _ => m - (intOf vi).toNat)
      case atStart => exact ⟨0, U, sts, Nat.zero_le _, rfl, HD, HO⟩
      case round =>
        clear HD HO
        obtain ⟨wo2, rfl⟩ : ∃ wo2, wo2 = wr := ⟨_, rfl⟩
        obtain ⟨j, U2, sa, hj, rfl, D, O⟩ := hrel
        by_cases hlt2 : j < m
        · obtain ⟨b, o, x, KA, km, kc, rfl, hx, RK, hcells⟩ := actA_at R0.out hlt2
          obtain ⟨y0, y1, y2, y3, y4, y5, y6⟩ := hcells wo2 D.out.below
          have q1 : (j : Int) < (m : Int) := by omega
          have q2 : (0 : Int) ≤ (j : Int) := Int.natCast_nonneg _
          have q3 : (j : Int) < 80 := by omega
          clear hcells RK hx
          obtain ⟨st, hst⟩ : ∃ st, sa[d]? = some st := ⟨_, List.getElem?_eq_getElem (by rw [O.out.len]; exact hd)⟩
          have hfew := O.out.few st hst
          have hcst : st.cache.length < 1000000 := by omega
          have hsal : sa.length = n := O.out.len
          have bB : Below wo2.heap.size wo2 (wo2.alloc (.cells #[.int .i64 x.kind, .int .i64 d, .int .i64 x.at_, .int .i64 x.off, .int .u8 x.c, .int .u32 x.mask, .slice KA km kc] 75)) := (Below.refl _ _).alloc (Nat.le_refl _) _
          have X0 := BoxAt.new wo2 #[.int .i64 x.kind, .int .i64 d, .int .i64 x.at_, .int .i64 x.off, .int .u8 x.c, .int .u32 x.mask, .slice KA km kc] 75
          obtain ⟨wB, hwB⟩ : ∃ wB, wo2.alloc (.cells #[.int .i64 x.kind, .int .i64 d, .int .i64 x.at_, .int .i64 x.off, .int .u8 x.c, .int .u32 x.mask, .slice KA km kc] 75) = wB := ⟨_, rfl⟩
          rw [hwB] at bB X0
          have hnb : ¬ U2 wo2.heap.size := fun hu => by have := D.out.da.lt hu; omega
          have DB := Lib.hid (D.out.later bB)
          have p0 : wB.cell? ⟨wo2.heap.size, 0, none⟩ = some (.int .i64 x.kind) := X0.cell 0
          have p2 : wB.cell? ⟨wo2.heap.size, 2, none⟩ = some (.int .i64 x.at_) := X0.cell 2
          have p3 : wB.cell? ⟨wo2.heap.size, 3, none⟩ = some (.int .i64 x.off) := X0.cell 3
          have p4 : wB.cell? ⟨wo2.heap.size, 4, none⟩ = some (.int .u8 x.c) := X0.cell 4
          have p5 : wB.cell? ⟨wo2.heap.size, 5, none⟩ = some (.int .u32 x.mask) := X0.cell 5
          have hlB : wo2.heap.size < wB.heap.size := X0.lt
          have HO : Hid (∀ st' : DSt, st'.cache.length ≤ 10 + j + 1 → Others n d (10 + (j + 1)) sts (sa.set d st')) := Lib.hid fun st' h => O.out.set h
          have HST := Lib.hid hst
          clear bB X0 hst
          by_cases k0 : x.kind = 0
          · rw [k0] at y0 hwB p0
            clear p3 p5
            go_wp2_with fail
            clear hwB p0 y0 y1 y2 y3 y4 y5 y6
            refine wp_region_held_drew (S := fun w' => w'.cell? ⟨wo2.heap.size, 2, none⟩ = some (.int .i64 x.at_) ∧ w'.cell? ⟨wo2.heap.size, 4, none⟩ = some (.int .u8 x.c)) (by kernel_rfl) (by exact ⟨p2, p4⟩) (fun hHeld => ?_)
            refine wpAnyH_take (i := 0) (v := ?_) rfl (by kernel_rfl) (by kernel_rfl) (by kernel_rfl) (fun _ _ _ h => h) (Or.inl ⟨by rfl, ?_⟩) (by assumption) ?_
            rotate_left
            · (intro wq hSw; (try dsimp only at hSw); (try simp only [List.getElem_toArray, List.getElem_cons_succ, List.getElem_cons_zero]); go_simp); try with_reducible rfl
            try simp only [List.getElem_toArray, List.getElem_cons_succ, List.getElem_cons_zero, Act.put, List.setIfInBounds_toArray, List.set_cons_zero, List.set_cons_succ]
            refine wpAnyH_take (i := 1) (v := ?_) rfl (by kernel_rfl) (by kernel_rfl) (by kernel_rfl) (fun _ _ _ h => h) (Or.inl ⟨by rfl, ?_⟩) (by assumption) ?_
            rotate_left
            · (intro wq hSw; (try dsimp only at hSw); (try simp only [List.getElem_toArray, List.getElem_cons_succ, List.getElem_cons_zero]); go_simp); try with_reducible rfl
            try simp only [List.getElem_toArray, List.getElem_cons_succ, List.getElem_cons_zero, Act.put, List.setIfInBounds_toArray, List.set_cons_zero, List.set_cons_succ]
            refine wpAnyH_take (i := 2) (v := ?_) rfl (by kernel_rfl) (by kernel_rfl) (by kernel_rfl) (fun _ _ _ h => h) (Or.inl ⟨by rfl, ?_⟩) (by assumption) ?_
            rotate_left
            · (intro wq hSw; (try dsimp only at hSw); (try simp only [List.getElem_toArray, List.getElem_cons_succ, List.getElem_cons_zero]); go_simp); try with_reducible rfl
            try simp only [List.getElem_toArray, List.getElem_cons_succ, List.getElem_cons_zero, Act.put, List.setIfInBounds_toArray, List.set_cons_zero, List.set_cons_succ]
            refine wpAnyH_take (i := 3) (v := ?_) rfl (by kernel_rfl) (by kernel_rfl) (by kernel_rfl) (fun _ _ _ h => h) (Or.inl ⟨by rfl, ?_⟩) (by assumption) ?_
            rotate_left
            · (intro wq hSw; (try dsimp only at hSw); (try simp only [List.getElem_toArray, List.getElem_cons_succ, List.getElem_cons_zero]); go_simp); try with_reducible rfl
            try simp only [List.getElem_toArray, List.getElem_cons_succ, List.getElem_cons_zero, Act.put, List.setIfInBounds_toArray, List.set_cons_zero, List.set_cons_succ]
            refine wpAnyH_take (i := 4) (v := ?_) rfl (by kernel_rfl) (by kernel_rfl) (by kernel_rfl) (fun _ _ _ h => h) (Or.inl ⟨by rfl, ?_⟩) (by assumption) ?_
            rotate_left
            · (intro wq hSw; (try dsimp only at hSw); (try simp only [List.getElem_toArray, List.getElem_cons_succ, List.getElem_cons_zero]); go_simp); try with_reducible rfl
            try simp only [List.getElem_toArray, List.getElem_cons_succ, List.getElem_cons_zero, Act.put, List.setIfInBounds_toArray, List.set_cons_zero, List.set_cons_succ]
            refine wpAnyH_take (i := 5) (v := ?_) rfl (by kernel_rfl) (by kernel_rfl) (by kernel_rfl) (fun _ _ _ h => h) (Or.inl ⟨by rfl, ?_⟩) (by assumption) ?_
            rotate_left
            · (intro wq hSw; (try dsimp only at hSw); (try simp only [List.getElem_toArray, List.getElem_cons_succ, List.getElem_cons_zero]); go_simp); try with_reducible rfl
            try simp only [List.getElem_toArray, List.getElem_cons_succ, List.getElem_cons_zero, Act.put, List.setIfInBounds_toArray, List.set_cons_zero, List.set_cons_succ]
            refine wpAnyH_ready (rs := [6]) (by kernel_rfl) (by simp) ?_
            refine AllReadyH.cons rfl (fun K hK => ?_) AllReadyH.nil
            try simp only [List.getElem_toArray, List.getElem_cons_succ, List.getElem_cons_zero]
            go_simp
            refine (full_at x.c _).mono ?_
            rintro e w6 ⟨b6, o6, rfl, l6, l6', r6, t6⟩
            have T6 : Below wB.heap.size wB w6 := below_then t6 (Below.refl _ _).drew
            have D6 := Lib.hid (DB.out.later T6)
            have R6 := Lib.hid r6
            have hlb6 : wo2.heap.size < b6 := by have h := l6; simp only [World.size_drew] at h; omega
            have p2' : w6.cell? ⟨wo2.heap.size, 2, none⟩ = some (.int .i64 x.at_) := (T6.cell (p := ⟨wo2.heap.size, 2, none⟩) hlB).trans p2
            have p4' : w6.cell? ⟨wo2.heap.size, 4, none⟩ = some (.int .u8 x.c) := (T6.cell (p := ⟨wo2.heap.size, 4, none⟩) hlB).trans p4
            clear p2 p4
            have p2 := p2'
            have p4 := p4'
            clear p2' p4' l6 l6' r6 t6
            try (go_wp2_with fail)
            refine hK.out _ _ (by exact ⟨p2, p4⟩) (fun hHeld => ?_)
            clear hK K
            try simp only [List.getElem_toArray, List.getElem_cons_succ, List.getElem_cons_zero, Act.put, List.setIfInBounds_toArray, List.set_cons_zero, List.set_cons_succ]
            refine wpAnyH_ready (rs := [7]) (by kernel_rfl) (by simp) ?_
            refine AllReadyH.cons rfl (fun K hK => ?_) AllReadyH.nil
            try simp only [List.getElem_toArray, List.getElem_cons_succ, List.getElem_cons_zero]
            go_simp
            obtain ⟨v6, Fs6, ps6, hB6⟩ := D6.out.da
            refine (awrite_in (Lib.hid hB6) d HST.out x.at_ (S := (· = b6)) R6 (by rintro k rfl hu; have := D.out.da.lt hu; omega) hcst).mono ?_
            rintro e w7 ⟨rfl, u7⟩
            obtain ⟨U7, D7, K7⟩ := D6.out.updA u7
            have hl6 : wo2.heap.size < w6.heap.size := by have := T6.size; omega
            have p2' : w7.cell? ⟨wo2.heap.size, 2, none⟩ = some (.int .i64 x.at_) := (World.cell?_of_block (a := ⟨wo2.heap.size, 2, none⟩) (K7.block wo2.heap.size hl6 hnb)).trans p2
            have p4' : w7.cell? ⟨wo2.heap.size, 4, none⟩ = some (.int .u8 x.c) := (World.cell?_of_block (a := ⟨wo2.heap.size, 4, none⟩) (K7.block wo2.heap.size hl6 hnb)).trans p4
            clear p2 p4
            have p2 := p2'
            have p4 := p4'
            clear p2' p4' hB6 u7
            replace D7 := Lib.hid D7
            clear K7
            try (go_wp2_with fail)
            refine hK.out _ _ (by exact ⟨p2, p4⟩) (fun hHeld => ?_)
            clear hK K
            try simp only [List.getElem_toArray, List.getElem_cons_succ, List.getElem_cons_zero, Act.put, List.setIfInBounds_toArray, List.set_cons_zero, List.set_cons_succ]
            refine wpAnyH_done (by kernel_rfl) ?_ _
            go_wp2_with fail
            exact ⟨⟨j + 1, U7, _, by omega, by go_num, D7, Lib.hid (HO.out _ (Nat.le_trans (wrDA_cache _ _ _ _) (by omega)))⟩, by simp [intOf]; omega⟩
          by_cases k1 : x.kind = 1
          · rw [k1] at y0 hwB p0
            clear p3 p5
            go_wp2_with fail
            clear hwB p0 y0 y1 y2 y3 y4 y5 y6
            refine wp_region_held_drew (S := fun w' => w'.cell? ⟨wo2.heap.size, 2, none⟩ = some (.int .i64 x.at_) ∧ w'.cell? ⟨wo2.heap.size, 4, none⟩ = some (.int .u8 x.c)) (by kernel_rfl) (by exact ⟨p2, p4⟩) (fun hHeld => ?_)
            refine wpAnyH_take (i := 0) (v := ?_) rfl (by kernel_rfl) (by kernel_rfl) (by kernel_rfl) (fun _ _ _ h => h) (Or.inl ⟨by rfl, ?_⟩) (by assumption) ?_
            rotate_left
            · (intro wq hSw; (try dsimp only at hSw); (try simp only [List.getElem_toArray, List.getElem_cons_succ, List.getElem_cons_zero]); go_simp); try with_reducible rfl
            try simp only [List.getElem_toArray, List.getElem_cons_succ, List.getElem_cons_zero, Act.put, List.setIfInBounds_toArray, List.set_cons_zero, List.set_cons_succ]
            refine wpAnyH_take (i := 1) (v := ?_) rfl (by kernel_rfl) (by kernel_rfl) (by kernel_rfl) (fun _ _ _ h => h) (Or.inl ⟨by rfl, ?_⟩) (by assumption) ?_
            rotate_left
            · (intro wq hSw; (try dsimp only at hSw); (try simp only [List.getElem_toArray, List.getElem_cons_succ, List.getElem_cons_zero]); go_simp); try with_reducible rfl
            try simp only [List.getElem_toArray, List.getElem_cons_succ, List.getElem_cons_zero, Act.put, List.setIfInBounds_toArray, List.set_cons_zero, List.set_cons_succ]
            refine wpAnyH_take (i := 2) (v := ?_) rfl (by kernel_rfl) (by kernel_rfl) (by kernel_rfl) (fun _ _ _ h => h) (Or.inl ⟨by rfl, ?_⟩) (by assumption) ?_
            rotate_left
            · (intro wq hSw; (try dsimp only at hSw); (try simp only [List.getElem_toArray, List.getElem_cons_succ, List.getElem_cons_zero]); go_simp); try with_reducible rfl
            try simp only [List.getElem_toArray, List.getElem_cons_succ, List.getElem_cons_zero, Act.put, List.setIfInBounds_toArray, List.set_cons_zero, List.set_cons_succ]
            refine wpAnyH_take (i := 3) (v := ?_) rfl (by kernel_rfl) (by kernel_rfl) (by kernel_rfl) (fun _ _ _ h => h) (Or.inl ⟨by rfl, ?_⟩) (by assumption) ?_
            rotate_left
            · (intro wq hSw; (try dsimp only at hSw); (try simp only [List.getElem_toArray, List.getElem_cons_succ, List.getElem_cons_zero]); go_simp); try with_reducible rfl
            try simp only [List.getElem_toArray, List.getElem_cons_succ, List.getElem_cons_zero, Act.put, List.setIfInBounds_toArray, List.set_cons_zero, List.set_cons_succ]
            refine wpAnyH_take (i := 4) (v := ?_) rfl (by kernel_rfl) (by kernel_rfl) (by kernel_rfl) (fun _ _ _ h => h) (Or.inl ⟨by rfl, ?_⟩) (by assumption) ?_
            rotate_left
            · (intro wq hSw; (try dsimp only at hSw); (try simp only [List.getElem_toArray, List.getElem_cons_succ, List.getElem_cons_zero]); go_simp); try with_reducible rfl
            try simp only [List.getElem_toArray, List.getElem_cons_succ, List.getElem_cons_zero, Act.put, List.setIfInBounds_toArray, List.set_cons_zero, List.set_cons_succ]
            refine wpAnyH_take (i := 5) (v := ?_) rfl (by kernel_rfl) (by kernel_rfl) (by kernel_rfl) (fun _ _ _ h => h) (Or.inl ⟨by rfl, ?_⟩) (by assumption) ?_
            rotate_left
            · (intro wq hSw; (try dsimp only at hSw); (try simp only [List.getElem_toArray, List.getElem_cons_succ, List.getElem_cons_zero]); go_simp); try with_reducible rfl
            try simp only [List.getElem_toArray, List.getElem_cons_succ, List.getElem_cons_zero, Act.put, List.setIfInBounds_toArray, List.set_cons_zero, List.set_cons_succ]
            refine wpAnyH_ready (rs := [6]) (by kernel_rfl) (by simp) ?_
            refine AllReadyH.cons rfl (fun K hK => ?_) AllReadyH.nil
            try simp only [List.getElem_toArray, List.getElem_cons_succ, List.getElem_cons_zero]
            go_simp
            refine (full_at x.c _).mono ?_
            rintro e w6 ⟨b6, o6, rfl, l6, l6', r6, t6⟩
            have T6 : Below wB.heap.size wB w6 := below_then t6 (Below.refl _ _).drew
            have D6 := Lib.hid (DB.out.later T6)
            have R6 := Lib.hid r6
            have hlb6 : wo2.heap.size < b6 := by have h := l6; simp only [World.size_drew] at h; omega
            have p2' : w6.cell? ⟨wo2.heap.size, 2, none⟩ = some (.int .i64 x.at_) := (T6.cell (p := ⟨wo2.heap.size, 2, none⟩) hlB).trans p2
            have p4' : w6.cell? ⟨wo2.heap.size, 4, none⟩ = some (.int .u8 x.c) := (T6.cell (p := ⟨wo2.heap.size, 4, none⟩) hlB).trans p4
            clear p2 p4
            have p2 := p2'
            have p4 := p4'
            clear p2' p4' l6 l6' r6 t6
            try (go_wp2_with fail)
            refine hK.out _ _ (by exact ⟨p2, p4⟩) (fun hHeld => ?_)
            clear hK K
            try simp only [List.getElem_toArray, List.getElem_cons_succ, List.getElem_cons_zero, Act.put, List.setIfInBounds_toArray, List.set_cons_zero, List.set_cons_succ]
            refine wpAnyH_ready (rs := [7]) (by kernel_rfl) (by simp) ?_
            refine AllReadyH.cons rfl (fun K hK => ?_) AllReadyH.nil
            try simp only [List.getElem_toArray, List.getElem_cons_succ, List.getElem_cons_zero]
            go_simp
            obtain ⟨v6, Fs6, ps6, hB6⟩ := D6.out.da
            refine (awrite_in (Lib.hid hB6) d HST.out x.at_ (S := (· = b6)) R6 (by rintro k rfl hu; have := D.out.da.lt hu; omega) hcst).mono ?_
            rintro e w7 ⟨rfl, u7⟩
            obtain ⟨U7, D7, K7⟩ := D6.out.updA u7
            have hl6 : wo2.heap.size < w6.heap.size := by have := T6.size; omega
            have p2' : w7.cell? ⟨wo2.heap.size, 2, none⟩ = some (.int .i64 x.at_) := (World.cell?_of_block (a := ⟨wo2.heap.size, 2, none⟩) (K7.block wo2.heap.size hl6 hnb)).trans p2
            have p4' : w7.cell? ⟨wo2.heap.size, 4, none⟩ = some (.int .u8 x.c) := (World.cell?_of_block (a := ⟨wo2.heap.size, 4, none⟩) (K7.block wo2.heap.size hl6 hnb)).trans p4
            clear p2 p4
            have p2 := p2'
            have p4 := p4'
            clear p2' p4' hB6 u7
            replace D7 := Lib.hid D7
            clear K7
            try (go_wp2_with fail)
            refine hK.out _ _ (by exact ⟨p2, p4⟩) (fun hHeld => ?_)
            clear hK K
            try simp only [List.getElem_toArray, List.getElem_cons_succ, List.getElem_cons_zero, Act.put, List.setIfInBounds_toArray, List.set_cons_zero, List.set_cons_succ]
            refine wpAnyH_done (by kernel_rfl) ?_ _
            go_wp2_with fail
            exact ⟨⟨j + 1, U7, _, by omega, by go_num, D7, Lib.hid (HO.out _ (Nat.le_trans (wrDA_cache _ _ _ _) (by omega)))⟩, by simp [intOf]; omega⟩
          by_cases k2 : x.kind = 2
          · rw [k2] at y0 hwB p0
            clear p3 p5
            go_wp2_with fail
            clear hwB p0 y0 y1 y2 y3 y4 y5 y6
            refine wp_region_held_drew (S := fun w' => w'.cell? ⟨wo2.heap.size, 2, none⟩ = some (.int .i64 x.at_) ∧ w'.cell? ⟨wo2.heap.size, 4, none⟩ = some (.int .u8 x.c)) (by kernel_rfl) (by exact ⟨p2, p4⟩) (fun hHeld => ?_)
            refine wpAnyH_take (i := 0) (v := ?_) rfl (by kernel_rfl) (by kernel_rfl) (by kernel_rfl) (fun _ _ _ h => h) (Or.inl ⟨by rfl, ?_⟩) (by assumption) ?_
            rotate_left
            · (intro wq hSw; (try dsimp only at hSw); (try simp only [List.getElem_toArray, List.getElem_cons_succ, List.getElem_cons_zero]); go_simp); try with_reducible rfl
            try simp only [List.getElem_toArray, List.getElem_cons_succ, List.getElem_cons_zero, Act.put, List.setIfInBounds_toArray, List.set_cons_zero, List.set_cons_succ]
            refine wpAnyH_take (i := 1) (v := ?_) rfl (by kernel_rfl) (by kernel_rfl) (by kernel_rfl) (fun _ _ _ h => h) (Or.inl ⟨by rfl, ?_⟩) (by assumption) ?_
            rotate_left
            · (intro wq hSw; (try dsimp only at hSw); (try simp only [List.getElem_toArray, List.getElem_cons_succ, List.getElem_cons_zero]); go_simp); try with_reducible rfl
            try simp only [List.getElem_toArray, List.getElem_cons_succ, List.getElem_cons_zero, Act.put, List.setIfInBounds_toArray, List.set_cons_zero, List.set_cons_succ]
            refine wpAnyH_take (i := 2) (v := ?_) rfl (by kernel_rfl) (by kernel_rfl) (by kernel_rfl) (fun _ _ _ h => h) (Or.inl ⟨by rfl, ?_⟩) (by assumption) ?_
            rotate_left
            · (intro wq hSw; (try dsimp only at hSw); (try simp only [List.getElem_toArray, List.getElem_cons_succ, List.getElem_cons_zero]); go_simp); try with_reducible rfl
            try simp only [List.getElem_toArray, List.getElem_cons_succ, List.getElem_cons_zero, Act.put, List.setIfInBounds_toArray, List.set_cons_zero, List.set_cons_succ]
            refine wpAnyH_take (i := 3) (v := ?_) rfl (by kernel_rfl) (by kernel_rfl) (by kernel_rfl) (fun _ _ _ h => h) (Or.inl ⟨by rfl, ?_⟩) (by assumption) ?_
            rotate_left
            · (intro wq hSw; (try dsimp only at hSw); (try simp only [List.getElem_toArray, List.getElem_cons_succ, List.getElem_cons_zero]); go_simp); try with_reducible rfl
            try simp only [List.getElem_toArray, List.getElem_cons_succ, List.getElem_cons_zero, Act.put, List.setIfInBounds_toArray, List.set_cons_zero, List.set_cons_succ]
            refine wpAnyH_take (i := 4) (v := ?_) rfl (by kernel_rfl) (by kernel_rfl) (by kernel_rfl) (fun _ _ _ h => h) (Or.inl ⟨by rfl, ?_⟩) (by assumption) ?_
            rotate_left
            · (intro wq hSw; (try dsimp only at hSw); (try simp only [List.getElem_toArray, List.getElem_cons_succ, List.getElem_cons_zero]); go_simp); try with_reducible rfl
            try simp only [List.getElem_toArray, List.getElem_cons_succ, List.getElem_cons_zero, Act.put, List.setIfInBounds_toArray, List.set_cons_zero, List.set_cons_succ]
            refine wpAnyH_take (i := 5) (v := ?_) rfl (by kernel_rfl) (by kernel_rfl) (by kernel_rfl) (fun _ _ _ h => h) (Or.inl ⟨by rfl, ?_⟩) (by assumption) ?_
            rotate_left
            · (intro wq hSw; (try dsimp only at hSw); (try simp only [List.getElem_toArray, List.getElem_cons_succ, List.getElem_cons_zero]); go_simp); try with_reducible rfl
            try simp only [List.getElem_toArray, List.getElem_cons_succ, List.getElem_cons_zero, Act.put, List.setIfInBounds_toArray, List.set_cons_zero, List.set_cons_succ]
            refine wpAnyH_ready (rs := [6]) (by kernel_rfl) (by simp) ?_
            refine AllReadyH.cons rfl (fun K hK => ?_) AllReadyH.nil
            try simp only [List.getElem_toArray, List.getElem_cons_succ, List.getElem_cons_zero]
            go_simp
            refine (full_at x.c _).mono ?_
            rintro e w6 ⟨b6, o6, rfl, l6, l6', r6, t6⟩
            have T6 : Below wB.heap.size wB w6 := below_then t6 (Below.refl _ _).drew
            have D6 := Lib.hid (DB.out.later T6)
            have R6 := Lib.hid r6
            have hlb6 : wo2.heap.size < b6 := by have h := l6; simp only [World.size_drew] at h; omega
            have p2' : w6.cell? ⟨wo2.heap.size, 2, none⟩ = some (.int .i64 x.at_) := (T6.cell (p := ⟨wo2.heap.size, 2, none⟩) hlB).trans p2
            have p4' : w6.cell? ⟨wo2.heap.size, 4, none⟩ = some (.int .u8 x.c) := (T6.cell (p := ⟨wo2.heap.size, 4, none⟩) hlB).trans p4
            clear p2 p4
            have p2 := p2'
            have p4 := p4'
            clear p2' p4' l6 l6' r6 t6
            try (go_wp2_with fail)
            refine hK.out _ _ (by exact ⟨p2, p4⟩) (fun hHeld => ?_)
            clear hK K
            try simp only [List.getElem_toArray, List.getElem_cons_succ, List.getElem_cons_zero, Act.put, List.setIfInBounds_toArray, List.set_cons_zero, List.set_cons_succ]
            refine wpAnyH_ready (rs := [7]) (by kernel_rfl) (by simp) ?_
            refine AllReadyH.cons rfl (fun K hK => ?_) AllReadyH.nil
            try simp only [List.getElem_toArray, List.getElem_cons_succ, List.getElem_cons_zero]
            go_simp
            obtain ⟨v6, Fs6, ps6, hB6⟩ := D6.out.da
            refine (awrite_in (Lib.hid hB6) d HST.out x.at_ (S := (· = b6)) R6 (by rintro k rfl hu; have := D.out.da.lt hu; omega) hcst).mono ?_
            rintro e w7 ⟨rfl, u7⟩
            obtain ⟨U7, D7, K7⟩ := D6.out.updA u7
            have hl6 : wo2.heap.size < w6.heap.size := by have := T6.size; omega
            have p2' : w7.cell? ⟨wo2.heap.size, 2, none⟩ = some (.int .i64 x.at_) := (World.cell?_of_block (a := ⟨wo2.heap.size, 2, none⟩) (K7.block wo2.heap.size hl6 hnb)).trans p2
            have p4' : w7.cell? ⟨wo2.heap.size, 4, none⟩ = some (.int .u8 x.c) := (World.cell?_of_block (a := ⟨wo2.heap.size, 4, none⟩) (K7.block wo2.heap.size hl6 hnb)).trans p4
            clear p2 p4
            have p2 := p2'
            have p4 := p4'
            clear p2' p4' hB6 u7
            replace D7 := Lib.hid D7
            clear K7
            try (go_wp2_with fail)
            refine hK.out _ _ (by exact ⟨p2, p4⟩) (fun hHeld => ?_)
            clear hK K
            try simp only [List.getElem_toArray, List.getElem_cons_succ, List.getElem_cons_zero, Act.put, List.setIfInBounds_toArray, List.set_cons_zero, List.set_cons_succ]
            refine wpAnyH_done (by kernel_rfl) ?_ _
            go_wp2_with fail
            exact ⟨⟨j + 1, U7, _, by omega, by go_num, D7, Lib.hid (HO.out _ (Nat.le_trans (wrDA_cache _ _ _ _) (by omega)))⟩, by simp [intOf]; omega⟩
          by_cases k3 : x.kind = 3
          · rw [k3] at y0 hwB p0
            clear p3 p5
            go_wp2_with fail
            clear hwB p0 y0 y1 y2 y3 y4 y5 y6
            refine wp_region_held_drew (S := fun w' => w'.cell? ⟨wo2.heap.size, 2, none⟩ = some (.int .i64 x.at_) ∧ w'.cell? ⟨wo2.heap.size, 4, none⟩ = some (.int .u8 x.c)) (by kernel_rfl) (by exact ⟨p2, p4⟩) (fun hHeld => ?_)
            refine wpAnyH_take (i := 0) (v := ?_) rfl (by kernel_rfl) (by kernel_rfl) (by kernel_rfl) (fun _ _ _ h => h) (Or.inl ⟨by rfl, ?_⟩) (by assumption) ?_
            rotate_left
            · (intro wq hSw; (try dsimp only at hSw); (try simp only [List.getElem_toArray, List.getElem_cons_succ, List.getElem_cons_zero]); go_simp); try with_reducible rfl
            try simp only [List.getElem_toArray, List.getElem_cons_succ, List.getElem_cons_zero, Act.put, List.setIfInBounds_toArray, List.set_cons_zero, List.set_cons_succ]
            refine wpAnyH_take (i := 1) (v := ?_) rfl (by kernel_rfl) (by kernel_rfl) (by kernel_rfl) (fun _ _ _ h => h) (Or.inl ⟨by rfl, ?_⟩) (by assumption) ?_
            rotate_left
            · (intro wq hSw; (try dsimp only at hSw); (try simp only [List.getElem_toArray, List.getElem_cons_succ, List.getElem_cons_zero]); go_simp); try with_reducible rfl
            try simp only [List.getElem_toArray, List.getElem_cons_succ, List.getElem_cons_zero, Act.put, List.setIfInBounds_toArray, List.set_cons_zero, List.set_cons_succ]
            refine wpAnyH_take (i := 2) (v := ?_) rfl (by kernel_rfl) (by kernel_rfl) (by kernel_rfl) (fun _ _ _ h => h) (Or.inl ⟨by rfl, ?_⟩) (by assumption) ?_
            rotate_left
            · (intro wq hSw; (try dsimp only at hSw); (try simp only [List.getElem_toArray, List.getElem_cons_succ, List.getElem_cons_zero]); go_simp); try with_reducible rfl
            try simp only [List.getElem_toArray, List.getElem_cons_succ, List.getElem_cons_zero, Act.put, List.setIfInBounds_toArray, List.set_cons_zero, List.set_cons_succ]
            refine wpAnyH_take (i := 3) (v := ?_) rfl (by kernel_rfl) (by kernel_rfl) (by kernel_rfl) (fun _ _ _ h => h) (Or.inl ⟨by rfl, ?_⟩) (by assumption) ?_
            rotate_left
            · (intro wq hSw; (try dsimp only at hSw); (try simp only [List.getElem_toArray, List.getElem_cons_succ, List.getElem_cons_zero]); go_simp); try with_reducible rfl
            try simp only [List.getElem_toArray, List.getElem_cons_succ, List.getElem_cons_zero, Act.put, List.setIfInBounds_toArray, List.set_cons_zero, List.set_cons_succ]
            refine wpAnyH_take (i := 4) (v := ?_) rfl (by kernel_rfl) (by kernel_rfl) (by kernel_rfl) (fun _ _ _ h => h) (Or.inl ⟨by rfl, ?_⟩) (by assumption) ?_
            rotate_left
            · (intro wq hSw; (try dsimp only at hSw); (try simp only [List.getElem_toArray, List.getElem_cons_succ, List.getElem_cons_zero]); go_simp); try with_reducible rfl
            try simp only [List.getElem_toArray, List.getElem_cons_succ, List.getElem_cons_zero, Act.put, List.setIfInBounds_toArray, List.set_cons_zero, List.set_cons_succ]
            refine wpAnyH_take (i := 5) (v := ?_) rfl (by kernel_rfl) (by kernel_rfl) (by kernel_rfl) (fun _ _ _ h => h) (Or.inl ⟨by rfl, ?_⟩) (by assumption) ?_
            rotate_left
            · (intro wq hSw; (try dsimp only at hSw); (try simp only [List.getElem_toArray, List.getElem_cons_succ, List.getElem_cons_zero]); go_simp); try with_reducible rfl
            try simp only [List.getElem_toArray, List.getElem_cons_succ, List.getElem_cons_zero, Act.put, List.setIfInBounds_toArray, List.set_cons_zero, List.set_cons_succ]
            refine wpAnyH_ready (rs := [6]) (by kernel_rfl) (by simp) ?_
            refine AllReadyH.cons rfl (fun K hK => ?_) AllReadyH.nil
            try simp only [List.getElem_toArray, List.getElem_cons_succ, List.getElem_cons_zero]
            go_simp
            refine (full_at x.c _).mono ?_
            rintro e w6 ⟨b6, o6, rfl, l6, l6', r6, t6⟩
            have T6 : Below wB.heap.size wB w6 := below_then t6 (Below.refl _ _).drew
            have D6 := Lib.hid (DB.out.later T6)
            have R6 := Lib.hid r6
            have hlb6 : wo2.heap.size < b6 := by have h := l6; simp only [World.size_drew] at h; omega
            have p2' : w6.cell? ⟨wo2.heap.size, 2, none⟩ = some (.int .i64 x.at_) := (T6.cell (p := ⟨wo2.heap.size, 2, none⟩) hlB).trans p2
            have p4' : w6.cell? ⟨wo2.heap.size, 4, none⟩ = some (.int .u8 x.c) := (T6.cell (p := ⟨wo2.heap.size, 4, none⟩) hlB).trans p4
            clear p2 p4
            have p2 := p2'
            have p4 := p4'
            clear p2' p4' l6 l6' r6 t6
            try (go_wp2_with fail)
            refine hK.out _ _ (by exact ⟨p2, p4⟩) (fun hHeld => ?_)
            clear hK K
            try simp only [List.getElem_toArray, List.getElem_cons_succ, List.getElem_cons_zero, Act.put, List.setIfInBounds_toArray, List.set_cons_zero, List.set_cons_succ]
            refine wpAnyH_ready (rs := [7]) (by kernel_rfl) (by simp) ?_
            refine AllReadyH.cons rfl (fun K hK => ?_) AllReadyH.nil
            try simp only [List.getElem_toArray, List.getElem_cons_succ, List.getElem_cons_zero]
            go_simp
            obtain ⟨v6, Fs6, ps6, hB6⟩ := D6.out.da
            refine (awrite_in (Lib.hid hB6) d HST.out x.at_ (S := (· = b6)) R6 (by rintro k rfl hu; have := D.out.da.lt hu; omega) hcst).mono ?_
            rintro e w7 ⟨rfl, u7⟩
            obtain ⟨U7, D7, K7⟩ := D6.out.updA u7
            have hl6 : wo2.heap.size < w6.heap.size := by have := T6.size; omega
            have p2' : w7.cell? ⟨wo2.heap.size, 2, none⟩ = some (.int .i64 x.at_) := (World.cell?_of_block (a := ⟨wo2.heap.size, 2, none⟩) (K7.block wo2.heap.size hl6 hnb)).trans p2
            have p4' : w7.cell? ⟨wo2.heap.size, 4, none⟩ = some (.int .u8 x.c) := (World.cell?_of_block (a := ⟨wo2.heap.size, 4, none⟩) (K7.block wo2.heap.size hl6 hnb)).trans p4
            clear p2 p4
            have p2 := p2'
            have p4 := p4'
            clear p2' p4' hB6 u7
            replace D7 := Lib.hid D7
            clear K7
            try (go_wp2_with fail)
            refine hK.out _ _ (by exact ⟨p2, p4⟩) (fun hHeld => ?_)
            clear hK K
            try simp only [List.getElem_toArray, List.getElem_cons_succ, List.getElem_cons_zero, Act.put, List.setIfInBounds_toArray, List.set_cons_zero, List.set_cons_succ]
            refine wpAnyH_done (by kernel_rfl) ?_ _
            go_wp2_with fail
            exact ⟨⟨j + 1, U7, _, by omega, by go_num, D7, Lib.hid (HO.out _ (Nat.le_trans (wrDA_cache _ _ _ _) (by omega)))⟩, by simp [intOf]; omega⟩
          by_cases k4 : x.kind = 4
          · rw [k4] at y0 hwB p0
            have hf := afail_any (Lib.hid DB.out.da) (by omega) (d : Int)
            clear p2 p3 p4 p5
            go_wp2_with fail
            refine hf.mono ?_
            rintro e w7 ⟨rfl, u7⟩
            obtain ⟨U7, D7, _⟩ := DB.out.updA u7
            rw [show failA i sa (d : Int) = sa.set d (DSt.gone i) by unfold failA; rw [if_pos ⟨by omega, by omega⟩, Int.toNat_natCast]] at D7
            have HD7 := Lib.hid D7
            clear hf u7 D7
            go_wp2_with fail
            exact ⟨⟨j + 1, U7, _, by omega, by go_num, HD7, Lib.hid (HO.out _ (by simp [DSt.gone, DSt.new]))⟩, by simp [intOf]; omega⟩
          by_cases k5 : x.kind = 5
          · rw [k5] at y0 hwB p0
            have hf := afail_any (Lib.hid DB.out.da) (by omega) (d : Int)
            clear p2 p3 p4 p5
            go_wp2_with fail
            refine hf.mono ?_
            rintro e w7 ⟨rfl, u7⟩
            obtain ⟨U7, D7, _⟩ := DB.out.updA u7
            rw [show failA i sa (d : Int) = sa.set d (DSt.gone i) by unfold failA; rw [if_pos ⟨by omega, by omega⟩, Int.toNat_natCast]] at D7
            have HD7 := Lib.hid D7
            clear hf u7 D7
            go_wp2_with fail
            exact ⟨⟨j + 1, U7, _, by omega, by go_num, HD7, Lib.hid (HO.out _ (by simp [DSt.gone, DSt.new]))⟩, by simp [intOf]; omega⟩
          by_cases k6 : x.kind = 6
          · rw [k6] at y0 hwB p0
            have hf := arepl_any (Lib.hid DB.out.da) (by omega) (d : Int)
            clear p2 p3 p4 p5
            go_wp2_with fail
            refine hf.mono ?_
            rintro e w7 ⟨rfl, u7⟩
            obtain ⟨U7, D7, _⟩ := DB.out.updA u7
            rw [show replA i sa (d : Int) = sa.set d (DSt.new i) by unfold replA; rw [if_pos ⟨by omega, by omega⟩, Int.toNat_natCast]] at D7
            have HD7 := Lib.hid D7
            clear hf u7 D7
            go_wp2_with fail
            exact ⟨⟨j + 1, U7, _, by omega, by go_num, HD7, Lib.hid (HO.out _ (by simp [DSt.gone, DSt.new]))⟩, by simp [intOf]; omega⟩
          have e0 : (x.kind == 0) = false := by simpa using k0
          have e1 : (x.kind == 1) = false := by simpa using k1
          have e2 : (x.kind == 2) = false := by simpa using k2
          have e3 : (x.kind == 3) = false := by simpa using k3
          have e4 : (x.kind == 4) = false := by simpa using k4
          have e5 : (x.kind == 5) = false := by simpa using k5
          have e6 : (x.kind == 6) = false := by simpa using k6
          obtain ⟨v6, Fs6, ps6, hB6⟩ := DB.out.da
          have hrot := arot_in (Lib.hid hB6) d HST.out x.at_ x.off x.mask
          clear hB6
          go_wp2_with fail
          refine hrot.mono ?_
          rintro e w7 ⟨⟨E7, rfl⟩, u7⟩
          obtain ⟨U7, D7, _⟩ := DB.out.updA u7
          have HD7 := Lib.hid D7
          clear hrot u7 D7
          go_wp2_with fail
          exact ⟨⟨j + 1, U7, _, by omega, by go_num, HD7, Lib.hid (HO.out _ (Nat.le_trans (rtDA_cache _ _ _ _ _) (by omega)))⟩, by simp [intOf]; omega⟩
        · obtain rfl : j = m := by omega
          have q1 : ¬ (j : Int) < (j : Int) := by omega
          go_wp2_with fail
          clear q1
          go_loopw [14] (fun vk wr => ∃ k : Nat, k ≤ n ∧ vk = .int .i64 k ∧ Hid (Below wo2.heap.size wo2 wr)) (fun vk _ => n - (intOf vk).toNat)
          case atStart => exact ⟨0, Nat.zero_le _, rfl, Lib.hid (Below.refl _ _)⟩
          case round =>
            obtain ⟨wk, rfl⟩ : ∃ wk, wk = wr := ⟨_, rfl⟩
            obtain ⟨k, hk, rfl, TK⟩ := hrel
            by_cases hkn : k < n
            · have q4 : (k : Int) < (n : Int) := by omega
              have q5 : (0 : Int) ≤ (k : Int) := Int.natCast_nonneg _
              have q6 : (k : Int) < 8 := by omega
              go_wp2_with fail
              go_loopw [15] (fun vz wr => ∃ z : Nat, z ≤ i ∧ vz = .int .i64 z ∧ Hid (Below wo2.heap.size wo2 wr)) (fun vz _ => i - (intOf vz).toNat)
              case atStart => exact ⟨0, Nat.zero_le _, rfl, TK⟩
              case round =>
                obtain ⟨wz, rfl⟩ : ∃ wz, wz = wr := ⟨_, rfl⟩
                obtain ⟨z, hz, rfl, TZ⟩ := hrel
                by_cases hzs : z < i
                · have q7 : (z : Int) < (i : Int) := by omega
                  have q8 : (0 : Int) ≤ (z : Int) := Int.natCast_nonneg _
                  have q9 : (z : Int) < 10 := by omega
                  by_cases hkd : k = d
                  · subst hkd
                    go_wp2_with fail
                    exact ⟨⟨k + 1, by omega, by go_num, TZ⟩, by simp [intOf]; omega⟩
                  · have hkdf : ((k : Int) != (d : Int)) = true := by simp; omega
                    have hkdg : ¬ (k : Int) = (d : Int) := by omega
                    obtain ⟨st, hst⟩ : ∃ st, sts[k]? = some st := ⟨_, List.getElem?_eq_getElem (by omega)⟩
                    have hsa : sa[k]? = some st := (O.out.same k hkd).trans hst
                    obtain ⟨hsd, _, hsr⟩ := HN.out st (List.mem_of_getElem? hst)
                    have hok : st.ok i := D.out.db.ok st (List.mem_of_getElem? hst)
                    have hrE : readyE st.dead i (z : Int) = 0 := (ready_iff st i z).2 ⟨hsd, by omega, by omega⟩
                    have hlen : (readL st i (z : Int)).length = 64 := by unfold readL; rw [if_pos hrE, Int.toNat_natCast]; exact hok.seen hzs
                    have hmark : markL st z = false := by
                      unfold markL
                      rw [hsd]
                      show (st.rotten[z]?).getD false = false
                      cases hr : st.rotten[z]? with
                      | none => rfl
                      | some r => exact hsr r (List.mem_of_getElem? hr)
                    obtain ⟨va, Fa, pa, hBa⟩ := (D.out.later TZ.out).da
                    have ha1 := aread_in (Lib.hid hBa) k hsa (z : Int)
                    rw [hrE] at ha1
                    have HBa := Lib.hid hBa
                    clear hBa
                    go_wp2_with fail
                    refine ha1.mono ?_
                    rintro e w6 ⟨A6, m6, c6, rfl, r6, t6⟩
                    obtain rfl : 64 = m6 := by rw [← hlen]; exact r6.1
                    have T6 := Lib.hid (below_then t6 TZ.out)
                    obtain ⟨vb, Fb, pb, hBb⟩ := (D.out.later T6.out).db
                    have hb1 := aread_in (Lib.hid hBb) k hst (z : Int)
                    rw [hrE] at hb1
                    have HBb := Lib.hid hBb
                    have HBa6 := Lib.hid (HBa.out.below t6)
                    have R6 := Lib.hid r6
                    clear ha1 r6 t6 hBb
                    go_wp2_with fail
                    refine hb1.mono ?_
                    rintro e w7 ⟨A7, m7, c7, rfl, r7, t7⟩
                    obtain rfl : 64 = m7 := by rw [← hlen]; exact r7.1
                    have T7 := Lib.hid (below_then t7 T6.out)
                    have c1 := conv_run (c := c6) (R6.out.below U8R.stable t7) (by omega)
                    have c2 := conv_run (c := c7) r7 (by omega)
                    have HBa7 := Lib.hid (HBa6.out.below t7)
                    have HBb7 := Lib.hid (HBb.out.below t7)
                    have hdd := adead_in HBa7 k hsa
                    rw [hsd] at hdd
                    have HSA := Lib.hid hsa
                    have HSTT := Lib.hid hst
                    have HMK := Lib.hid hmark
                    clear hb1 r7 t7 R6 HBa6 HBb HBa hrE hlen hmark hsa hst hsr hsd hok
                    go_wp2_with fail
                    clear c1 c2
                    refine hdd.mono ?_
                    rintro e w8 ⟨rfl, t8⟩
                    have T8 := Lib.hid (below_then t8 T7.out)
                    have HBa8 := Lib.hid (HBa7.out.below t8)
                    have HBb8 := Lib.hid (HBb7.out.below t8)
                    have hww := awaits_in HBa8 k HSA.out
                    clear hdd t8 HBa7 HBb7
                    go_wp2_with fail
                    refine hww.mono ?_
                    rintro e w9 ⟨rfl, t9⟩
                    have T9 := Lib.hid (below_then t9 T8.out)
                    have HBa9 := Lib.hid (HBa8.out.below t9)
                    have HBb9 := Lib.hid (HBb8.out.below t9)
                    have hww := awaits_in HBb9 k HSTT.out
                    clear t9 HBa8 HBb8
                    go_wp2_with fail
                    refine hww.mono ?_
                    rintro e w10 ⟨rfl, t10⟩
                    have T10 := Lib.hid (below_then t10 T9.out)
                    have HBa10 := Lib.hid (HBa9.out.below t10)
                    have hrr := arotten_in HBa10 k HSA.out z hzs
                    clear hww t10 HBa9 HBb9
                    go_wp2_with fail
                    refine hrr.mono ?_
                    rintro e w11 ⟨rfl, t11⟩
                    rw [HMK.out]
                    have T11 := Lib.hid (below_then t11 T10.out)
                    clear hrr t11 HBa10
                    go_wp2_with fail
                    exact ⟨⟨z + 1, by omega, by go_num, T11⟩, by simp [intOf]; omega⟩
                · obtain rfl : z = i := by omega
                  have q7 : ¬ (z : Int) < (z : Int) := by omega
                  go_wp2_with fail
                  exact ⟨⟨k + 1, by omega, by go_num, TZ⟩, by simp [intOf]; omega⟩
            · obtain rfl : k = n := by omega
              have q4 : ¬ (k : Int) < (k : Int) := by omega
              go_wp2_with fail
              refine (stands_any wk).mono ?_
              rintro e w3 ⟨rfl, t3⟩
              go_wp2_with fail
              go_ret
              exact ⟨rfl, D.out.below.trans ((below_then t3 TK.out).mono D.out.below.size)⟩
end Go.Proofs.Ytolmpopjonkfgaa

