/-
  ArrayRows, walked.
-/
import Derived.Test.YtolmpopjonkfgaaRows1
set_option linter.unusedSimpArgs false
set_option linter.unusedVariables false
namespace Go.Proofs.Ytolmpopjonkfgaa
open Go.RowKit Go.Cib
attribute [local go_sem] cell_set Later.cell Later.frozen Grw.cell Grw.frozen

set_option maxRecDepth 100000 in
theorem rows_bad (n s z c : Int) (A : Option Addr) (m cc : Nat) (w : World) (h : ¬ (1 ≤ n ∧ n ≤ 12 ∧ 1 ≤ s ∧ s ≤ 10 ∧ 0 ≤ z ∧ z < s ∧ m ≤ 30)) :
    Calls Try.prog 7 #[.int .i64 n, .int .i64 s, .int .i64 z, .slice A m cc, .int .u8 c] w fun e w' => e = .returned (.bool true) ∧ Below w.heap.size w w' := by
  by_cases h0 : n < 1
  · have d0 : decide (n < 1) = true := by simpa using h0
    go_enter Try.func7, Try.ntmps7
    go_wp2_with fail
    refine (stands_any w).mono ?_
    rintro e w' ⟨rfl, hb⟩
    go_wp2_with fail
    go_ret
    exact ⟨rfl, hb⟩
  have d0 : decide (n < 1) = false := by simpa using h0
  by_cases h1 : 12 < n
  · have d1 : decide (12 < n) = true := by simpa using h1
    go_enter Try.func7, Try.ntmps7
    go_wp2_with fail
    refine (stands_any w).mono ?_
    rintro e w' ⟨rfl, hb⟩
    go_wp2_with fail
    go_ret
    exact ⟨rfl, hb⟩
  have d1 : decide (12 < n) = false := by simpa using h1
  by_cases h2 : s < 1
  · have d2 : decide (s < 1) = true := by simpa using h2
    go_enter Try.func7, Try.ntmps7
    go_wp2_with fail
    refine (stands_any w).mono ?_
    rintro e w' ⟨rfl, hb⟩
    go_wp2_with fail
    go_ret
    exact ⟨rfl, hb⟩
  have d2 : decide (s < 1) = false := by simpa using h2
  by_cases h3 : 10 < s
  · have d3 : decide (10 < s) = true := by simpa using h3
    go_enter Try.func7, Try.ntmps7
    go_wp2_with fail
    refine (stands_any w).mono ?_
    rintro e w' ⟨rfl, hb⟩
    go_wp2_with fail
    go_ret
    exact ⟨rfl, hb⟩
  have d3 : decide (10 < s) = false := by simpa using h3
  by_cases h4 : z < 0
  · have d4 : decide (z < 0) = true := by simpa using h4
    go_enter Try.func7, Try.ntmps7
    go_wp2_with fail
    refine (stands_any w).mono ?_
    rintro e w' ⟨rfl, hb⟩
    go_wp2_with fail
    go_ret
    exact ⟨rfl, hb⟩
  have d4 : decide (z < 0) = false := by simpa using h4
  by_cases h5 : s ≤ z
  · have d5 : decide (s ≤ z) = true := by simpa using h5
    go_enter Try.func7, Try.ntmps7
    go_wp2_with fail
    refine (stands_any w).mono ?_
    rintro e w' ⟨rfl, hb⟩
    go_wp2_with fail
    go_ret
    exact ⟨rfl, hb⟩
  have d5 : decide (s ≤ z) = false := by simpa using h5
  have d9 : decide ((30 : Int) < (m : Int)) = true := decide_eq_true (by omega)
  go_enter Try.func7, Try.ntmps7
  go_wp2_with fail
  refine (stands_any w).mono ?_
  rintro e w' ⟨rfl, hb⟩
  go_wp2_with fail
  go_ret
  exact ⟨rfl, hb⟩

theorem int_at {S : Nat → Prop} {w : World} {A : Option Addr} {m : Nat} {xs : List Int} (h : RdL IntR 1 S w A m xs) {i : Nat} (hi : i < m) : ∃ b o x, A = some ⟨b, o, none⟩ ∧ xs[i]? = some x ∧ ∀ w', Below w.heap.size w w' → w'.cell? ⟨b, o + i, none⟩ = some (.int .i64 x) := by
  obtain ⟨b, o, rfl, _, hlt⟩ := h.addr hi
  obtain ⟨hl, cs, h1, h2, h3⟩ := h.at hi
  have h4 : cs = [.int .i64 xs[i]] := h2
  subst h4
  refine ⟨b, o, xs[i], rfl, by simp [hl], fun w' hb => ?_⟩
  have := h3 0 _ rfl
  rw [hb.cell (p := ⟨b, _, none⟩) hlt]
  simpa using this
/-- The rows that are put. -/
def laOf (c : Int) (n : Nat) : List (List Int) := (List.range n).map (fun (d : Nat) => rep ((c + (d : Int)) % 256))
theorem laOf_len (c : Int) (n : Nat) : (laOf c n).length = n := by simp [laOf]
theorem laOf_succ (c : Int) (n : Nat) : laOf c (n + 1) = laOf c n ++ [rep ((c + (n : Int)) % 256)] := by simp [laOf, List.range_succ]
theorem laOf_at (c : Int) {n d : Nat} (h : d < n) : (rAt (laOf c n) d).length = 64 ∧ (laOf c n)[d]? = some (rAt (laOf c n) d) := by
  have : (laOf c n)[d]? = some (rep ((c + (d : Int)) % 256)) := by simp [laOf, h]
  refine ⟨?_, ?_⟩
  · unfold rAt; rw [List.getD, this]; exact rep_len _
  · unfold rAt; rw [List.getD, this]; rfl
theorem lk_at {n d : Nat} (h : d < n) : kAt (List.replicate n [true]) d = [true] := by simp [kAt, List.getD, h]

set_option maxRecDepth 100000 in
set_option maxHeartbeats 16000000 in
theorem rows_good (n s z : Nat) (c : Int) (A0 : Option Addr) (m cc0 : Nat) (w : World) (h1 : 1 ≤ n) (h12 : n ≤ 12) (hs1 : 1 ≤ s) (hs10 : s ≤ 10) (hz : z < s) (hm : m ≤ 30) {gone : List Int} (R0 : Hid (RdL IntR 1 (fun _ => True) w A0 m gone)) :
    Calls Try.prog 7 #[.int .i64 n, .int .i64 s, .int .i64 z, .slice A0 m cc0, .int .u8 c] w fun e w' => e = .returned (.bool true) ∧ Below w.heap.size w w' := by
  have d0 : (1 : Int) ≤ n := by omega
  have d1 : (n : Int) ≤ 12 := by omega
  have d2 : (1 : Int) ≤ s := by omega
  have d3 : (s : Int) ≤ 10 := by omega
  have d4 : (0 : Int) ≤ z := by omega
  have d5 : (z : Int) < s := by omega
  have d6 : (m : Int) ≤ 30 := by omega
  have hnew := anew_any n s h1 (by omega) hs1 (by omega) w
  go_enter Try.func7, Try.ntmps7
  go_wp2_with fail
  refine hnew.mono ?_
  rintro e w1 ⟨a, U, rfl, A1, hU1, t1⟩
  have HA := Lib.hid A1
  have HU := Lib.hid hU1
  have T1 := Lib.hid t1
  clear hnew A1 hU1 t1
  go_wp2_with fail
  go_loopw [12] (fun vi wr => ∃ (i : Nat) (U : Nat → Prop) (sts : List DSt), i ≤ m ∧ vi = .int .i64 i ∧ sts.length = n ∧ Hid (ArrAt U wr a s sts) ∧ Hid (∀ b, U b → w.heap.size ≤ b) ∧ Hid (NewOrGone s sts) ∧ Hid (Below w.heap.size w wr)) (fun vi _ => m - (intOf vi).toNat)
  case atStart => exact ⟨0, U, _, Nat.zero_le _, rfl, by simp, HA, HU, Lib.hid (NewOrGone.rep n s), T1⟩
  case round =>
    clear HA HU T1
    obtain ⟨wo, rfl⟩ : ∃ wo, wo = wr := ⟨_, rfl⟩
    obtain ⟨i, U, sts, hi, rfl, hln, HA, HU, HN, T⟩ := hrel
    by_cases hlt : i < m
    · obtain ⟨b, o, x, rfl, hx, hcell⟩ := int_at R0.out hlt
      have y0 := hcell wo T.out
      have q1 : (i : Int) < (m : Int) := by omega
      have q2 : (0 : Int) ≤ (i : Int) := Int.natCast_nonneg _
      clear hcell hx
      go_wp2_with fail
      refine (afail_any HA (by omega) x).mono ?_
      rintro e w2 ⟨rfl, U2, A2, hU2, K2⟩
      have HA2 := Lib.hid A2
      have hT := T.out.size
      have HU2 : Hid (∀ b, U2 b → w.heap.size ≤ b) := Lib.hid fun b hb => by
        by_cases hlt : b < wo.heap.size
        · exact HU.out b (hU2 b hb hlt)
        · have := K2.size; omega
      have T2 := Lib.hid (T.out.trans (K2.below hT HU.out))
      clear A2 hU2 K2 y0 hT
      go_wp2_with fail
      exact ⟨⟨i + 1, U2, failA s sts x, by omega, by go_num, by rw [failA_len]; exact hln, HA2, HU2, Lib.hid (HN.out.fail x), T2⟩, by simp [intOf]; omega⟩
    · obtain rfl : i = m := by omega
      have q1 : ¬ (i : Int) < (i : Int) := by omega
      obtain ⟨v, Fs, ps, hB⟩ := HA.out
      have halive := aalive_any (Lib.hid hB) (by omega) (by omega)
      clear hB
      go_wp2_with fail
      refine halive.mono ?_
      rintro e w2 ⟨rfl, t2⟩
      have HA2 := Lib.hid (HA.out.below t2)
      have T2 := Lib.hid (T.out.trans (t2.mono T.out.size))
      have hUB : Hid (∀ b, U b → b < w2.heap.size) := Lib.hid fun b hb => HA2.out.lt hb
      obtain ⟨al, hal⟩ : ∃ k, cnt (aliveL sts) = k := ⟨_, rfl⟩
      have HAL := Lib.hid hal
      rw [hal]
      have hal12 : al ≤ 12 := by have := cnt_le (aliveL sts); rw [hal] at this; have h2 : (aliveL sts).length = sts.length := (by simp [aliveL]); omega
      clear halive t2 HA T q1 hal
      go_wp2_with fail
      go_loopw [14, 15, 16] (fun va vk vi wr => ∃ (i : Nat) (SA SK : Nat → Prop), i ≤ n ∧ vi = .int .i64 i ∧ Hid (Pair w2.heap.size wr va vk i i (laOf c i) (List.replicate i [true]) SA SK) ∧ Hid (Below w2.heap.size w2 wr)) (fun _ _ vi _ => n - (intOf vi).toNat)
      case atStart => exact ⟨0, _, _, Nat.zero_le _, rfl, Lib.hid (Pair.nil_ _ _), Lib.hid (Below.refl _ _)⟩
      case round =>
        obtain ⟨wo2, rfl⟩ : ∃ wo2, wo2 = wr := ⟨_, rfl⟩
        obtain ⟨j, SA, SK, hj, rfl, PR, T3⟩ := hrel
        by_cases hlt2 : j < n
        · obtain ⟨AA, ca, rfl, _⟩ := PR.out.oA.form
          obtain ⟨AK, ck, rfl, _⟩ := PR.out.oK.form
          have q1 : (j : Int) < (n : Int) := by omega
          have q2 : (0 : Int) ≤ (j : Int) := Int.natCast_nonneg _
          have q3 : (j : Int) < 12 := by omega
          go_wp2_with fail
          refine (full_at _ wo2).mono ?_
          rintro e w3 ⟨b3, o3, rfl, l3, l3', r3, t3⟩
          have PR3 := PR.out.later t3
          have hf3 := PR.out.fresh l3
          have T4 := T3.out.trans (t3.mono T3.out.size)
          have hB3 : w2.heap.size ≤ b3 := Nat.le_trans T3.out.size l3
          have ow := ownL_wide2 (T := fun k => SA k ∨ k = b3) BytesR.stable PR3.oA (fun b h => .inl h)
          have hyA : BytesR (Go.Cib.Rest (fun k => SA k ∨ k = b3) (.slice AA j ca)) w3 [.slice (some ⟨b3, o3, none⟩) 64 64] (rep ((c + (j : Int)) % 256)) := ⟨_, _, _, rfl, r3.weaken U8R.stable (by rintro k rfl; exact ⟨.inr rfl, hf3.1⟩)⟩
          have hs24 := T4.size
          clear r3 t3 l3
          go_wp2_with (at_builtin; first | (refine wpList_push1 BytesR.stable BytesR.one slRows (by rfl) (by rfl) (base := w2.heap.size) (S := fun k => SA k ∨ k = b3) (cs := #[.slice (some ⟨b3, o3, none⟩) 64 64]) (y := rep ((c + (j : Int)) % 256)) (by rfl) (by rfl) ow (by rfl) hyA (by unfold maxLen; omega) (by omega) hs24 ?_; intro A11 c11 u11 hc11 own11 hlt11 hb11 hat11; have PR4 := PR3.pushA hB3 l3' hf3.1 hf3.2 u11.ok hlt11 own11 hat11; have PR5 := PR4.later ((Below.refl _ _).alloc (Nat.le_refl _) (.cells #[.bool true] 4)); have hf5 := PR4.fresh (Nat.le_refl _); have ow2 := ownL_wide2 (T := fun k => SK k ∨ k = u11.to.heap.size) BoolsR.stable PR5.oK (fun b h => .inl h); have hyK : BoolsR (Go.Cib.Rest (fun k => SK k ∨ k = u11.to.heap.size) (.slice AK j ck)) (u11.to.alloc (.cells #[.bool true] 4)) [.slice (some ⟨u11.to.heap.size, 0, none⟩) 1 1] [true] := ⟨_, _, _, rfl, BoxAt.bools (xs := [true]) (by simpa using BoxAt.new u11.to #[.bool true] 4) ⟨.inr rfl, hf5.2⟩⟩; have hsK : w2.heap.size ≤ (u11.to.alloc (.cells #[.bool true] 4)).heap.size := by (simp; omega)) | (go_must (refine wpList_push1 BoolsR.stable BoolsR.one slKeeps (by rfl) (by rfl) (base := w2.heap.size) (S := fun k => SK k ∨ k = u11.to.heap.size) (cs := #[.slice (some ⟨u11.to.heap.size, 0, none⟩) 1 1]) (y := [true]) (by rfl) (by rw [World.size_alloc]; rfl) ow2 (by rfl) hyK (by unfold maxLen; omega) (by omega) hsK ?_); intro A15 c15 u15 hc15 own15 hlt15 hb15 hat15))
          have PR6 := PR5.pushK (Nat.le_trans hs24 (by omega)) (by simp) hf5.1 hf5.2 u15.ok hlt15 own15 hat15
          have T6 : Below w2.heap.size w2 u15.to := T4.trans ((hb11.alloc (by omega) _).trans hb15)
          exact ⟨⟨j + 1, _, _, by omega, by go_num, Lib.hid (by rw [laOf_succ, List.replicate_succ']; exact PR6), Lib.hid T6⟩, by simp [intOf]; omega⟩
        · obtain rfl : j = n := by omega
          have q1 : ¬ (j : Int) < (j : Int) := by omega
          obtain ⟨AA, ca, rfl, RA⟩ := PR.out.rdA
          obtain ⟨AK, ck, rfl, RK⟩ := PR.out.rdK
          have HA3 := Lib.hid (HA2.out.below T3.out)
          have hnB : ∀ b, w2.heap.size ≤ b ∧ b < wo2.heap.size → ¬ U b ∧ b < wo2.heap.size := fun b hb => ⟨fun hu => by have := hUB.out b hu; omega, hb.2⟩
          have hcnt : cnt (sts.mapIdx (putOk s z (laOf c j))) = al := by
            rw [← HAL.out]
            congr 1
            apply List.ext_getElem?
            intro d
            rw [List.getElem?_mapIdx, aliveL, List.getElem?_map]
            cases hd : sts[d]? with
            | none => rfl
            | some st =>
              have hdl : d < j := by have := (List.getElem?_eq_some_iff.1 hd).1; omega
              rcases HN.out st (List.mem_of_getElem? hd) with rfl | rfl
              · simp only [Option.map_some]; rw [putOk_new hz _ d (laOf_at c hdl).1]; rfl
              · simp only [Option.map_some]; rw [putOk_gone]; rfl
          have hput := aput_any HA3 (by omega) (by omega) (Lib.hid HN.out.cache) (z : Int) (c := ca) (Lib.hid RA) hnB
          have HNB := Lib.hid hnB
          have HRA := Lib.hid RA
          have HRK := Lib.hid RK
          clear RA RK PR hnB q1
          have q1 : ¬ (j : Int) < (j : Int) := by omega
          go_wp2_with fail
          refine hput.mono ?_
          rintro e w4 ⟨rfl, U4, A4, hU4, K4⟩
          rw [hcnt]
          clear hput hcnt q1
          obtain ⟨st1, hst1⟩ : ∃ x, sts.mapIdx (putG s z (laOf c j)) = x := ⟨_, rfl⟩
          rw [hst1] at A4
          have hln1 : st1.length = j := by rw [← hst1]; simpa using hln
          have hca1 : ∀ st ∈ st1, st.cache.length < 1000000 := by
            intro st hst
            rw [← hst1] at hst
            obtain ⟨d, hd, rfl⟩ := List.mem_iff_getElem.1 hst
            rw [List.getElem_mapIdx]
            have hdl : d < sts.length := by simpa using hd
            rcases HN.out sts[d] (List.getElem_mem _) with e | e <;> rw [e]
            · rw [putG_new hz _ d (laOf_at c (by omega)).1]; simp [DSt.write, DSt.new]
            · rw [putG_gone]; simp [DSt.gone, DSt.new]
          obtain ⟨v4, Fs4, ps4, hB4⟩ := A4
          have hcopy := acopy_any (Lib.hid hB4) (by omega) (by omega) (Lib.hid hca1)
          have HB4 := Lib.hid hB4
          have HK4 := Lib.hid K4
          have HU4 := Lib.hid hU4
          clear hB4 K4 hU4
          go_wp2_with fail
          refine hcopy.mono ?_
          rintro e w5 ⟨bb, V, rfl, A5, hV5, t5⟩
          clear hcopy
          have hs23 := T3.out.size
          have hs34 := HK4.out.size
          have hs02 := T2.out.size
          have HD5 : Hid (Duo w w2.heap.size wo2.heap.size U4 V w5 a bb s st1 st1) := Lib.hid
            ⟨⟨v4, Fs4, ps4, HB4.out.below t5⟩, A5, fun k hu hv => by have := HB4.out.lt k hu; have := hV5 k hv; omega,
             fun k hu => by
               by_cases hlt : k < wo2.heap.size
               · exact HU.out k (HU4.out k hu hlt)
               · omega,
             fun k hu hlt => hUB.out k (HU4.out k hu hlt), fun k hv => by have := hV5 k hv; omega,
             (T2.out.trans (T3.out.mono hs02)).trans (((HK4.out.below (B := w.heap.size) (by omega) HU.out)).trans (t5.mono (by omega))), by have := t5.size; omega, by omega⟩
          have kee : ∀ b, w2.heap.size ≤ b ∧ b < wo2.heap.size → ¬ U b := fun b hb => (HNB.out b hb).1
          have RA5 := Lib.hid ((HRA.out.keep BytesR.stable HK4.out kee).below BytesR.stable t5)
          have RK5 := Lib.hid ((HRK.out.keep BoolsR.stable HK4.out kee).below BoolsR.stable t5)
          clear A5 hV5 t5 HB4 HK4 HU4 kee HRA HRK
          have hcr := acrash_any (Lib.hid HD5.out.db) (by omega) (by omega) (Lib.hid hca1) (c := ck) RK5 (fun b hb => ⟨fun hv => by have := HD5.out.v1 b hv; omega, by have := HD5.out.hQ; omega⟩)
          go_wp2_with fail
          refine hcr.mono ?_
          rintro e w6 ⟨rfl, u6⟩
          obtain ⟨V6, D6, K6⟩ := HD5.out.updB u6
          have HD6 := Lib.hid D6
          have RA6 := Lib.hid (RA5.out.keep BytesR.stable K6 (fun b hb hv => by have := HD5.out.v1 b hv; omega))
          clear hcr u6 D6 K6 RA5 RK5
          have hfl := aflush_any (Lib.hid HD6.out.da) (by omega) (by omega) (Lib.hid hca1)
          have hal1 : cnt (aliveL st1) = al := by
            rw [← HAL.out, ← hst1]
            congr 1
            apply List.ext_getElem?
            intro d
            rw [aliveL, List.getElem?_map, List.getElem?_mapIdx, aliveL, List.getElem?_map]
            cases hd : sts[d]? with
            | none => rfl
            | some st =>
              have hdl : d < j := by have := (List.getElem?_eq_some_iff.1 hd).1; omega
              rcases HN.out st (List.mem_of_getElem? hd) with rfl | rfl
              · simp only [Option.map_some]; rw [putG_new hz _ d (laOf_at c hdl).1]; rfl
              · simp only [Option.map_some]; rw [putG_gone]
          go_wp2_with fail
          refine hfl.mono ?_
          rintro e w7 ⟨rfl, u7⟩
          rw [hal1]
          obtain ⟨U7, D7, K7⟩ := HD6.out.updA u7
          have HD7 := Lib.hid D7
          have RA7 := Lib.hid (RA6.out.keep BytesR.stable K7 (fun b hb hu => by have := HD6.out.u2 b hu hb.2; omega))
          clear hfl u7 D7 K7 RA6 hal1
          have hcr := acrash_any (Lib.hid HD7.out.da) (by simp; omega) (by simp; omega) (Lib.hid (fun st hst => by obtain ⟨y, hy, rfl⟩ := List.mem_map.1 hst; have := hca1 y hy; unfold flushG; split <;> simp [DSt.settle]; exact this)) (S := fun _ => False) (A := none) (m := 0) (c := 0) (ks := []) (Lib.hid RdL.nil) (fun b hb => hb.elim)
          go_wp2_with fail
          refine hcr.mono ?_
          rintro e w8 ⟨rfl, u8⟩
          obtain ⟨U8, D8, K8⟩ := HD7.out.updA u8
          have HD8 := Lib.hid D8
          have RA8 := Lib.hid (RA7.out.keep BytesR.stable K8 (fun b hb hu => by have := HD7.out.u2 b hu hb.2; omega))
          clear hcr u8 D8 K8 RA7
          obtain ⟨sa, hsa⟩ : ∃ x, (st1.map flushG).mapIdx (crashG []) = x := ⟨_, rfl⟩
          obtain ⟨sb, hsb⟩ : ∃ x, st1.mapIdx (crashG (List.replicate j [true])) = x := ⟨_, rfl⟩
          rw [hsa, hsb] at HD8
          have fa : Hid (∀ d st, sts[d]? = some st → sa[d]? = some (fin4 s z (laOf c j) d st)) := Lib.hid fun d st hd => by
            rw [← hsa, ← hst1, List.getElem?_mapIdx, List.getElem?_map, List.getElem?_mapIdx, hd]; rfl
          have fb : Hid (∀ d st, sts[d]? = some st → sb[d]? = some (finB s z (laOf c j) (List.replicate j [true]) d st)) := Lib.hid fun d st hd => by
            rw [← hsb, ← hst1, List.getElem?_mapIdx, List.getElem?_mapIdx, hd]; rfl
          have hla : sa.length = j := by rw [← hsa]; simpa using hln1
          have hlb : sb.length = j := by rw [← hsb]; simpa using hln1
          clear hsa hsb hst1 hca1 hln1 HD5 HD6 HD7
          obtain ⟨va, Fa, pa, hBa⟩ := HD8.out.da
          have HBa := Lib.hid hBa
          have hrow := arow_any HBa (by omega) (by omega) (z : Int)
          clear hBa
          go_wp2_with fail
          refine hrow.mono ?_
          rintro e w9 ⟨ox, rfl, Rx, t9⟩
          rw [hla] at Rx ⊢
          have HD9 := Lib.hid (HD8.out.later t9)
          have RA9 := Lib.hid (RA8.out.below BytesR.stable t9)
          have HBa9 := Lib.hid (HBa.out.below t9)
          have RX9 := Lib.hid Rx
          clear hrow Rx t9 HD8 RA8 HBa
          obtain ⟨vb, Fb, pb, hBb⟩ := HD9.out.db
          have hrow := arow_any (Lib.hid hBb) (by omega) (by omega) (z : Int)
          clear hBb
          go_wp2_with fail
          refine hrow.mono ?_
          rintro e wl ⟨oy, rfl, Ry, tl⟩
          rw [hlb] at Ry ⊢
          have HB := Lib.hid (HBa9.out.below tl)
          have TL := Lib.hid (HD9.out.below.trans (tl.mono HD9.out.below.size))
          have RAl := Lib.hid (RA9.out.below BytesR.stable tl)
          have RXl := Lib.hid (RX9.out.below BytesR.stable tl)
          have RYl := Lib.hid Ry
          clear hrow Ry tl HD9 RA9 HBa9 RX9
          go_wp2_with fail
          go_loopw [20, 21] (fun vr vd wr => ∃ d : Nat, d ≤ j ∧ vr = .int .i64 (cnt (aliveL (sts.take d))) ∧ vd = .int .i64 d ∧ Hid (Below wl.heap.size wl wr)) (fun _ vd _ => j - (intOf vd).toNat)
          case atStart => exact ⟨0, Nat.zero_le _, rfl, rfl, Lib.hid (Below.refl _ _)⟩
          case round =>
            obtain ⟨d, hd, rfl, rfl, T9⟩ := hrel
            by_cases hlt3 : d < j
            · obtain ⟨st, hst⟩ : ∃ st, sts[d]? = some st := ⟨_, List.getElem?_eq_getElem (by omega)⟩
              have ga := fa.out d st hst
              have gb := fb.out d st hst
              have q1 : (d : Int) < (j : Int) := by omega
              have q2 : (0 : Int) ≤ (d : Int) := Int.natCast_nonneg _
              have q3 : (d : Int) < 12 := by omega
              have htk : aliveL (sts.take (d + 1)) = aliveL (sts.take d) ++ [!st.dead] := by
                rw [List.take_succ_eq_append_getElem (by omega), (List.getElem?_eq_some_iff.1 hst).2]; simp [aliveL]
              have hcs := cnt_snoc (aliveL (sts.take d)) (!st.dead)
              rw [← htk] at hcs
              have hcl := cnt_le (aliveL (sts.take d))
              have hcl2 : (aliveL (sts.take d)).length ≤ d := by simp [aliveL]; omega
              obtain ⟨C, hC⟩ : ∃ C, cnt (aliveL (sts.take d)) = C := ⟨_, rfl⟩
              rw [hC] at hcs hcl ⊢
              have hw : IntKind.i64.wrap ((C : Int) + 1) = (C : Int) + 1 := by rw [IntKind.wrap_i64]; omega
              obtain ⟨gx, ogx, xx, AX, mX, cX, ex, hxx, _, _, px, rrx⟩ := bytes_at RXl.out hlt3
              obtain ⟨gy, ogy, yy, AY, mY, cY, ey, hyy, _, _, py, rry⟩ := bytes_at RYl.out hlt3
              simp only [Option.some.injEq, Addr.mk.injEq, and_true] at ex ey
              obtain ⟨rfl, rfl⟩ := ex
              obtain ⟨rfl, rfl⟩ := ey
              rw [Nat.zero_add] at px py
              have hxl : ox < wl.heap.size := by obtain ⟨b, o, e, _, hlt⟩ := RXl.out.addr (k := 0) (by omega); simp only [Option.some.injEq, Addr.mk.injEq, and_true] at e; omega
              have hyl : oy < wl.heap.size := by obtain ⟨b, o, e, _, hlt⟩ := RYl.out.addr (k := 0) (by omega); simp only [Option.some.injEq, Addr.mk.injEq, and_true] at e; omega
              have hxe : xx = readL (fin4 s z (laOf c j) d st) s z := by
                rw [List.getElem?_map, ga] at hxx
                injection hxx with hxx; exact hxx.symm
              have hye : yy = readL (finB s z (laOf c j) (List.replicate j [true]) d st) s z := by
                rw [List.getElem?_map, gb] at hyy
                injection hyy with hyy; exact hyy.symm
              have hdead := adead_in (Lib.hid (HB.out.below T9.out)) d ga
              clear hxx hyy htk hcl hcl2 gb ga
              rcases HN.out st (List.mem_of_getElem? hst) with rfl | rfl
              · have e1 := fin4_new hz (laOf c j) d (laOf_at c hlt3).1
                rw [e1.2] at hdead
                rw [e1.1] at hxe
                rw [finB_new hz (laOf c j) _ d (laOf_at c hlt3).1 (lk_at hlt3)] at hye
                subst hxe; subst hye
                have l64 := (laOf_at c hlt3).1
                obtain rfl : 64 = mX := by rw [← l64]; exact rrx.1
                obtain rfl : 64 = mY := by rw [← l64]; exact rry.1
                obtain ⟨gl, ol, xl, AL, mL, cL, rfl, hxl2, hgl, _, pl, rrl⟩ := bytes_at RAl.out hlt3
                rw [(laOf_at c hlt3).2] at hxl2
                injection hxl2 with hxl2
                subst hxl2
                obtain rfl : 64 = mL := by rw [← l64]; exact rrl.1
                obtain ⟨X, hX⟩ : ∃ X, rAt (laOf c j) d = X := ⟨_, rfl⟩
                rw [hX] at rrx rry rrl
                clear e1 l64 hX
                have HCS := Lib.hid hcs
                have HC := Lib.hid hC
                clear hcs hC
                have TT : ∀ w3, Below wl.heap.size wl w3 → ∀ w', Below w3.heap.size w3 w' → Below wl.heap.size wl w' := fun w3 h w' h' => below_then h' h
                go_wp2_with fail
                refine hdead.mono ?_
                rintro e w3 ⟨rfl, t3⟩
                have T3w := below_then t3 T9.out
                have HT3 := Lib.hid T3w
                have px' : w3.cell? ⟨ox, d, none⟩ = some (.slice AX 64 cX) := (T3w.cell (p := ⟨ox, d, none⟩) hxl).trans px
                have p1 : ∀ w', Below w3.heap.size w3 w' → w'.cell? ⟨ox, d, none⟩ = some (.slice AX 64 cX) := fun w' h => ((TT w3 T3w w' h).cell (p := ⟨ox, d, none⟩) hxl).trans px
                have p2 : ∀ w', Below w3.heap.size w3 w' → w'.cell? ⟨oy, d, none⟩ = some (.slice AY 64 cY) := fun w' h => ((TT w3 T3w w' h).cell (p := ⟨oy, d, none⟩) hyl).trans py
                have p3 : ∀ w', Below w3.heap.size w3 w' → w'.cell? ⟨gl, ol + d, none⟩ = some (.slice AL 64 cL) := fun w' h => ((TT w3 T3w w' h).cell (p := ⟨gl, ol + d, none⟩) hgl).trans pl
                have v1 : ∀ w', Below w3.heap.size w3 w' → (convert 27 9 (.slice AX 64 cX)).run Try.prog w' = .ok (.string (strOfNums X)) w' := fun w' h => conv_run (rrx.below U8R.stable (TT w3 T3w w' h)) (by omega)
                have v2 : ∀ w', Below w3.heap.size w3 w' → (convert 27 9 (.slice AY 64 cY)).run Try.prog w' = .ok (.string (strOfNums X)) w' := fun w' h => conv_run (rry.below U8R.stable (TT w3 T3w w' h)) (by omega)
                have v3 : ∀ w', Below w3.heap.size w3 w' → (convert 27 9 (.slice AL 64 cL)).run Try.prog w' = .ok (.string (strOfNums X)) w' := fun w' h => conv_run (rrl.below U8R.stable (TT w3 T3w w' h)) (by omega)
                clear px py pl rrx rry rrl TT T3w px' hdead t3
                go_wp2_with fail
                refine wp_region_held_drew (S := fun w' => Below w3.heap.size w3 w') (by kernel_rfl) (by first | exact (Below.refl _ _).drew | assumption) (fun hHeld => ?_)
                refine wpAnyH_take (i := 0) (v := ?_) rfl (by kernel_rfl) (by kernel_rfl) (by kernel_rfl) (fun _ _ _ h => h) (Or.inl ⟨by rfl, ?_⟩) (by assumption) ?_
                rotate_left
                · (intro wq hSw; (try dsimp only at hSw); (try simp only [List.getElem_toArray, List.getElem_cons_succ, List.getElem_cons_zero]); go_simp); try with_reducible rfl
                try simp only [List.getElem_toArray, List.getElem_cons_succ, List.getElem_cons_zero, Act.put, List.setIfInBounds_toArray, List.set_cons_zero, List.set_cons_succ]
                refine wpAnyH_take (i := 1) (v := ?_) rfl (by kernel_rfl) (by kernel_rfl) (by kernel_rfl) (fun _ _ _ h => h) (Or.inl ⟨by rfl, ?_⟩) (by assumption) ?_
                rotate_left
                · (intro wq hSw; (try dsimp only at hSw); (try simp only [List.getElem_toArray, List.getElem_cons_succ, List.getElem_cons_zero]); go_simp); try with_reducible rfl
                try simp only [List.getElem_toArray, List.getElem_cons_succ, List.getElem_cons_zero, Act.put, List.setIfInBounds_toArray, List.set_cons_zero, List.set_cons_succ]
                refine wpAnyH_take (i := 2) (v := ?_) rfl (by kernel_rfl) (by kernel_rfl) (by kernel_rfl) (fun _ _ _ h => h) (Or.inl ⟨by rfl, ?_⟩) (by assumption) ?_
                rotate_left
                · (intro wq hSw; (try dsimp only at hSw); (try simp only [List.getElem_toArray, List.getElem_cons_succ, List.getElem_cons_zero]); go_simp); try with_reducible rfl
                try simp only [List.getElem_toArray, List.getElem_cons_succ, List.getElem_cons_zero, Act.put, List.setIfInBounds_toArray, List.set_cons_zero, List.set_cons_succ]
                refine wpAnyH_take (i := 3) (v := ?_) rfl (by kernel_rfl) (by kernel_rfl) (by kernel_rfl) (fun _ _ _ h => h) (Or.inl ⟨by rfl, ?_⟩) (by assumption) ?_
                rotate_left
                · (intro wq hSw; (try dsimp only at hSw); (try simp only [List.getElem_toArray, List.getElem_cons_succ, List.getElem_cons_zero]); go_simp); try with_reducible rfl
                try simp only [List.getElem_toArray, List.getElem_cons_succ, List.getElem_cons_zero, Act.put, List.setIfInBounds_toArray, List.set_cons_zero, List.set_cons_succ]
                refine wpAnyH_take (i := 4) (v := ?_) rfl (by kernel_rfl) (by kernel_rfl) (by kernel_rfl) (fun _ _ _ h => h) (Or.inl ⟨by rfl, ?_⟩) (by assumption) ?_
                rotate_left
                · (intro wq hSw; (try dsimp only at hSw); (try simp only [List.getElem_toArray, List.getElem_cons_succ, List.getElem_cons_zero]); go_simp); try with_reducible rfl
                try simp only [List.getElem_toArray, List.getElem_cons_succ, List.getElem_cons_zero, Act.put, List.setIfInBounds_toArray, List.set_cons_zero, List.set_cons_succ]
                refine wpAnyH_take (i := 5) (v := ?_) rfl (by kernel_rfl) (by kernel_rfl) (by kernel_rfl) (fun _ _ _ h => h) (Or.inl ⟨by rfl, ?_⟩) (by assumption) ?_
                rotate_left
                · (intro wq hSw; (try dsimp only at hSw); (try simp only [List.getElem_toArray, List.getElem_cons_succ, List.getElem_cons_zero]); go_simp); try with_reducible rfl
                try simp only [List.getElem_toArray, List.getElem_cons_succ, List.getElem_cons_zero, Act.put, List.setIfInBounds_toArray, List.set_cons_zero, List.set_cons_succ]
                refine wpAnyH_take (i := 6) (v := ?_) rfl (by kernel_rfl) (by kernel_rfl) (by kernel_rfl) (fun _ _ _ h => h) (Or.inl ⟨by rfl, ?_⟩) (by assumption) ?_
                rotate_left
                · (intro wq hSw; (try dsimp only at hSw); (try simp only [List.getElem_toArray, List.getElem_cons_succ, List.getElem_cons_zero]); go_simp); try with_reducible rfl
                try simp only [List.getElem_toArray, List.getElem_cons_succ, List.getElem_cons_zero, Act.put, List.setIfInBounds_toArray, List.set_cons_zero, List.set_cons_succ]
                refine wpAnyH_take (i := 7) (v := ?_) rfl (by kernel_rfl) (by kernel_rfl) (by kernel_rfl) (fun _ _ _ h => h) (Or.inl ⟨by rfl, ?_⟩) (by assumption) ?_
                rotate_left
                · (intro wq hSw; (try dsimp only at hSw); (try simp only [List.getElem_toArray, List.getElem_cons_succ, List.getElem_cons_zero]); go_simp); try with_reducible rfl
                try simp only [List.getElem_toArray, List.getElem_cons_succ, List.getElem_cons_zero, Act.put, List.setIfInBounds_toArray, List.set_cons_zero, List.set_cons_succ]
                refine wpAnyH_take (i := 8) (v := ?_) rfl (by kernel_rfl) (by kernel_rfl) (by kernel_rfl) (fun _ _ _ h => h) (Or.inl ⟨by rfl, ?_⟩) (by assumption) ?_
                rotate_left
                · (intro wq hSw; (try dsimp only at hSw); (try simp only [List.getElem_toArray, List.getElem_cons_succ, List.getElem_cons_zero]); go_simp); try with_reducible rfl
                try simp only [List.getElem_toArray, List.getElem_cons_succ, List.getElem_cons_zero, Act.put, List.setIfInBounds_toArray, List.set_cons_zero, List.set_cons_succ]
                refine wpAnyH_take (i := 9) (v := ?_) rfl (by kernel_rfl) (by kernel_rfl) (by kernel_rfl) (fun _ _ _ h => h) (Or.inl ⟨by rfl, ?_⟩) (by assumption) ?_
                rotate_left
                · (intro wq hSw; (try dsimp only at hSw); (try simp only [List.getElem_toArray, List.getElem_cons_succ, List.getElem_cons_zero]); go_simp); try with_reducible rfl
                try simp only [List.getElem_toArray, List.getElem_cons_succ, List.getElem_cons_zero, Act.put, List.setIfInBounds_toArray, List.set_cons_zero, List.set_cons_succ]
                refine wpAnyH_take (i := 10) (v := ?_) rfl (by kernel_rfl) (by kernel_rfl) (by kernel_rfl) (fun _ _ _ h => h) (Or.inl ⟨by rfl, ?_⟩) (by assumption) ?_
                rotate_left
                · (intro wq hSw; (try dsimp only at hSw); (try simp only [List.getElem_toArray, List.getElem_cons_succ, List.getElem_cons_zero]); go_simp); try with_reducible rfl
                try simp only [List.getElem_toArray, List.getElem_cons_succ, List.getElem_cons_zero, Act.put, List.setIfInBounds_toArray, List.set_cons_zero, List.set_cons_succ]
                refine wpAnyH_take (i := 11) (v := ?_) rfl (by kernel_rfl) (by kernel_rfl) (by kernel_rfl) (fun _ _ _ h => h) (Or.inl ⟨by rfl, ?_⟩) (by assumption) ?_
                rotate_left
                · (intro wq hSw; (try dsimp only at hSw); (try simp only [List.getElem_toArray, List.getElem_cons_succ, List.getElem_cons_zero]); go_simp); try with_reducible rfl
                try simp only [List.getElem_toArray, List.getElem_cons_succ, List.getElem_cons_zero, Act.put, List.setIfInBounds_toArray, List.set_cons_zero, List.set_cons_succ]
                refine wpAnyH_take (i := 12) (v := ?_) rfl (by kernel_rfl) (by kernel_rfl) (by kernel_rfl) (fun _ _ _ h => h) (Or.inl ⟨by rfl, ?_⟩) (by assumption) ?_
                rotate_left
                · (intro wq hSw; (try dsimp only at hSw); (try simp only [List.getElem_toArray, List.getElem_cons_succ, List.getElem_cons_zero]); go_simp); try with_reducible rfl
                try simp only [List.getElem_toArray, List.getElem_cons_succ, List.getElem_cons_zero, Act.put, List.setIfInBounds_toArray, List.set_cons_zero, List.set_cons_succ]
                refine wpAnyH_take (i := 13) (v := ?_) rfl (by kernel_rfl) (by kernel_rfl) (by kernel_rfl) (fun _ _ _ h => h) (Or.inl ⟨by rfl, ?_⟩) (by assumption) ?_
                rotate_left
                · (intro wq hSw; (try dsimp only at hSw); (try simp only [List.getElem_toArray, List.getElem_cons_succ, List.getElem_cons_zero]); go_simp); try with_reducible rfl
                try simp only [List.getElem_toArray, List.getElem_cons_succ, List.getElem_cons_zero, Act.put, List.setIfInBounds_toArray, List.set_cons_zero, List.set_cons_succ]
                refine wpAnyH_take (i := 14) (v := ?_) rfl (by kernel_rfl) (by kernel_rfl) (by kernel_rfl) (fun _ _ _ h => h) (Or.inl ⟨by rfl, ?_⟩) (by assumption) ?_
                rotate_left
                · (intro wq hSw; (try dsimp only at hSw); (try simp only [List.getElem_toArray, List.getElem_cons_succ, List.getElem_cons_zero]); go_simp); try with_reducible rfl
                try simp only [List.getElem_toArray, List.getElem_cons_succ, List.getElem_cons_zero, Act.put, List.setIfInBounds_toArray, List.set_cons_zero, List.set_cons_succ]
                refine wpAnyH_take (i := 15) (v := ?_) rfl (by kernel_rfl) (by kernel_rfl) (by kernel_rfl) (fun _ _ _ h => h) (Or.inl ⟨by rfl, ?_⟩) (by assumption) ?_
                rotate_left
                · (intro wq hSw; (try dsimp only at hSw); (try simp only [List.getElem_toArray, List.getElem_cons_succ, List.getElem_cons_zero]); go_simp); try with_reducible rfl
                try simp only [List.getElem_toArray, List.getElem_cons_succ, List.getElem_cons_zero, Act.put, List.setIfInBounds_toArray, List.set_cons_zero, List.set_cons_succ]
                refine wpAnyH_take (i := 16) (v := ?_) rfl (by kernel_rfl) (by kernel_rfl) (by kernel_rfl) (fun _ _ _ h => h) (Or.inl ⟨by rfl, ?_⟩) (by assumption) ?_
                rotate_left
                · (intro wq hSw; (try dsimp only at hSw); (try simp only [List.getElem_toArray, List.getElem_cons_succ, List.getElem_cons_zero]); go_simp); try with_reducible rfl
                try simp only [List.getElem_toArray, List.getElem_cons_succ, List.getElem_cons_zero, Act.put, List.setIfInBounds_toArray, List.set_cons_zero, List.set_cons_succ]
                refine wpAnyH_take (i := 17) (v := ?_) rfl (by kernel_rfl) (by kernel_rfl) (by kernel_rfl) (fun _ _ _ h => h) (Or.inl ⟨by rfl, ?_⟩) (by assumption) ?_
                rotate_left
                · (intro wq hSw; (try dsimp only at hSw); (try simp only [List.getElem_toArray, List.getElem_cons_succ, List.getElem_cons_zero]); go_simp); try with_reducible rfl
                try simp only [List.getElem_toArray, List.getElem_cons_succ, List.getElem_cons_zero, Act.put, List.setIfInBounds_toArray, List.set_cons_zero, List.set_cons_succ]
                refine wpAnyH_take (i := 18) (v := ?_) rfl (by kernel_rfl) (by kernel_rfl) (by kernel_rfl) (fun _ _ _ h => h) (Or.inl ⟨by rfl, ?_⟩) (by assumption) ?_
                rotate_left
                · (intro wq hSw; (try dsimp only at hSw); (try simp only [List.getElem_toArray, List.getElem_cons_succ, List.getElem_cons_zero]); go_simp); try with_reducible rfl
                try simp only [List.getElem_toArray, List.getElem_cons_succ, List.getElem_cons_zero, Act.put, List.setIfInBounds_toArray, List.set_cons_zero, List.set_cons_succ]
                refine wpAnyH_take (i := 19) (v := ?_) rfl (by kernel_rfl) (by kernel_rfl) (by kernel_rfl) (fun _ _ _ h => h) (Or.inl ⟨by rfl, ?_⟩) (by assumption) ?_
                rotate_left
                · (intro wq hSw; (try dsimp only at hSw); (try simp only [List.getElem_toArray, List.getElem_cons_succ, List.getElem_cons_zero]); go_simp); try with_reducible rfl
                try simp only [List.getElem_toArray, List.getElem_cons_succ, List.getElem_cons_zero, Act.put, List.setIfInBounds_toArray, List.set_cons_zero, List.set_cons_succ]
                refine wpAnyH_take (i := 20) (v := ?_) rfl (by kernel_rfl) (by kernel_rfl) (by kernel_rfl) (fun _ _ _ h => h) (Or.inl ⟨by rfl, ?_⟩) (by assumption) ?_
                rotate_left
                · (intro wq hSw; (try dsimp only at hSw); (try simp only [List.getElem_toArray, List.getElem_cons_succ, List.getElem_cons_zero]); go_simp); try with_reducible rfl
                try simp only [List.getElem_toArray, List.getElem_cons_succ, List.getElem_cons_zero, Act.put, List.setIfInBounds_toArray, List.set_cons_zero, List.set_cons_succ]
                refine wpAnyH_take (i := 21) (v := ?_) rfl (by kernel_rfl) (by kernel_rfl) (by kernel_rfl) (fun _ _ _ h => h) (Or.inl ⟨by rfl, ?_⟩) (by assumption) ?_
                rotate_left
                · (intro wq hSw; (try dsimp only at hSw); (try simp only [List.getElem_toArray, List.getElem_cons_succ, List.getElem_cons_zero]); go_simp); try with_reducible rfl
                try simp only [List.getElem_toArray, List.getElem_cons_succ, List.getElem_cons_zero, Act.put, List.setIfInBounds_toArray, List.set_cons_zero, List.set_cons_succ]
                refine wpAnyH_take (i := 22) (v := ?_) rfl (by kernel_rfl) (by kernel_rfl) (by kernel_rfl) (fun _ _ _ h => h) (Or.inl ⟨by rfl, ?_⟩) (by assumption) ?_
                rotate_left
                · (intro wq hSw; (try dsimp only at hSw); (try simp only [List.getElem_toArray, List.getElem_cons_succ, List.getElem_cons_zero]); go_simp); try with_reducible rfl
                try simp only [List.getElem_toArray, List.getElem_cons_succ, List.getElem_cons_zero, Act.put, List.setIfInBounds_toArray, List.set_cons_zero, List.set_cons_succ]
                refine wpAnyH_take (i := 23) (v := ?_) rfl (by kernel_rfl) (by kernel_rfl) (by kernel_rfl) (fun _ _ _ h => h) (Or.inl ⟨by rfl, ?_⟩) (by assumption) ?_
                rotate_left
                · (intro wq hSw; (try dsimp only at hSw); (try simp only [List.getElem_toArray, List.getElem_cons_succ, List.getElem_cons_zero]); go_simp); try with_reducible rfl
                try simp only [List.getElem_toArray, List.getElem_cons_succ, List.getElem_cons_zero, Act.put, List.setIfInBounds_toArray, List.set_cons_zero, List.set_cons_succ]
                refine wpAnyH_done (by kernel_rfl) ?_ _
                go_wp2_with fail
                refine ⟨⟨d + 1, by omega, ?_, by go_num, Lib.hid HT3.out.drew⟩, by simp [intOf]; omega⟩
                rw [HCS.out]; rfl
              · have e1 := fin4_gone (s := s) (z := z) (laOf c j) d
                rw [e1.2] at hdead
                rw [e1.1] at hxe
                rw [finB_gone] at hye
                subst hxe; subst hye
                obtain rfl : 0 = mX := rrx.1
                obtain rfl : 0 = mY := rry.1
                have HCS := Lib.hid hcs
                have HC := Lib.hid hC
                clear e1 hcs hC rrx rry
                go_wp2_with fail
                refine hdead.mono ?_
                rintro e w3 ⟨rfl, t3⟩
                have T3w := below_then t3 T9.out
                have p1 : w3.cell? ⟨ox, d, none⟩ = some (.slice AX 0 cX) := (T3w.cell (p := ⟨ox, d, none⟩) hxl).trans px
                have p2 : w3.cell? ⟨oy, d, none⟩ = some (.slice AY 0 cY) := (T3w.cell (p := ⟨oy, d, none⟩) hyl).trans py
                have HT3 := Lib.hid T3w
                clear px py T3w t3 hdead
                go_wp2_with fail
                refine ⟨⟨d + 1, by omega, ?_, by go_num, HT3⟩, by simp [intOf]; omega⟩
                rw [HCS.out]; rfl
            · obtain rfl : d = j := by omega
              have q1 : ¬ (d : Int) < (d : Int) := by omega
              have hC : cnt (aliveL (sts.take d)) = al := by rw [List.take_of_length_le (by omega)]; exact HAL.out
              rw [hC]
              clear hC
              go_wp2_with fail
              refine (stands_any wr).mono ?_
              rintro e w3 ⟨rfl, t3⟩
              go_wp2_with fail
              go_ret
              exact ⟨rfl, TL.out.trans ((below_then t3 T9.out).mono TL.out.size)⟩
end Go.Proofs.Ytolmpopjonkfgaa

