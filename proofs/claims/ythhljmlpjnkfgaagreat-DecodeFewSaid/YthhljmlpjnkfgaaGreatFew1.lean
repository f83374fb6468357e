/-
  Too few rows.
-/
import Derived.Test.YthhljmlpjnkfgaaGreatFew0
set_option linter.unusedSimpArgs false
set_option linter.unusedVariables false
namespace Go.Proofs.YthhljmlpjnkfgaaGreat
open Go.RowKit Go.Cib
attribute [local go_sem] cell_set Later.cell Later.frozen Grw.cell Grw.frozen
theorem run_max_b (ts : Array TypeId) (t : TypeId) (x y : Int) (w : World) : (Builtin.max_ ts t #[.int .i64 x, .int .i64 y]).run Tryz.prog w = .ok (.int .i64 (max x y)) w := by
  rw [run_max_int2, show (if x < y then y else x) = max x y by omega]
attribute [local go_sem ↓] run_min_b run_max_b
theorem eq_ptr0 (w : World) : (binOp .eql 23 (.pointer none) (.pointer none)).run Tryz.prog w = .ok (.bool true) w := by go_simp

set_option maxRecDepth 100000 in
set_option maxHeartbeats 16000000 in
theorem few_any {w : World} {z0 z1 : Int} {A2 A3 : Option Addr} {n2 c2 n3 c3 : Nat} {row : List Nat} {hv : List Int} (R2 : RdL ByR 1 (fun _ => True) w A2 n2 row) (R3 : RdL IntR 1 (fun _ => True) w A3 n3 hv) :
    Calls Tryz.prog 5 #[.int .i64 z0, .int .i64 z1, .slice A2 n2 c2, .slice A3 n3 c3] w fun e w' => e = .returned (.bool true) ∧ Below w.heap.size w w' := by
  have H2 := Lib.hid R2
  have H3 := Lib.hid R3
  have hrl := R2.1
  clear R2 R3
  go_enter Tryz.func5, Tryz.ntmps5
  go_wp2_with fail
  refine fldnew_any.mono ?_
  rintro e w1 ⟨rfl, hF, hb1⟩
  have hs1 := hb1.size
  by_cases hok : 1 ≤ z0 ∧ 1 ≤ z1 ∧ z0 ≤ 255 ∧ z1 ≤ 255 - z0
  · obtain ⟨k, rfl⟩ : ∃ k : Nat, z0 = (k : Int) := ⟨z0.toNat, by omega⟩
    obtain ⟨m, rfl⟩ : ∃ m : Nat, z1 = (m : Int) := ⟨z1.toNat, by omega⟩
    have k1 : 1 ≤ k := by omega
    have m1 : 1 ≤ m := by omega
    have km : k + m ≤ 255 := by omega
    have hnew := new_any (k := k) (m := m) hF k1 m1 km
    clear hok
    go_wp2_with fail
    refine hnew.mono ?_
    rintro e w2 ⟨cb, rfl, hC, hk⟩
    have hb2 : Below w.heap.size w w2 := hb1.trans (Keep.below hk hb1.size (fun k hk => by rw [hk]; exact Nat.le_refl _))
    have HC := Lib.hid hC
    have HB2 := Lib.hid hb2
    clear hF hb1 hnew hC hk hb2
    have q0 : (0 : Int) ≤ (k : Int) := Int.natCast_nonneg _
    have q1 : (0 : Int) ≤ (m : Int) := Int.natCast_nonneg _
    have q2 : (k : Int) + (m : Int) ≤ 255 := by omega
    have hdc := decodes_any (w := w2)
    by_cases hbig : (k : Int) + (m : Int) > 24
    · go_wp2_with fail
      refine hdc.mono ?_
      rintro e w3 ⟨rfl, hb3⟩
      go_wp2_with fail
      go_ret
      exact ⟨rfl, HB2.out.trans (hb3.mono HB2.out.size)⟩
    · by_cases hlong : (n2 : Int) > 100
      · go_wp2_with fail
        refine hdc.mono ?_
        rintro e w3 ⟨rfl, hb3⟩
        go_wp2_with fail
        go_ret
        exact ⟨rfl, HB2.out.trans (hb3.mono HB2.out.size)⟩
      · by_cases hz : n2 = 0
        · subst hz
          go_wp2_with fail
          refine hdc.mono ?_
          rintro e w3 ⟨rfl, hb3⟩
          go_wp2_with fail
          go_ret
          exact ⟨rfl, HB2.out.trans (hb3.mono HB2.out.size)⟩
        · have hz2 : ((n2 : Int) == 0) = false := by simp; omega
          have hn2 : 0 < n2 := by omega
          have hn3 : n2 ≤ 100 := by omega
          have hN : k + m ≤ 24 := by omega
          clear hdc hz
          have hmk := makeRows (k + m) (by omega) w2
          have ho := OutAt.made w2 (k + m) 29
          have hbz : Below w2.heap.size w2 (w2.alloc (.cells (Array.replicate (k + m) (.slice none 0 0)) 29)) := (Below.refl _ _).alloc (Nat.le_refl _) _
          obtain ⟨w3, hw3⟩ : ∃ w3, w2.alloc (.cells (Array.replicate (k + m) (.slice none 0 0)) 29) = w3 := ⟨_, rfl⟩
          rw [hw3] at hmk ho hbz
          obtain ⟨go, hgo⟩ : ∃ go, w2.heap.size = go := ⟨_, rfl⟩
          rw [hgo] at hmk ho
          push_cast at hmk
          have HO := Lib.hid ho
          have HBw := Lib.hid hbz
          have HGO := Lib.hid (show w2.heap.size ≤ go by omega)
          clear ho hbz hw3 hgo
          go_wp2_with fail
          go_loopw [11, 12] (fun vn vi wr => ∃ (i cnt : Nat) (rows : Rws), (i : Int) ≤ (k : Int) - 1 ∧ i ≤ n3 ∧ vi = .int .i64 i ∧ vn = .int .i64 cnt ∧ cnt ≤ i ∧ Hid (FewI row (k + m) i cnt rows) ∧ Hid (OutAt wr go go (k + m) rows) ∧ Hid (Below w2.heap.size w2 wr)) (fun _ vi _ => k - (intOf vi).toNat)
          case atStart => exact ⟨0, 0, _, by omega, Nat.zero_le _, rfl, rfl, Nat.le_refl _, Lib.hid (FewI.zero row (k + m)), HO, HBw⟩
          case round =>
            clear HO HBw hmk
            obtain ⟨i, cnt, rows, hi, hi3, rfl, rfl, hci, HF, HO, HG⟩ := hrel
            have HB := Lib.hid (HB2.out.trans (HG.out.mono HB2.out.size))
            have p0 : (0 : Int) ≤ (i : Int) := Int.natCast_nonneg _
            have p9 : (0 : Int) ≤ (cnt : Int) := Int.natCast_nonneg _
            have p8 : (cnt : Int) ≤ (i : Int) := by omega
            by_cases hlt : i < n3 ∧ (i : Int) < (k : Int) - 1
            · have p1 : (i : Int) < (n3 : Int) := by omega
              have p2 : (i : Int) < (k : Int) - 1 := hlt.2
              obtain ⟨b3, o3, rfl, _, hb3⟩ := H3.out.addr hlt.1
              obtain ⟨x, hx, v3⟩ := int_at H3.out hlt.1
              have v3' := (HB.out.cell (p := ⟨b3, o3 + i, none⟩) hb3).trans v3
              obtain ⟨a, ha, haN⟩ := clamp (x := x) (N := (k : Int) + (m : Int)) (by omega)
              have ha2 : a < k + m := by omega
              have p3 : (0 : Int) ≤ (a : Int) := Int.natCast_nonneg _
              obtain ⟨cur, hcb, hcs, hcur⟩ := HO.out.cur
              obtain ⟨A1, m1, c1, e1, _, r1⟩ := hcur a ha2
              have g1 := (hcb.cell a).trans e1
              have hm1 : (ra rows a).length = m1 := r1.1
              have hal := HO.out.lt
              have hrw : RdL ByR 1 (fun _ => True) wr A2 n2 row := H2.out.below ByR.stable HB.out
              have hrp : 0 < row.length := by omega
              by_cases he : m1 = 0
              · have he2 : ((m1 : Int) == 0) = true := by rw [he]; rfl
                have HF2 := Lib.hid (HF.out.put ha2 hrp (by omega))
                clear v3 hx hcb hcs hcur e1 r1 hm1 he hlt
                have hA := Lib.hid (hrw.alloc ByR.stable (.cells #[] 5))
                clear hrw
                go_wp2_with (at_builtin; refine wpList_appL ByR.stable ByR.one sl_by rfl (by exact rfl) (base := wr.heap.size) (S := fun _ => True) (n := 0) (xs := []) (by exact rfl) (OwnL.made #[] 0 (Nat.le_refl _) (by unfold maxLen; omega) rfl) (by exact rfl) hA.out (fun _ _ h => h) (by unfold maxLen; omega) (by omega) (by simp only [World.size_alloc]; omega) ?_; intro A' c' w' hc hown hg hat; have hb : Below wr.heap.size wr w' := ((Below.refl _ _).alloc (Nat.le_refl _) _).grown hg (by simp only [World.size_alloc]; omega) (fun k hk => by simp only [Value.ownBlock, Option.some.injEq] at hk; omega); rw [Nat.zero_add, List.nil_append] at hown; obtain ⟨A5, c5, hv5, hc5, hr5⟩ := hown.rd (S' := fun b => wr.heap.size ≤ b) (fun b hb => hb) (fun cs x hx => hx); simp only [Value.slice.injEq] at hv5; obtain ⟨rfl, _, rfl⟩ := hv5; have ho5 := HO.out.below hb; obtain ⟨⟨u5, hu5⟩, f5⟩ := ho5.cellx ha2; have hst := ho5.set (i := a) ha2 hc5 (hr5.weaken ByR.stable (fun j hj => ⟨(by have h9 : wr.heap.size ≤ j := hj; omega), (by have h9 : wr.heap.size ≤ j := hj; omega)⟩)); have HO5 := Lib.hid hst; have HB5 := Lib.hid ((HG.out.trans (hb.mono HG.out.size)).setCell (p := ⟨go, a, none⟩) HGO.out (.slice A' n2 c')); clear hA hown hg hat hb hr5 ho5 hst)
                exact ⟨⟨i + 1, cnt + 1, _, by omega, by omega, by go_num, by go_num, by omega, HF2, HO5, HB5⟩, by simp [intOf]; omega⟩
              · have he2 : ((m1 : Int) == 0) = false := by simp; omega
                have HF2 := Lib.hid (HF.out.again ha2 hrp (by omega))
                clear v3 hx hcb hcs hcur e1 r1 hm1 he hlt
                have hA := Lib.hid (hrw.alloc ByR.stable (.cells #[] 5))
                clear hrw
                go_wp2_with (at_builtin; refine wpList_appL ByR.stable ByR.one sl_by rfl (by exact rfl) (base := wr.heap.size) (S := fun _ => True) (n := 0) (xs := []) (by exact rfl) (OwnL.made #[] 0 (Nat.le_refl _) (by unfold maxLen; omega) rfl) (by exact rfl) hA.out (fun _ _ h => h) (by unfold maxLen; omega) (by omega) (by simp only [World.size_alloc]; omega) ?_; intro A' c' w' hc hown hg hat; have hb : Below wr.heap.size wr w' := ((Below.refl _ _).alloc (Nat.le_refl _) _).grown hg (by simp only [World.size_alloc]; omega) (fun k hk => by simp only [Value.ownBlock, Option.some.injEq] at hk; omega); rw [Nat.zero_add, List.nil_append] at hown; obtain ⟨A5, c5, hv5, hc5, hr5⟩ := hown.rd (S' := fun b => wr.heap.size ≤ b) (fun b hb => hb) (fun cs x hx => hx); simp only [Value.slice.injEq] at hv5; obtain ⟨rfl, _, rfl⟩ := hv5; have ho5 := HO.out.below hb; obtain ⟨⟨u5, hu5⟩, f5⟩ := ho5.cellx ha2; have hst := ho5.set (i := a) ha2 hc5 (hr5.weaken ByR.stable (fun j hj => ⟨(by have h9 : wr.heap.size ≤ j := hj; omega), (by have h9 : wr.heap.size ≤ j := hj; omega)⟩)); have HO5 := Lib.hid hst; have HB5 := Lib.hid ((HG.out.trans (hb.mono HG.out.size)).setCell (p := ⟨go, a, none⟩) HGO.out (.slice A' n2 c')); clear hA hown hg hat hb hr5 ho5 hst)
                exact ⟨⟨i + 1, cnt, _, by omega, by omega, by go_num, rfl, by omega, HF2, HO5, HB5⟩, by simp [intOf]; omega⟩
            · have hend : ¬ ((i : Int) < (n3 : Int) ∧ (i : Int) < (k : Int) - 1) := by omega
              have hlens : ∀ j, lenF rows j ≤ 1000000 := fun j => by rcases HF.out.lenF j with h | h <;> omega
              have hlens2 : ∀ j, lenF (rows.take (k + m - 1)) j ≤ 1000000 := fun j => Nat.le_trans (lenF_take _ _ _) (hlens j)
              have hck : (thU rows (k + m)).length < k := by rw [← HF.out.cnt]; omega
              have hrd := HO.out.rd
              have hbad := HF.out.bad
              have hcw := HC.out.below HG.out
              have hd1 := ddata_any (cs := k + m) hcw hrd (by omega) hlens (Lib.hid fun _ h => absurd hck h)
              have hpp := fun w => piece_pre sl_rows (A := some ⟨go, 0, none⟩) (N := k + m) (c := k + m) (k := k + m - 1) (by omega) w
              rw [show ((k + m - 1 : Nat) : Int) = (k : Int) + (m : Int) - 1 by omega] at hpp
              have pk : (cnt : Int) < (k : Int) := by omega
              have HCW := Lib.hid hcw
              have HRD := Lib.hid hrd
              have HCK := Lib.hid hck
              have HBAD := Lib.hid hbad
              have HL := Lib.hid hlens
              have HL2 := Lib.hid hlens2
              clear hlens hlens2 hck hrd hbad hcw HO HF HC HG
              have hloop : (¬ (i : Int) < (n3 : Int)) ∨ ((i : Int) < (n3 : Int) ∧ ¬ (i : Int) < (k : Int) - 1) := by
                by_cases h : (i : Int) < (n3 : Int)
                · exact .inr ⟨h, fun h2 => hend ⟨h, h2⟩⟩
                · exact .inl h
              clear hlt hend
              rcases hloop with hlt1 | ⟨hlt1, hlt2⟩
              all_goals
                go_wp2_with fail
                refine hd1.mono ?_
                rintro e w4 ⟨hb4, ⟨h, _⟩ | ⟨_, _, rfl⟩ | ⟨_, h, _⟩⟩
                · exact absurd h (by rw [HBAD.out]; simp)
                · have hd2 := dall_any (cs := k + m) (HCW.out.below hb4) (HRD.out.below RowR.stable hb4) (by omega) HL.out (Lib.hid fun _ h => absurd HCK.out h)
                  clear hd1
                  go_wp2_with fail
                  refine hd2.mono ?_
                  rintro e w5 ⟨hb5, ⟨h, _⟩ | ⟨_, _, rfl⟩ | ⟨_, h, _⟩⟩
                  · exact absurd h (by rw [HBAD.out]; simp)
                  · have hb45 := hb4.trans (hb5.mono hb4.size)
                    have hd3 := ddata_any (cs := k + m) (HCW.out.below hb45) (RdL.take (HRD.out.below RowR.stable hb45) (n := k + m) (k := k + m - 1) (by omega)) (by omega) HL2.out (Lib.hid fun h => absurd h (by rw [bad_short (by omega)]; simp))
                    have HB45 := Lib.hid hb45
                    clear hd2 hb45 hb4 hb5
                    go_wp2_with fail
                    clear hpp
                    refine hd3.mono ?_
                    rintro e w6 ⟨hb6, ⟨_, rfl⟩ | ⟨h, _⟩ | ⟨h, _⟩⟩
                    · have HB6 := Lib.hid (HB.out.trans ((HB45.out.trans (hb6.mono HB45.out.size)).mono HB.out.size))
                      have hdc := decodes_any (w := w6)
                      clear hd3 hb6
                      go_wp2_with fail
                      refine hdc.mono ?_
                      rintro e w7 ⟨rfl, hb7⟩
                      go_wp2_with fail
                      go_ret
                      exact ⟨by simp, HB6.out.trans (hb7.mono HB6.out.size)⟩
                    · exact absurd h (by rw [bad_short (by omega)]; simp)
                    · exact absurd h (by rw [bad_short (by omega)]; simp)
                  · exact absurd HCK.out h
                · exact absurd HCK.out h
  · have hnew := new_bad (w := w1) (f := .pointer (some ⟨w.heap.size, 0, none⟩)) hok
    clear hok
    go_wp2_with fail
    refine hnew.mono ?_
    rintro e w2 ⟨rfl, rfl⟩
    have hdc := decodes_any (w := w2)
    go_wp2_with fail
    refine hdc.mono ?_
    rintro e w3 ⟨rfl, hb3⟩
    go_wp2_with fail
    go_ret
    exact ⟨rfl, hb1.trans (hb3.mono hb1.size)⟩
end Go.Proofs.YthhljmlpjnkfgaaGreat
