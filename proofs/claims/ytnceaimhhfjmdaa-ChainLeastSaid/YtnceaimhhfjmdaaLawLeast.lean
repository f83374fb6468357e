/-
  ChainLeast: the walk.
-/
import Derived.Test.YtnceaimhhfjmdaaLawSees
set_option linter.unusedSimpArgs false
set_option linter.unusedVariables false
namespace Go.Proofs.Ytnceaimhhfjmdaa
open Go.RowKit Go.Cib
attribute [local go_sem] cell_set Later.cell Later.frozen Grw.cell Grw.frozen

theorem kept_first {l : List Ver} {starts : List Int} (h : rightL l = true) {x : Ver} (hx : (sel (keepP l starts) 0 l)[0]? = some x) : l[0]? = some x := by
  cases hn : noneB l starts with
  | true => rw [kept_none h hn] at hx; simp at hx
  | false =>
    rw [kept_eq h hn] at hx
    cases l with
    | nil => simp [sel] at hx
    | cons v r => rw [sel_head (by simp [seenP])] at hx; simpa using hx

/-- What is still to come: the place of starts at which x is seen. -/
def ToCome (l : List Ver) (starts : List Int) (x : Ver) (ok : Bool) (j : Nat) : Prop := ok = true ∨ ∃ i s, j ≤ i ∧ starts[i]? = some s ∧ atL l s = some x
theorem come_first {l : List Ver} {starts : List Int} (h : rightL l = true) {i : Nat} {x : Ver} (hx : (sel (keepP l starts) 0 l)[i]? = some x) : ToCome l starts x (decide (i = 0)) 0 := by
  rcases kept_each h hx with ⟨h1, _⟩ | ⟨s, hs, h1⟩
  · left; simpa using h1
  · right
    obtain ⟨j, hj⟩ := List.mem_iff_getElem?.1 hs
    exact ⟨j, s, Nat.zero_le _, hj, h1⟩
theorem come_next {l : List Ver} {starts : List Int} {x : Ver} {j : Nat} {s : Int} (h : ToCome l starts x false j) (hs : starts[j]? = some s) (hne : atL l s ≠ some x) : ToCome l starts x false (j + 1) := by
  rcases h with h | ⟨i, s', h1, h2, h3⟩
  · cases h
  · right
    refine ⟨i, s', ?_, h2, h3⟩
    rcases Nat.eq_or_lt_of_le h1 with h4 | h4
    · subst h4
      rw [hs] at h2
      injection h2 with h2
      subst h2
      exact absurd h3 hne
    · exact h4
theorem come_end {l : List Ver} {starts : List Int} {x : Ver} {ok : Bool} {j : Nat} (h : ToCome l starts x ok j) (hj : starts.length ≤ j) : ok = true := by
  rcases h with h | ⟨i, s', h1, h2, h3⟩
  · exact h
  · have := (List.getElem?_eq_some_iff.1 h2).1; omega

set_option maxRecDepth 100000 in
set_option maxHeartbeats 4000000 in
theorem chainLeast_any {l : List Ver} {starts : List Int} (A A2 : Option Addr) (n c n2 c2 : Nat) (w : World) (hn : n ≤ 9223372036854775807) (hn2 : n2 ≤ 9223372036854775807) (hr : Hid (RdL VerR 5 (fun _ => True) w A n l)) (hr2 : Hid (RdL U64R 1 (fun _ => True) w A2 n2 starts)) :
    Calls Try.prog 8 #[.slice A n c, .slice A2 n2 c2] w fun e w' => e = .returned (.bool true) ∧ Below w.heap.size w w' := by
  go_enter Try.func8, Try.ntmps8
  go_wp2_with fail
  refine (few_any 0 A n c _ hn hr).mono ?_
  rintro e w1 ⟨b, rfl, hb, t1⟩
  have HB := Lib.hid hb; clear hb
  have R1 := Lib.hid (hr.out.below VerR.stable t1)
  have Q1 := Lib.hid (hr2.out.below U64R.stable t1)
  cases b
  · go_wp2_with (go_at_call 21; refine (chains_any _).mono ?_; rintro e w2 ⟨rfl, h2⟩)
    go_ret
    exact ⟨rfl, t1.trans (h2.mono t1.size)⟩
  obtain ⟨hn60, hsm⟩ := HB.out rfl
  have HS := Lib.hid hsm; clear hsm HB
  by_cases h40 : 40 < n2
  · go_wp2_with (go_at_call 21; refine (chains_any _).mono ?_; rintro e w2 ⟨rfl, h2⟩)
    go_ret
    exact ⟨rfl, t1.trans (h2.mono t1.size)⟩
  go_wp2_with fail
  refine (right_any A n c _ (by omega) R1).mono ?_
  rintro e w2 ⟨rfl, h2⟩
  have t2 := t1.trans (h2.mono t1.size)
  have R2 := Lib.hid (R1.out.below VerR.stable h2)
  have Q2 := Lib.hid (Q1.out.below U64R.stable h2)
  clear t1 h2 R1 Q1
  cases hright : rightL l
  · clear hright
    go_wp2_with (go_at_call 21; refine (chains_any _).mono ?_; rintro e w2 ⟨rfl, h2⟩)
    go_ret
    exact ⟨rfl, t2.trans (h2.mono t2.size)⟩
  have HR := Lib.hid hright; clear hright
  go_wp2_with fail
  refine (prune_any A A2 n c n2 c2 _ (by omega) (by omega) R2 HS.out Q2).mono ?_
  rintro e w3 ⟨A3, n3, c3, A4, n4, c4, rfl, r3, _, r4, _, h3⟩
  have t3 := t2.trans (h3.mono t2.size)
  have R3 := Lib.hid (R2.out.below VerR.stable h3)
  have Q3 := Lib.hid (Q2.out.below U64R.stable h3)
  have K3 := Lib.hid r3
  have hk3 : n3 ≤ n := by have h1 := sel_length (keepP l starts) l 0; have h2 := r3.1; have h4 := R3.out.1; omega
  clear t2 h3 R2 Q2 r3 r4
  go_wp2_with fail
  go_loopw [7, 8, 9, 10, 11] (fun vi _ _ _ _ wr => ∃ k : Nat, k ≤ n3 ∧ vi = .int .i64 k ∧ Below w3.heap.size w3 wr) (fun vi _ _ _ _ _ => n3 - (intOf vi).toNat)
  case atStart => exact ⟨0, Nat.zero_le _, rfl, Below.refl _ _⟩
  case round =>
    obtain ⟨k, hk, rfl, hb⟩ := hrel
    have hbs := hb.size
    by_cases hlt : k < n3
    · obtain ⟨b3, o3, rfl, _, hb3⟩ := K3.out.addr hlt
      obtain ⟨b1, o1, rfl, _, hb1⟩ := R3.out.addr (show 0 < n by omega)
      have h0n : 0 < n := by omega
      obtain ⟨x, _, _, _, hx, _, _, f0, _, _, _, _⟩ := vers_at (K3.out.below VerR.stable hb) hlt
      obtain ⟨x0, _, _, _, hx0, _, _, g0, _, _, _, _⟩ := vers_at (R3.out.below VerR.stable hb) h0n
      simp only [Nat.zero_mul, Nat.add_zero] at g0
      have HX := Lib.hid hx
      have HC := Lib.hid (come_first HR.out hx)
      have q3 : b3 < wr.heap.size := by omega
      have q1 : b1 < wr.heap.size := by omega
      have h00 : 0 < n3 := by omega
      by_cases hk0 : k = 0
      · subst hk0
        obtain rfl : x0 = x := by have h := kept_first HR.out hx; rw [hx0] at h; injection h
        simp only [Nat.zero_mul, Nat.add_zero] at f0
        clear hx hx0
        have HC : Hid (ToCome l starts x0 true 0) := Lib.hid (.inl rfl)
        go_wp2_with fail
        obtain ⟨W0, rfl⟩ : ∃ W0 : World, W0 = wr := ⟨_, rfl⟩
        refine wp_region_later (by kernel_rfl) (by kernel_rfl) ?_
        repeat (go_big_quiet_step (fail))
        refine wpQuiet_nil ?_
        rintro _ ⟨z, rfl⟩
        have hbz : Below w3.heap.size w3 z.to := hb.trans (z.ok.mono hbs)
        obtain ⟨wz, hz⟩ : ∃ wz, z.to = wz := ⟨_, rfl⟩
        rw [hz] at hbz
        go_wp2_with fail
        rw [hz]
        clear hz f0 g0 hb hbs q3 q1
        clear z
        go_loopw [8, 9, 10, 11] (fun vok vj _ _ wi => ∃ (okb : Bool) (j : Nat), vok = .bool okb ∧ j ≤ n2 ∧ vj = .int .i64 j ∧ Below w3.heap.size w3 wi ∧ Hid (ToCome l starts x0 okb j)) (fun _ vj _ _ _ => n2 - (intOf vj).toNat)
        case atStart => exact ⟨true, 0, rfl, Nat.zero_le _, rfl, hbz, HC⟩
        case round =>
          obtain ⟨okb, j, rfl, hj, rfl, hbi, hcome⟩ := hrel
          have hbis := hbi.size
          by_cases hjn : j < n2
          · obtain ⟨b9, o9, rfl, _, hb9⟩ := Q3.out.addr hjn
            obtain ⟨s9, hs9, e9⟩ := u64_at (Q3.out.below U64R.stable hbi) hjn
            have HS9 := Lib.hid hs9; clear hs9
            have g9 := Nat.lt_of_lt_of_le hb9 hbis
            go_wp2_with fail
            refine (at_any _ n c s9 _ (by omega) (Lib.hid (R3.out.below VerR.stable hbi)) HS.out).mono ?_
            obtain ⟨y, hy⟩ : ∃ y, (atL l s9).getD .none_ = y := ⟨_, rfl⟩
            obtain ⟨g, hg⟩ : ∃ g, (atL l s9).isSome = g := ⟨_, rfl⟩
            rw [hy, hg]
            have HY := Lib.hid hy; have HG := Lib.hid hg
            clear hy hg
            rintro e w10 ⟨v10, rfl, ⟨A10, n10, c10, rfl, hnc10, r10⟩, h10⟩
            have t10 := hbi.trans (h10.mono hbis)
            clear h10 r10 e9 g9
            have hq : Below w10.heap.size w10 (w10.alloc (.cells #[.int .u64 y.stamp, .bool y.dead, .slice A10 n10 c10, .int .u64 y.blob.gen, .int .i64 y.blob.size] 46)) := (by repeat (first | (with_reducible exact Below.refl _ _) | (with_reducible assumption) | (with_reducible refine Below.drew ?_) | (with_reducible refine Below.setCell ?_ ?_ _) | (with_reducible refine Below.alloc ?_ ?_ _) | (with_reducible refine Below.later ?_ ?_ _) | (first | (with_reducible exact Nat.le_refl _) | omega | (simp only [World.size_alloc, World.size_setCell, World.size_drew] <;> omega))))
            have t11 := t10.trans (hq.mono t10.size)
            obtain ⟨x', _, _, _, hx', _, _, f0, _, _, _, _⟩ := vers_at (K3.out.below VerR.stable t10) hlt
            obtain rfl : x' = x0 := by have h := hx'.symm.trans HX.out; injection h
            clear hx'
            try simp only [Nat.zero_mul, Nat.add_zero] at f0
            have q3 : b3 < w10.heap.size := by have := t10.size; omega
            have q4 : 0 < w10.heap.size := by omega
            cases okb
            · cases g
              · go_wp2_with fail
                refine wp_region_later (by kernel_rfl) (by kernel_rfl) ?_
                repeat (go_big_quiet_step (fail))
                refine wpQuiet_nil ?_
                rintro _ ⟨z, rfl⟩
                go_wp2_with fail
                refine ⟨⟨false, j + 1, rfl, by omega, by go_num, t11.trans (z.ok.mono t11.size), Lib.hid (come_next hcome.out HS9.out ?_)⟩, by simp [intOf]; omega⟩
                intro h
                have := HG.out
                rw [h] at this; cases this
              · by_cases hst : y.stamp = x'.stamp
                · have u1 : (y.stamp == x'.stamp) = true := by simpa using hst
                  have HST := Lib.hid hst; clear hst
                  go_wp2_with fail
                  refine wp_region_later (by kernel_rfl) (by kernel_rfl) ?_
                  repeat (go_big_quiet_step (fail))
                  refine wpQuiet_nil ?_
                  rintro _ ⟨z, rfl⟩
                  go_wp2_with fail
                  exact ⟨⟨true, j + 1, rfl, by omega, by go_num, t11.trans (z.ok.mono t11.size), Lib.hid (.inl rfl)⟩, by simp [intOf]; omega⟩
                · have u1 : (y.stamp == x'.stamp) = false := by simpa using hst
                  have HST := Lib.hid hst; clear hst
                  go_wp2_with fail
                  refine wp_region_later (by kernel_rfl) (by kernel_rfl) ?_
                  repeat (go_big_quiet_step (fail))
                  refine wpQuiet_nil ?_
                  rintro _ ⟨z, rfl⟩
                  go_wp2_with fail
                  refine ⟨⟨false, j + 1, rfl, by omega, by go_num, t11.trans (z.ok.mono t11.size), Lib.hid (come_next hcome.out HS9.out ?_)⟩, by simp [intOf]; omega⟩
                  intro h
                  have h2 := HY.out
                  rw [h] at h2
                  exact HST.out (by rw [← h2]; rfl)
            · go_wp2_with fail
              refine wp_region_later (by kernel_rfl) (by kernel_rfl) ?_
              repeat (go_big_quiet_step (fail))
              refine wpQuiet_nil ?_
              rintro _ ⟨z, rfl⟩
              go_wp2_with fail
              exact ⟨⟨true, j + 1, rfl, by omega, by go_num, t11.trans (z.ok.mono t11.size), Lib.hid (.inl rfl)⟩, by simp [intOf]; omega⟩
          · obtain rfl : okb = true := come_end hcome.out (by rw [Q3.out.1]; omega)
            go_wp2_with fail
            exact ⟨⟨0 + 1, by omega, by go_num, hbi⟩, by simp [intOf]; omega⟩
      · have hne : ((k : Int) == 0) = false := by simp; omega
        clear hx hx0
        rw [show decide (k = 0) = false by simp [hk0]] at HC
        have HK := Lib.hid hk0; clear hk0
        go_wp2_with fail
        obtain ⟨W0, rfl⟩ : ∃ W0 : World, W0 = wr := ⟨_, rfl⟩
        refine wp_region_later (by kernel_rfl) (by kernel_rfl) ?_
        repeat (go_big_quiet_step (fail))
        refine wpQuiet_nil ?_
        rintro _ ⟨z, rfl⟩
        have hbz : Below w3.heap.size w3 z.to := hb.trans (z.ok.mono hbs)
        obtain ⟨wz, hz⟩ : ∃ wz, z.to = wz := ⟨_, rfl⟩
        rw [hz] at hbz
        go_wp2_with fail
        rw [hz]
        clear hz f0 g0 hb hbs q3 q1
        clear z
        go_loopw [8, 9, 10, 11] (fun vok vj _ _ wi => ∃ (okb : Bool) (j : Nat), vok = .bool okb ∧ j ≤ n2 ∧ vj = .int .i64 j ∧ Below w3.heap.size w3 wi ∧ Hid (ToCome l starts x okb j)) (fun _ vj _ _ _ => n2 - (intOf vj).toNat)
        case atStart => exact ⟨false, 0, rfl, Nat.zero_le _, rfl, hbz, HC⟩
        case round =>
          obtain ⟨okb, j, rfl, hj, rfl, hbi, hcome⟩ := hrel
          have hbis := hbi.size
          by_cases hjn : j < n2
          · obtain ⟨b9, o9, rfl, _, hb9⟩ := Q3.out.addr hjn
            obtain ⟨s9, hs9, e9⟩ := u64_at (Q3.out.below U64R.stable hbi) hjn
            have HS9 := Lib.hid hs9; clear hs9
            have g9 := Nat.lt_of_lt_of_le hb9 hbis
            go_wp2_with fail
            refine (at_any _ n c s9 _ (by omega) (Lib.hid (R3.out.below VerR.stable hbi)) HS.out).mono ?_
            obtain ⟨y, hy⟩ : ∃ y, (atL l s9).getD .none_ = y := ⟨_, rfl⟩
            obtain ⟨g, hg⟩ : ∃ g, (atL l s9).isSome = g := ⟨_, rfl⟩
            rw [hy, hg]
            have HY := Lib.hid hy; have HG := Lib.hid hg
            clear hy hg
            rintro e w10 ⟨v10, rfl, ⟨A10, n10, c10, rfl, hnc10, r10⟩, h10⟩
            have t10 := hbi.trans (h10.mono hbis)
            clear h10 r10 e9 g9
            have hq : Below w10.heap.size w10 (w10.alloc (.cells #[.int .u64 y.stamp, .bool y.dead, .slice A10 n10 c10, .int .u64 y.blob.gen, .int .i64 y.blob.size] 46)) := (by repeat (first | (with_reducible exact Below.refl _ _) | (with_reducible assumption) | (with_reducible refine Below.drew ?_) | (with_reducible refine Below.setCell ?_ ?_ _) | (with_reducible refine Below.alloc ?_ ?_ _) | (with_reducible refine Below.later ?_ ?_ _) | (first | (with_reducible exact Nat.le_refl _) | omega | (simp only [World.size_alloc, World.size_setCell, World.size_drew] <;> omega))))
            have t11 := t10.trans (hq.mono t10.size)
            obtain ⟨x', _, _, _, hx', _, _, f0, _, _, _, _⟩ := vers_at (K3.out.below VerR.stable t10) hlt
            obtain rfl : x' = x := by have h := hx'.symm.trans HX.out; injection h
            clear hx'
            try simp only [Nat.zero_mul, Nat.add_zero] at f0
            have q3 : b3 < w10.heap.size := by have := t10.size; omega
            have q4 : 0 < w10.heap.size := by omega
            cases okb
            · cases g
              · go_wp2_with fail
                refine wp_region_later (by kernel_rfl) (by kernel_rfl) ?_
                repeat (go_big_quiet_step (fail))
                refine wpQuiet_nil ?_
                rintro _ ⟨z, rfl⟩
                go_wp2_with fail
                refine ⟨⟨false, j + 1, rfl, by omega, by go_num, t11.trans (z.ok.mono t11.size), Lib.hid (come_next hcome.out HS9.out ?_)⟩, by simp [intOf]; omega⟩
                intro h
                have := HG.out
                rw [h] at this; cases this
              · by_cases hst : y.stamp = x'.stamp
                · have u1 : (y.stamp == x'.stamp) = true := by simpa using hst
                  have HST := Lib.hid hst; clear hst
                  go_wp2_with fail
                  refine wp_region_later (by kernel_rfl) (by kernel_rfl) ?_
                  repeat (go_big_quiet_step (fail))
                  refine wpQuiet_nil ?_
                  rintro _ ⟨z, rfl⟩
                  go_wp2_with fail
                  exact ⟨⟨true, j + 1, rfl, by omega, by go_num, t11.trans (z.ok.mono t11.size), Lib.hid (.inl rfl)⟩, by simp [intOf]; omega⟩
                · have u1 : (y.stamp == x'.stamp) = false := by simpa using hst
                  have HST := Lib.hid hst; clear hst
                  go_wp2_with fail
                  refine wp_region_later (by kernel_rfl) (by kernel_rfl) ?_
                  repeat (go_big_quiet_step (fail))
                  refine wpQuiet_nil ?_
                  rintro _ ⟨z, rfl⟩
                  go_wp2_with fail
                  refine ⟨⟨false, j + 1, rfl, by omega, by go_num, t11.trans (z.ok.mono t11.size), Lib.hid (come_next hcome.out HS9.out ?_)⟩, by simp [intOf]; omega⟩
                  intro h
                  have h2 := HY.out
                  rw [h] at h2
                  exact HST.out (by rw [← h2]; rfl)
            · go_wp2_with fail
              refine wp_region_later (by kernel_rfl) (by kernel_rfl) ?_
              repeat (go_big_quiet_step (fail))
              refine wpQuiet_nil ?_
              rintro _ ⟨z, rfl⟩
              go_wp2_with fail
              exact ⟨⟨true, j + 1, rfl, by omega, by go_num, t11.trans (z.ok.mono t11.size), Lib.hid (.inl rfl)⟩, by simp [intOf]; omega⟩
          · obtain rfl : okb = true := come_end hcome.out (by rw [Q3.out.1]; omega)
            go_wp2_with fail
            exact ⟨⟨k + 1, by omega, by go_num, hbi⟩, by simp [intOf]; omega⟩
    · have R9 := Lib.hid (R3.out.below VerR.stable hb)
      have t9 := t3.trans (hb.mono t3.size)
      clear K3 Q3
      by_cases h0 : 0 < n
      · obtain ⟨b1, o1, rfl, _, hb1⟩ := R3.out.addr h0
        go_wp2_with fail
        refine (prune_any (starts := []) _ none n c 0 0 _ (by omega) (by omega) R9 HS.out (Lib.hid (RdL.nil (S := fun _ => True)))).mono ?_
        rintro e w10 ⟨A10, n10, c10, A11, n11, c11, rfl, r10, _, r11, _, h10⟩
        have R10 := Lib.hid (R9.out.below VerR.stable h10)
        have t10 := t9.trans (h10.mono t9.size)
        have hb2 : b1 < w10.heap.size := by have := h10.size; have := hb.size; omega
        obtain ⟨x0, B0, m0, d0, hx0, _, hp0, g0, g1, g2, g3, g4⟩ := vers_at R10.out h0
        simp only [Nat.zero_mul, Nat.add_zero] at g0 g1 g2 g3 g4
        obtain ⟨r, hl⟩ : ∃ r, l = x0 :: r := by
          cases l with
          | nil => simp at hx0
          | cons v r =>
            have h : v = x0 := by simpa using hx0
            exact ⟨r, by rw [h]⟩
        subst hl
        have HP0 := Lib.hid hp0
        clear hx0 r11 h10 R9 t9 hp0
        obtain ⟨st, dd, bl⟩ := x0
        simp only at g0 g1 g2 g3 g4 HP0
        cases dd
        · rw [kept_one HR.out rfl] at r10
          obtain rfl : n10 = 1 := r10.1.symm
          obtain ⟨b10, o10, rfl, _, hb10⟩ := r10.addr (show 0 < 1 by omega)
          obtain ⟨x1, B1, m1, d1, hx1, _, hp1, j0, j1, j2, j3, j4⟩ := vers_at r10 (show 0 < 1 by omega)
          simp only [List.getElem?_cons_zero, Option.some.injEq] at hx1
          subst hx1
          simp only [Nat.zero_mul, Nat.add_zero] at j0 j1 j2 j3 j4 hp1
          have HP1 := Lib.hid hp1
          have hm1 : m1 ≤ 65536 := by rw [← HP1.out.1]; exact HS.out ⟨st, false, bl⟩ (by simp)
          clear hp1 r10
          go_wp2_with fail
          refine wp_region_later (by kernel_rfl) (by kernel_rfl) ?_
          repeat (go_big_quiet_step (first | (go_at_call 30; exact Later.call _ (verSame_any (x := ⟨st, false, bl⟩) (y := ⟨st, false, bl⟩) (v := true) B1 B0 m1 d1 m0 d0 _ hm1 (Lib.hid (HP1.out.below IntR.stable (Later.ok _))) (Lib.hid (HP0.out.below IntR.stable (Later.ok _))) (Lib.hid (ver_same_refl _))) (Nat.le_refl _)) | (go_at_call 21; exact Later.call _ (chains_any _) (Nat.le_refl _))))
          refine wpQuiet_nil ?_
          rintro _ ⟨z, rfl⟩
          go_wp2_with fail
          go_ret
          exact ⟨rfl, t10.trans (z.ok.mono t10.size)⟩
        · rw [kept_dead HR.out rfl] at r10
          obtain rfl : n10 = 0 := r10.1.symm
          clear r10
          go_wp2_with fail
          refine wp_region_later (by kernel_rfl) (by kernel_rfl) ?_
          repeat (go_big_quiet_step ((go_at_call 21; exact Later.call _ (chains_any _) (Nat.le_refl _))))
          refine wpQuiet_nil ?_
          rintro _ ⟨z, rfl⟩
          go_wp2_with fail
          go_ret
          exact ⟨rfl, t10.trans (z.ok.mono t10.size)⟩
      · have hz : decide (0 < n) = false := by simpa using h0
        have hl : l = [] := List.length_eq_zero_iff.1 (by have := R3.out.1; omega)
        have H0 := Lib.hid h0; clear h0
        subst hl
        go_wp2_with fail
        refine (prune_any (starts := []) A none n c 0 0 _ (by omega) (by omega) R9 HS.out (Lib.hid (RdL.nil (S := fun _ => True)))).mono ?_
        rintro e w10 ⟨A10, n10, c10, A11, n11, c11, rfl, r10, _, r11, _, h10⟩
        obtain rfl : n10 = 0 := r10.1.symm
        have t10 := t9.trans (h10.mono t9.size)
        clear r10 r11 h10 R9 t9
        go_wp2_with fail
        refine wp_region_later (by kernel_rfl) (by kernel_rfl) ?_
        repeat (go_big_quiet_step ((go_at_call 21; exact Later.call _ (chains_any _) (Nat.le_refl _))))
        refine wpQuiet_nil ?_
        rintro _ ⟨z, rfl⟩
        go_wp2_with fail
        go_ret
        exact ⟨rfl, t10.trans (z.ok.mono t10.size)⟩
end Go.Proofs.Ytnceaimhhfjmdaa
