/-
  The document's solving of equations.
  The document's data of any rows.
  The document's shard of data.
  The document's answer of all rows.
  Whether rows are few and short: what is told of any rows.
-/
import Derived.Test.YthhljmlpjnkfgaaGreatDt8
import Derived.Test.YthhljmlpjnkfgaaGreatDt7
set_option linter.unusedSimpArgs false
set_option linter.unusedVariables false
namespace Go.Proofs.YthhljmlpjnkfgaaGreat
open Go.RowKit Go.Cib
attribute [local go_sem] cell_set Later.cell Later.frozen Grw.cell Grw.frozen
set_option maxRecDepth 100000 in
set_option maxHeartbeats 16000000 in
theorem solve_any {w : World} {k n c : Nat} {A : Option Addr} {S0 : Nat → Prop} {D : Rws} {es : List (List Nat × List Nat)} (R : RdL EqR 2 S0 w A k es) (k1 : 1 ≤ k) (hk : k ≤ 255) (hn : n ≤ 1000000) (hD : Shp k n D) (hS : Says k n D (es.map (·.1)) (es.map (·.2))) :
    Calls Tryz.prog 39 #[.slice A k c] w fun e w' => ∃ go, e = .returned (.slice (some ⟨go, 0, none⟩) k k) ∧ RdL RowR 1 (fun _ => True) w' (some ⟨go, 0, none⟩) k D ∧ Below w.heap.size w w' := by
  have hR0 : RdL EqR 2 (fun b => b < w.heap.size) w A k es := R.stable EqR.stable fun b _ h => ⟨h, rfl⟩
  have hA := Lib.hid (hR0.alloc EqR.stable (.cells #[] 94))
  have HS := Lib.hid hS
  have HD := Lib.hid hD
  clear R hR0 hS hD
  go_enter Tryz.func39, Tryz.ntmps39
  go_wp2_with (at_builtin; refine wpList_appL EqR.stable EqR.one sl_eqn rfl (by exact rfl) (base := w.heap.size) (S := fun _ => True) (n := 0) (xs := []) (by exact rfl) (OwnL.made #[] 0 (Nat.le_refl _) (by unfold maxLen; omega) rfl) (by exact rfl) hA.out (fun cs y hy => EqR.stable _ _ _ _ _ _ hy fun b hb _ => ⟨⟨trivial, fun e => by have : b = w.heap.size := (by simpa [Value.ownBlock] using e); omega⟩, rfl⟩) (by unfold maxLen; omega) (by omega) (by simp only [World.size_alloc]; omega) ?_; intro A' c' w' hc hown hg hat; have hb : Below w.heap.size w w' := ((Below.refl _ _).alloc (Nat.le_refl _) _).grown hg (by simp only [World.size_alloc]; omega) (fun k hk => by simp only [Value.ownBlock, Option.some.injEq] at hk; omega); rw [Nat.zero_add, List.nil_append] at hown; obtain ⟨A5, c5, hv5, hc5, hr5⟩ := hown.rd (S' := fun b => w.heap.size ≤ b ∨ b < w.heap.size) (fun b hb => .inl hb) (fun cs x hx => EqR.stable _ _ _ _ _ _ hx fun b _ _ => ⟨(by omega), rfl⟩); simp only [Value.slice.injEq] at hv5; obtain ⟨rfl, _, rfl⟩ := hv5; obtain ⟨g, og, rfl, _, _⟩ := hr5.addr (k := 0) (by omega); have hog : og = 0 := (by have h9 := hown.form; obtain ⟨css, ⟨_, h9⟩, _⟩ := hown; rcases h9 with ⟨h9, _⟩ | ⟨g', cap, cur, h9, _⟩ <;> simp at h9; exact h9.1.2); subst hog; have HO := Lib.hid (EqAt.own hown (by omega)); have HG := Lib.hid (hown.lt g rfl).1; have HB := Lib.hid hb; clear hown hr5 hg hat hb)
  clear hA
  have q0 : (k : Int) ≤ 255 := by omega
  have q1 : (0 : Int) ≤ (k : Int) := Int.natCast_nonneg _
  go_loopw [5] (fun vj wr => ∃ (j : Nat) (fs rs : Rws), j ≤ k ∧ vj = .int .i64 j ∧ Hid (EqAt wr g (· ≠ g) k fs rs) ∧ Hid (Says k n D fs rs) ∧ Hid (Tri k j fs) ∧ Hid (Below w.heap.size w wr)) (fun vj _ => k - (intOf vj).toNat)
  case atStart => exact ⟨0, _, _, Nat.zero_le _, rfl, HO, HS, Lib.hid ⟨fun i hi => by omega, fun i l _ hi => by omega, fun i l _ _ hl => by omega⟩, HB⟩
  case round =>
    clear HO HS HB
    obtain ⟨j, fs, rs, hj, rfl, HO, HS, HT, HB⟩ := hrel
    have p0 : (0 : Int) ≤ (j : Int) := Int.natCast_nonneg _
    by_cases hlt : j < k
    · have p1 : (j : Int) < (k : Int) := by omega
      go_wp2_with fail
      obtain ⟨w1, rfl⟩ : ∃ w1, w1 = wr := ⟨_, rfl⟩
      go_loopw [6] (fun va wr => ∃ a : Nat, j ≤ a ∧ a < k ∧ va = .int .i64 a ∧ wr = w1 ∧ Hid (∀ l, j ≤ l → l < a → gt (ra fs l) j = 0)) (fun va _ => k - (intOf va).toNat)
      case atStart => exact ⟨j, Nat.le_refl _, hlt, rfl, rfl, Lib.hid fun l h1 h2 => by omega⟩
      case round =>
        obtain ⟨a, hja, hak, rfl, hwr, HZ⟩ := hrel
        rw [hwr]
        clear hwr
        have p2 : (0 : Int) ≤ (a : Int) := Int.natCast_nonneg _
        obtain ⟨A1, m1, c1, A2, m2, c2, v1, v2, f1, f2, hc1, hc2, r1, r2⟩ := HO.out.at hak
        have hm1 : k = m1 := by rw [← r1.1]; exact (HS.out.fsh.row hak).1.symm
        have hm2 : n = m2 := by rw [← r2.1]; exact (HS.out.rsh.row hak).1.symm
        subst hm1
        subst hm2
        obtain ⟨b1, oo1, rfl, _, _⟩ := r1.addr hlt
        obtain ⟨x1, y1⟩ := by_at r1 hlt
        have p3 : (a : Int) < (k : Int) := by omega
        by_cases hex : a + 1 = k ∨ gt (ra fs a) j ≠ 0
        · have hpv := HS.out.pivot hlt HT.out HZ.out hex
          obtain ⟨B1, n1, d1, B2, n2, d2, u1, u2, g1, g2, _, _, t1, t2⟩ := HO.out.at hlt
          have hn1 : k = n1 := by rw [← t1.1]; exact (HS.out.fsh.row hlt).1.symm
          have hn2 : n = n2 := by rw [← t2.1]; exact (HS.out.rsh.row hlt).1.symm
          subst hn1
          subst hn2
          have hex2 : (¬ (a : Int) < (k : Int) - 1) ∨ ((a : Int) < (k : Int) - 1 ∧ ((gt (ra fs a) j : Int) == 0) = false) := by
            by_cases h : a + 1 = k
            · exact .inl (by omega)
            · exact .inr ⟨by omega, by rw [beq_eq_false_iff_ne]; intro e; exact hpv (by exact_mod_cast e)⟩
          -- the worlds of the swap
          have hb1 : Below w1.heap.size w1 (w1.alloc (.cells #[.slice B1 k d1, .slice B2 n d2] 94)) := (Below.refl _ _).alloc (Nat.le_refl _) _
          have x0 := BoxAt.new w1 #[.slice B1 k d1, .slice B2 n d2] 94
          have o1 := HO.out.below hb1
          have l1 := o1.lt
          have gq : g ≠ w1.heap.size := by have := HO.out.lt; omega
          obtain ⟨W1, hW1⟩ : ∃ W, w1.alloc (.cells #[.slice B1 k d1, .slice B2 n d2] 94) = W := ⟨_, rfl⟩
          rw [hW1] at hb1 x0 o1 l1
          have va1 := (hb1.cell (p := ⟨g, a * 2, none⟩) HO.out.lt).trans v1
          have va2 := (hb1.cell (p := ⟨g, a * 2 + 1, none⟩) HO.out.lt).trans v2
          have vj1 := (hb1.cell (p := ⟨g, j * 2, none⟩) HO.out.lt).trans u1
          have vj2 := (hb1.cell (p := ⟨g, j * 2 + 1, none⟩) HO.out.lt).trans u2
          obtain ⟨_, _, _, _, _, _, _, _, fj1, fj2, _⟩ := o1.at hlt
          have o2 := o1.set hlt hc1 hc2 (r1.below ByR.stable hb1) (r2.below ByR.stable hb1)
          have y0 := (x0.set_other (p := ⟨g, j * 2, none⟩) gq.symm (.slice (some ⟨b1, oo1, none⟩) k c1)).set_other (p := ⟨g, j * 2 + 1, none⟩) gq.symm (.slice A2 n c2)
          have hb2 : Below w.heap.size w ((W1.setCell ⟨g, j * 2, none⟩ (.slice (some ⟨b1, oo1, none⟩) k c1)).setCell ⟨g, j * 2 + 1, none⟩ (.slice A2 n c2)) := ((HB.out.trans (hb1.mono HB.out.size)).setCell HG.out _).setCell HG.out _
          obtain ⟨W2, hW2⟩ : ∃ W, (W1.setCell ⟨g, j * 2, none⟩ (.slice (some ⟨b1, oo1, none⟩) k c1)).setCell ⟨g, j * 2 + 1, none⟩ (.slice A2 n c2) = W := ⟨_, rfl⟩
          rw [hW2] at o2 y0 hb2
          obtain ⟨_, _, _, _, _, _, _, _, fa1, fa2, _⟩ := o2.at hak
          have wq0 := y0.cell 0
          have wq1 := y0.cell 1
          have tr : ∀ {B : Option Addr} {N : Nat} {x : List Nat}, RdL ByR 1 (· ≠ g) w1 B N x → RdL ByR 1 (· ≠ g) W2 B N x := fun hx => by
            rw [← hW2]
            exact ((hx.below ByR.stable hb1).setCell ByR.stable (p := ⟨g, j * 2, none⟩) (fun hs => hs rfl) _).setCell ByR.stable (p := ⟨g, j * 2 + 1, none⟩) (fun hs => hs rfl) _
          have o3 := o2.set hak (by assumption) (by assumption) (tr t1) (tr t2)
          have hb3 : Below w.heap.size w ((W2.setCell ⟨g, a * 2, none⟩ (.slice B1 k d1)).setCell ⟨g, a * 2 + 1, none⟩ (.slice B2 n d2)) := (hb2.setCell HG.out _).setCell HG.out _
          obtain ⟨W3, hW3⟩ : ∃ W, (W2.setCell ⟨g, a * 2, none⟩ (.slice B1 k d1)).setCell ⟨g, a * 2 + 1, none⟩ (.slice B2 n d2) = W := ⟨_, rfl⟩
          rw [hW3] at o3 hb3
          change EqAt W3 g (· ≠ g) k (swF fs j a) (swF rs j a) at o3
          have s3 := HS.out.swap hlt hak
          obtain ⟨t3, e3⟩ := HT.out.swap HO.out.fl hlt hja hak
          obtain ⟨C1, m3, d3, C2, m4, d4, z1, z2, k1', k2', hd3, hd4, r3, r4⟩ := o3.at hlt
          have hm3 : k = m3 := by rw [← r3.1]; exact (s3.fsh.row hlt).1.symm
          have hm4 : n = m4 := by rw [← r4.1]; exact (s3.rsh.row hlt).1.symm
          subst hm3
          subst hm4
          obtain ⟨b3, oo3, rfl, _, _⟩ := r3.addr hlt
          obtain ⟨x3, y3⟩ := by_at r3 hlt
          rw [← e3] at hpv
          have hdv := rdiv_any (w := W3) (a := 1) (by omega) hpv y3
          have hti := times_any (w := W3) (c1 := d3) (c2 := d4) (dv_lt 1 (gt (ra (swF fs j a) j) j)) r3 r4 (by omega) hn
          have tm := t3.scaled s3.fsh.1 hlt (s3.fsh.row hlt).2 hpv
          have s4 := s3.scale (c := dv 1 (gt (ra (swF fs j a) j) j)) hlt (fun e => by have := dv_mul (a := 1) (by omega) hpv y3; rw [e, zero_gm] at this; omega)
          obtain ⟨f3, hf3⟩ : ∃ f, swF fs j a = f := ⟨_, rfl⟩
          obtain ⟨h3, hh3⟩ : ∃ f, swF rs j a = f := ⟨_, rfl⟩
          rw [hf3] at o3 hdv hti tm s4 x3
          rw [hh3] at o3 hti s4
          obtain ⟨dvv, hdvv⟩ : ∃ f, dv 1 (gt (ra f3 j) j) = f := ⟨_, rfl⟩
          rw [hdvv] at hdv hti tm s4
          have O3 := Lib.hid o3
          have B3 := Lib.hid hb3
          have TM := Lib.hid tm
          have S4 := Lib.hid s4
          clear hpv hex o1 o2 o3 y0 x0 hb1 hb2 hb3 l1 tr s3 t3 e3 tm s4 hf3 hh3 hdvv r3 r4 t1 t2 r1 r2 HZ HT HS HO HB
          rcases hex2 with hx1 | ⟨hx1, hx2⟩
          all_goals
            go_wp2_with fail
            refine hdv.mono ?_
            rintro e w5 ⟨rfl, hw5⟩
            rw [hw5]
            clear hw5 hdv u1 u2 v1 v2 g1 g2 x1 y1 hx1
            go_wp2_with fail
            refine hti.mono ?_
            rintro e w5 ⟨E1, e1, E2, e2, rfl, he1, he2, hr5, hr6, hb5⟩
            clear hti
            have o5 := O3.out.below hb5
            have hg5 := o5.lt
            obtain ⟨_, _, _, _, _, _, z1, z2, k1', k2', _⟩ := o5.at hlt
            have hne : ∀ b, W3.heap.size ≤ b → b ≠ g := fun b hb => by have := O3.out.lt; omega
            have o6 := o5.set hlt he1 he2 (hr5.weaken ByR.stable hne) (hr6.weaken ByR.stable hne)
            have hb6 : Below w.heap.size w ((w5.setCell ⟨g, j * 2, none⟩ (.slice E1 k e1)).setCell ⟨g, j * 2 + 1, none⟩ (.slice E2 n e2)) := ((B3.out.trans (hb5.mono B3.out.size)).setCell HG.out _).setCell HG.out _
            obtain ⟨W6, hW6⟩ : ∃ W, (w5.setCell ⟨g, j * 2, none⟩ (.slice E1 k e1)).setCell ⟨g, j * 2 + 1, none⟩ (.slice E2 n e2) = W := ⟨_, rfl⟩
            rw [hW6] at o6 hb6
            have O6 := Lib.hid o6
            have B6 := Lib.hid hb6
            clear o5 o6 hb6 hb5 hr5 hr6 O3 B3
            go_wp2_with fail
            obtain ⟨f4, hf4⟩ : ∃ f, f3.set j (sc dvv (ra f3 j)) = f := ⟨_, rfl⟩
            obtain ⟨h4, hh4⟩ : ∃ f, h3.set j (sc dvv (ra h3 j)) = f := ⟨_, rfl⟩
            rw [hf4] at O6 S4 TM
            rw [hh4] at O6 S4
            clear hf4 hh4 hW1 hW2 hW3 hW6 wq0 wq1 va1 va2 vj1 vj2 fj1 fj2 fa1 fa2 z1 z2 k1' k2'
            go_loopw [10] (fun vi wr => ∃ (i : Nat) (fs rs : Rws), j + 1 ≤ i ∧ i ≤ k ∧ vi = .int .i64 i ∧ Hid (EqAt wr g (· ≠ g) k fs rs) ∧ Hid (Says k n D fs rs) ∧ Hid (Mid k j i fs) ∧ Hid (Below w.heap.size w wr)) (fun vi _ => k - (intOf vi).toNat)
            case atStart => exact ⟨j + 1, _, _, Nat.le_refl _, hlt, by go_num, O6, S4, TM, B6⟩
            case round =>
              clear O6 S4 TM B6
              obtain ⟨wq, rfl⟩ : ∃ wq, wq = wr := ⟨_, rfl⟩
              obtain ⟨i, fs, rs, hi1, hi2, rfl, HO, HS, HM, HB⟩ := hrel
              have p5 : (0 : Int) ≤ (i : Int) := Int.natCast_nonneg _
              by_cases hik : i < k
              · have p6 : (i : Int) < (k : Int) := by omega
                obtain ⟨A1, m1, c1, A2, m2, c2, v1, v2, f1, f2, hc1, hc2, r1, r2⟩ := HO.out.at hik
                obtain ⟨B1, n1, d1, B2, n2, d2, u1, u2, g1, g2, _, _, t1, t2⟩ := HO.out.at hlt
                have hm1 : k = m1 := by rw [← r1.1]; exact (HS.out.fsh.row hik).1.symm
                have hm2 : n = m2 := by rw [← r2.1]; exact (HS.out.rsh.row hik).1.symm
                have hn1 : k = n1 := by rw [← t1.1]; exact (HS.out.fsh.row hlt).1.symm
                have hn2 : n = n2 := by rw [← t2.1]; exact (HS.out.rsh.row hlt).1.symm
                subst hm1
                subst hm2
                subst hn1
                subst hn2
                obtain ⟨b1, oo1, rfl, _, hbb1⟩ := r1.addr hlt
                obtain ⟨x1, y1⟩ := by_at r1 hlt
                have hgl := HO.out.lt
                have v1' := fun w' (h : Below wq.heap.size wq w') => (h.cell (p := ⟨g, i * 2, none⟩) hgl).trans v1
                have v2' := fun w' (h : Below wq.heap.size wq w') => (h.cell (p := ⟨g, i * 2 + 1, none⟩) hgl).trans v2
                have u1' := fun w' (h : Below wq.heap.size wq w') => (h.cell (p := ⟨g, j * 2, none⟩) hgl).trans u1
                have u2' := fun w' (h : Below wq.heap.size wq w') => (h.cell (p := ⟨g, j * 2 + 1, none⟩) hgl).trans u2
                have x1' := fun w' (h : Below wq.heap.size wq w') => (h.cell (p := ⟨b1, oo1 + j, none⟩) hbb1).trans x1
                have bd : Below wq.heap.size wq wq.drew := (Below.refl _ _).drew
                have hle := less_any (w := wq.drew) (c1 := c1) (c2 := c2) (c3 := d1) (c4 := d2) y1 (r1.below ByR.stable bd) (r2.below ByR.stable bd) (t1.below ByR.stable bd) (t2.below ByR.stable bd) (by omega) hn (by omega) hn
                have s9 := HS.out.less hik hlt (by omega) j
                have m9 := HM.out.less HO.out.fl hlt (by omega) hik (by rw [(HS.out.fsh.row hlt).1, (HS.out.fsh.row hik).1]) (HS.out.fsh.row hik).2
                obtain ⟨fc, hfc⟩ : ∃ f, gt (ra fs i) j = f := ⟨_, rfl⟩
                rw [hfc] at x1' hle s9 m9
                have S9 := Lib.hid s9
                have M9 := Lib.hid m9
                clear v1 v2 f1 f2 u1 u2 g1 g2 x1 y1 r1 r2 t1 t2 s9 m9 hfc HS HM
                go_wp2_with fail
                refine wp_region_L (S := fun w' => Below wq.heap.size wq w') [20] (by kernel_rfl) (by first | assumption | exact Below.refl _ _ | exact (Below.refl _ _).drew) (fun hHeld => ?_)
                refine wpAnyL_take (i := 0) (v := ?_) rfl (by kernel_rfl) (by kernel_rfl) (by kernel_rfl) (by kernel_rfl) (fun _ _ _ h => h) (Or.inl ⟨by first | kernel_rfl | rfl, ?_⟩) (by assumption) ?_
                rotate_left
                · (intro wq0 hSw; (try dsimp only at hSw); (try simp (maxSteps := 2000000) only [List.getElem_toArray, List.getElem_cons_succ, List.getElem_cons_zero]); go_simp); try with_reducible rfl
                try simp (maxSteps := 2000000) only [List.getElem_toArray, List.getElem_cons_succ, List.getElem_cons_zero, Act.put, List.setIfInBounds_toArray, List.set_cons_zero, List.set_cons_succ]
                refine wpAnyL_take (i := 1) (v := ?_) rfl (by kernel_rfl) (by kernel_rfl) (by kernel_rfl) (by kernel_rfl) (fun _ _ _ h => h) (Or.inl ⟨by first | kernel_rfl | rfl, ?_⟩) (by assumption) ?_
                rotate_left
                · (intro wq0 hSw; (try dsimp only at hSw); (try simp (maxSteps := 2000000) only [List.getElem_toArray, List.getElem_cons_succ, List.getElem_cons_zero]); go_simp); try with_reducible rfl
                try simp (maxSteps := 2000000) only [List.getElem_toArray, List.getElem_cons_succ, List.getElem_cons_zero, Act.put, List.setIfInBounds_toArray, List.set_cons_zero, List.set_cons_succ]
                refine wpAnyL_take (i := 2) (v := ?_) rfl (by kernel_rfl) (by kernel_rfl) (by kernel_rfl) (by kernel_rfl) (fun _ _ _ h => h) (Or.inl ⟨by first | kernel_rfl | rfl, ?_⟩) (by assumption) ?_
                rotate_left
                · (intro wq0 hSw; (try dsimp only at hSw); (try simp (maxSteps := 2000000) only [List.getElem_toArray, List.getElem_cons_succ, List.getElem_cons_zero]); go_simp); try with_reducible rfl
                try simp (maxSteps := 2000000) only [List.getElem_toArray, List.getElem_cons_succ, List.getElem_cons_zero, Act.put, List.setIfInBounds_toArray, List.set_cons_zero, List.set_cons_succ]
                refine wpAnyL_take (i := 3) (v := ?_) rfl (by kernel_rfl) (by kernel_rfl) (by kernel_rfl) (by kernel_rfl) (fun _ _ _ h => h) (Or.inl ⟨by first | kernel_rfl | rfl, ?_⟩) (by assumption) ?_
                rotate_left
                · (intro wq0 hSw; (try dsimp only at hSw); (try simp (maxSteps := 2000000) only [List.getElem_toArray, List.getElem_cons_succ, List.getElem_cons_zero]); go_simp); try with_reducible rfl
                try simp (maxSteps := 2000000) only [List.getElem_toArray, List.getElem_cons_succ, List.getElem_cons_zero, Act.put, List.setIfInBounds_toArray, List.set_cons_zero, List.set_cons_succ]
                refine wpAnyL_take (i := 4) (v := ?_) rfl (by kernel_rfl) (by kernel_rfl) (by kernel_rfl) (by kernel_rfl) (fun _ _ _ h => h) (Or.inl ⟨by first | kernel_rfl | rfl, ?_⟩) (by assumption) ?_
                rotate_left
                · (intro wq0 hSw; (try dsimp only at hSw); (try simp (maxSteps := 2000000) only [List.getElem_toArray, List.getElem_cons_succ, List.getElem_cons_zero]); go_simp); try with_reducible rfl
                try simp (maxSteps := 2000000) only [List.getElem_toArray, List.getElem_cons_succ, List.getElem_cons_zero, Act.put, List.setIfInBounds_toArray, List.set_cons_zero, List.set_cons_succ]
                refine wpAnyL_take (i := 5) (v := ?_) rfl (by kernel_rfl) (by kernel_rfl) (by kernel_rfl) (by kernel_rfl) (fun _ _ _ h => h) (Or.inl ⟨by first | kernel_rfl | rfl, ?_⟩) (by assumption) ?_
                rotate_left
                · (intro wq0 hSw; (try dsimp only at hSw); (try simp (maxSteps := 2000000) only [List.getElem_toArray, List.getElem_cons_succ, List.getElem_cons_zero]); go_simp); try with_reducible rfl
                try simp (maxSteps := 2000000) only [List.getElem_toArray, List.getElem_cons_succ, List.getElem_cons_zero, Act.put, List.setIfInBounds_toArray, List.set_cons_zero, List.set_cons_succ]
                refine wpAnyL_take (i := 6) (v := ?_) rfl (by kernel_rfl) (by kernel_rfl) (by kernel_rfl) (by kernel_rfl) (fun _ _ _ h => h) (Or.inl ⟨by first | kernel_rfl | rfl, ?_⟩) (by assumption) ?_
                rotate_left
                · (intro wq0 hSw; (try dsimp only at hSw); (try simp (maxSteps := 2000000) only [List.getElem_toArray, List.getElem_cons_succ, List.getElem_cons_zero]); go_simp); try with_reducible rfl
                try simp (maxSteps := 2000000) only [List.getElem_toArray, List.getElem_cons_succ, List.getElem_cons_zero, Act.put, List.setIfInBounds_toArray, List.set_cons_zero, List.set_cons_succ]
                refine wpAnyL_take (i := 7) (v := ?_) rfl (by kernel_rfl) (by kernel_rfl) (by kernel_rfl) (by kernel_rfl) (fun _ _ _ h => h) (Or.inl ⟨by first | kernel_rfl | rfl, ?_⟩) (by assumption) ?_
                rotate_left
                · (intro wq0 hSw; (try dsimp only at hSw); (try simp (maxSteps := 2000000) only [List.getElem_toArray, List.getElem_cons_succ, List.getElem_cons_zero]); go_simp); try with_reducible rfl
                try simp (maxSteps := 2000000) only [List.getElem_toArray, List.getElem_cons_succ, List.getElem_cons_zero, Act.put, List.setIfInBounds_toArray, List.set_cons_zero, List.set_cons_succ]
                refine wpAnyL_take (i := 8) (v := ?_) rfl (by kernel_rfl) (by kernel_rfl) (by kernel_rfl) (by kernel_rfl) (fun _ _ _ h => h) (Or.inl ⟨by first | kernel_rfl | rfl, ?_⟩) (by assumption) ?_
                rotate_left
                · (intro wq0 hSw; (try dsimp only at hSw); (try simp (maxSteps := 2000000) only [List.getElem_toArray, List.getElem_cons_succ, List.getElem_cons_zero]); go_simp); try with_reducible rfl
                try simp (maxSteps := 2000000) only [List.getElem_toArray, List.getElem_cons_succ, List.getElem_cons_zero, Act.put, List.setIfInBounds_toArray, List.set_cons_zero, List.set_cons_succ]
                refine wpAnyL_take (i := 9) (v := ?_) rfl (by kernel_rfl) (by kernel_rfl) (by kernel_rfl) (by kernel_rfl) (fun _ _ _ h => h) (Or.inl ⟨by first | kernel_rfl | rfl, ?_⟩) (by assumption) ?_
                rotate_left
                · (intro wq0 hSw; (try dsimp only at hSw); (try simp (maxSteps := 2000000) only [List.getElem_toArray, List.getElem_cons_succ, List.getElem_cons_zero]); go_simp); try with_reducible rfl
                try simp (maxSteps := 2000000) only [List.getElem_toArray, List.getElem_cons_succ, List.getElem_cons_zero, Act.put, List.setIfInBounds_toArray, List.set_cons_zero, List.set_cons_succ]
                refine wpAnyL_take (i := 10) (v := ?_) rfl (by kernel_rfl) (by kernel_rfl) (by kernel_rfl) (by kernel_rfl) (fun _ _ _ h => h) (Or.inl ⟨by first | kernel_rfl | rfl, ?_⟩) (by assumption) ?_
                rotate_left
                · (intro wq0 hSw; (try dsimp only at hSw); (try simp (maxSteps := 2000000) only [List.getElem_toArray, List.getElem_cons_succ, List.getElem_cons_zero]); go_simp); try with_reducible rfl
                try simp (maxSteps := 2000000) only [List.getElem_toArray, List.getElem_cons_succ, List.getElem_cons_zero, Act.put, List.setIfInBounds_toArray, List.set_cons_zero, List.set_cons_succ]
                refine wpAnyL_take (i := 11) (v := ?_) rfl (by kernel_rfl) (by kernel_rfl) (by kernel_rfl) (by kernel_rfl) (fun _ _ _ h => h) (Or.inl ⟨by first | kernel_rfl | rfl, ?_⟩) (by assumption) ?_
                rotate_left
                · (intro wq0 hSw; (try dsimp only at hSw); (try simp (maxSteps := 2000000) only [List.getElem_toArray, List.getElem_cons_succ, List.getElem_cons_zero]); go_simp); try with_reducible rfl
                try simp (maxSteps := 2000000) only [List.getElem_toArray, List.getElem_cons_succ, List.getElem_cons_zero, Act.put, List.setIfInBounds_toArray, List.set_cons_zero, List.set_cons_succ]
                refine wpAnyL_take (i := 12) (v := ?_) rfl (by kernel_rfl) (by kernel_rfl) (by kernel_rfl) (by kernel_rfl) (fun _ _ _ h => h) (Or.inl ⟨by first | kernel_rfl | rfl, ?_⟩) (by assumption) ?_
                rotate_left
                · (intro wq0 hSw; (try dsimp only at hSw); (try simp (maxSteps := 2000000) only [List.getElem_toArray, List.getElem_cons_succ, List.getElem_cons_zero]); go_simp); try with_reducible rfl
                try simp (maxSteps := 2000000) only [List.getElem_toArray, List.getElem_cons_succ, List.getElem_cons_zero, Act.put, List.setIfInBounds_toArray, List.set_cons_zero, List.set_cons_succ]
                refine wpAnyL_take (i := 13) (v := ?_) rfl (by kernel_rfl) (by kernel_rfl) (by kernel_rfl) (by kernel_rfl) (fun _ _ _ h => h) (Or.inl ⟨by first | kernel_rfl | rfl, ?_⟩) (by assumption) ?_
                rotate_left
                · (intro wq0 hSw; (try dsimp only at hSw); (try simp (maxSteps := 2000000) only [List.getElem_toArray, List.getElem_cons_succ, List.getElem_cons_zero]); go_simp); try with_reducible rfl
                try simp (maxSteps := 2000000) only [List.getElem_toArray, List.getElem_cons_succ, List.getElem_cons_zero, Act.put, List.setIfInBounds_toArray, List.set_cons_zero, List.set_cons_succ]
                refine wpAnyL_take (i := 14) (v := ?_) rfl (by kernel_rfl) (by kernel_rfl) (by kernel_rfl) (by kernel_rfl) (fun _ _ _ h => h) (Or.inl ⟨by first | kernel_rfl | rfl, ?_⟩) (by assumption) ?_
                rotate_left
                · (intro wq0 hSw; (try dsimp only at hSw); (try simp (maxSteps := 2000000) only [List.getElem_toArray, List.getElem_cons_succ, List.getElem_cons_zero]); go_simp); try with_reducible rfl
                try simp (maxSteps := 2000000) only [List.getElem_toArray, List.getElem_cons_succ, List.getElem_cons_zero, Act.put, List.setIfInBounds_toArray, List.set_cons_zero, List.set_cons_succ]
                refine wpAnyL_take (i := 15) (v := ?_) rfl (by kernel_rfl) (by kernel_rfl) (by kernel_rfl) (by kernel_rfl) (fun _ _ _ h => h) (Or.inl ⟨by first | kernel_rfl | rfl, ?_⟩) (by assumption) ?_
                rotate_left
                · (intro wq0 hSw; (try dsimp only at hSw); (try simp (maxSteps := 2000000) only [List.getElem_toArray, List.getElem_cons_succ, List.getElem_cons_zero]); go_simp); try with_reducible rfl
                try simp (maxSteps := 2000000) only [List.getElem_toArray, List.getElem_cons_succ, List.getElem_cons_zero, Act.put, List.setIfInBounds_toArray, List.set_cons_zero, List.set_cons_succ]
                refine wpAnyL_take (i := 16) (v := ?_) rfl (by kernel_rfl) (by kernel_rfl) (by kernel_rfl) (by kernel_rfl) (fun _ _ _ h => h) (Or.inl ⟨by first | kernel_rfl | rfl, ?_⟩) (by assumption) ?_
                rotate_left
                · (intro wq0 hSw; (try dsimp only at hSw); (try simp (maxSteps := 2000000) only [List.getElem_toArray, List.getElem_cons_succ, List.getElem_cons_zero]); go_simp); try with_reducible rfl
                try simp (maxSteps := 2000000) only [List.getElem_toArray, List.getElem_cons_succ, List.getElem_cons_zero, Act.put, List.setIfInBounds_toArray, List.set_cons_zero, List.set_cons_succ]
                refine wpAnyL_take (i := 17) (v := ?_) rfl (by kernel_rfl) (by kernel_rfl) (by kernel_rfl) (by kernel_rfl) (fun _ _ _ h => h) (Or.inl ⟨by first | kernel_rfl | rfl, ?_⟩) (by assumption) ?_
                rotate_left
                · (intro wq0 hSw; (try dsimp only at hSw); (try simp (maxSteps := 2000000) only [List.getElem_toArray, List.getElem_cons_succ, List.getElem_cons_zero]); go_simp); try with_reducible rfl
                try simp (maxSteps := 2000000) only [List.getElem_toArray, List.getElem_cons_succ, List.getElem_cons_zero, Act.put, List.setIfInBounds_toArray, List.set_cons_zero, List.set_cons_succ]
                refine wpAnyL_ready (rs := [18]) (by kernel_rfl) (by simp) ?_
                refine AllReadyL.cons rfl (fun K hK => ?_) AllReadyL.nil
                try simp (maxSteps := 2000000) only [List.getElem_toArray, List.getElem_cons_succ, List.getElem_cons_zero]
                go_simp
                go_at_call 64
                refine hle.mono ?_
                rintro e w5 ⟨E1, e1, E2, e2, rfl, he1, he2, hr5, hr6, hb5⟩
                have s5 : Below wq.heap.size wq w5 := bd.trans hb5
                have o5 := HO.out.below s5
                obtain ⟨_, _, _, _, _, _, z1, z2, k1', k2', _⟩ := o5.at hik
                have hne : ∀ b, wq.drew.heap.size ≤ b → b ≠ g := fun b hb => by have := HO.out.lt; have : wq.heap.size ≤ b := hb; omega
                have o6 := o5.set hik he1 he2 (hr5.weaken ByR.stable hne) (hr6.weaken ByR.stable hne)
                have O6 := Lib.hid o6
                have hb6 : Below w.heap.size w ((w5.setCell ⟨g, i * 2, none⟩ (.slice E1 k e1)).setCell ⟨g, i * 2 + 1, none⟩ (.slice E2 n e2)) := ((HB.out.trans (s5.mono HB.out.size)).setCell HG.out _).setCell HG.out _
                have B6 := Lib.hid hb6
                clear o5 o6 hb6 hb5 hr5 hr6 hle
                try (go_wp2_with fail)
                refine hK.out _ _ (by first | assumption | exact Below.refl _ _ | exact (Below.refl _ _).drew) (fun hHeld => ?_)
                clear hK K
                try simp (maxSteps := 2000000) only [List.getElem_toArray, List.getElem_cons_succ, List.getElem_cons_zero, Act.put, List.setIfInBounds_toArray, List.set_cons_zero, List.set_cons_succ]
                refine wpAnyL_take (i := 19) (v := ?_) rfl (by kernel_rfl) (by kernel_rfl) (by kernel_rfl) (by kernel_rfl) (fun _ _ _ h => h) (Or.inl ⟨by first | kernel_rfl | rfl, ?_⟩) (by assumption) ?_
                rotate_left
                · (intro wq0 hSw; (try dsimp only at hSw); (try simp (maxSteps := 2000000) only [List.getElem_toArray, List.getElem_cons_succ, List.getElem_cons_zero]); go_simp); try with_reducible rfl
                try simp (maxSteps := 2000000) only [List.getElem_toArray, List.getElem_cons_succ, List.getElem_cons_zero, Act.put, List.setIfInBounds_toArray, List.set_cons_zero, List.set_cons_succ]
                refine wpAnyL_ready (rs := [20]) (by kernel_rfl) (by simp) ?_
                refine AllReadyL.last rfl (by decide) (fun K hK => ?_) AllReadyL.nil
                try simp (maxSteps := 2000000) only [List.getElem_toArray, List.getElem_cons_succ, List.getElem_cons_zero]
                go_simp
                refine hK.out _ _ ?_
                clear hK K
                try simp (maxSteps := 2000000) only [List.getElem_toArray, List.getElem_cons_succ, List.getElem_cons_zero, Act.put, List.setIfInBounds_toArray, List.set_cons_zero, List.set_cons_succ]
                refine wpAnyL_done (by kernel_rfl) ?_ _
                go_wp2_with fail
                exact ⟨⟨i + 1, _, _, by omega, by omega, by go_num, O6, S9, M9, B6⟩, by simp [intOf]; omega⟩
              · have p6 : ¬ (i : Int) < (k : Int) := by omega
                obtain rfl : i = k := by omega
                have T9 := Lib.hid (HM.out.done hlt)
                go_wp2_with fail
                exact ⟨⟨j + 1, _, _, by omega, by go_num, HO, HS, T9, HB⟩, by simp [intOf]; omega⟩
        · have h1 : ¬ a + 1 = k := fun h => hex (.inl h)
          have h2 : gt (ra fs a) j = 0 := Classical.byContradiction fun h => hex (.inr h)
          have p4 : (a : Int) < (k : Int) - 1 := by omega
          have p5 : ((gt (ra fs a) j : Int) == 0) = true := by rw [h2]; rfl
          have HZ2 := Lib.hid (show ∀ l, j ≤ l → l < a + 1 → gt (ra fs l) j = 0 from fun l h3 h4 => by
            by_cases e : l = a
            · rw [e]; exact h2
            · exact HZ.out l h3 (by omega))
          clear h2 hex
          go_wp2_with fail
          exact ⟨⟨a + 1, by omega, by omega, by go_num, trivial, HZ2⟩, by simp [intOf]; omega⟩
    · have p1 : ¬ (j : Int) < (k : Int) := by omega
      obtain rfl : k = j := by omega
      have hmk := makeRows k (by omega) wr
      have gl := HO.out.lt
      have ho := OutS.made wr (fun b => b ≠ g ∧ b ≠ wr.heap.size) k 29 (fun b hb => hb.2)
      have hbz : Below wr.heap.size wr (wr.alloc (.cells (Array.replicate k (.slice none 0 0)) 29)) := (Below.refl _ _).alloc (Nat.le_refl _) _
      have hoe : EqAt wr g (fun b => b ≠ g ∧ b ≠ wr.heap.size) k fs rs := HO.out.more (fun b h1 h2 => ⟨h1, by omega⟩) (fun b hb => hb.1)
      have hoe2 := hoe.below hbz
      obtain ⟨wA, hwA⟩ : ∃ wA, wr.alloc (.cells (Array.replicate k (.slice none 0 0)) 29) = wA := ⟨_, rfl⟩
      rw [hwA] at hmk ho hbz hoe2
      have hgo : w.heap.size ≤ wr.heap.size := HB.out.size
      have ggo : g ≠ wr.heap.size := by omega
      obtain ⟨go, hgoe⟩ : ∃ go, wr.heap.size = go := ⟨_, rfl⟩
      rw [hgoe] at hmk ho hoe2 ggo hgo
      have HO2 := Lib.hid ho
      have HE2 := Lib.hid hoe2
      have HBZ := Lib.hid (HB.out.trans (hbz.mono HB.out.size))
      have HGO := Lib.hid hgo
      have HNE := Lib.hid ggo
      have HCO := Lib.hid (show Col k k fs from ⟨HT.out, fun c h1 h2 => by omega⟩)
      clear hoe ho hbz hoe2 hwA hgo ggo hgoe gl HO HT HB
      go_wp2_with fail
      clear hmk
      go_loopw [12] (fun vj wr => ∃ (i : Nat) (fs rs rows : Rws), i ≤ k ∧ vj = .int .i64 ((i : Int) - 1) ∧ Hid (EqAt wr g (fun b => b ≠ g ∧ b ≠ go) k fs rs) ∧ Hid (Says k n D fs rs) ∧ Hid (Col k i fs) ∧ Hid (OutS wr (fun b => b ≠ g ∧ b ≠ go) go k rows) ∧ Hid (∀ c, i ≤ c → c < k → ra rows c = ra D c) ∧ Hid (Below w.heap.size w wr)) (fun vj _ => (intOf vj + 1).toNat)
      case atStart => exact ⟨k, _, _, _, Nat.le_refl _, by go_num, HE2, HS, HCO, HO2, Lib.hid (fun c h1 h2 => by omega), HBZ⟩
      case round =>
        clear HE2 HS HCO HO2 HBZ
        obtain ⟨i, fs, rs, rows, hi, rfl, HE, HS, HC, HO, HW, HB⟩ := hrel
        by_cases hpos : 0 < i
        · obtain ⟨i, rfl⟩ : ∃ i', i = i' + 1 := ⟨i - 1, by omega⟩
          rw [show (((i + 1 : Nat) : Int) - 1) = (i : Int) by omega]
          have hik : i < k := by omega
          have p5 : (0 : Int) ≤ (i : Int) := Int.natCast_nonneg _
          have p6 : (i : Int) ≥ 0 := p5
          have p7 : (i : Int) < (k : Int) := by omega
          have HL := Lib.hid HC.out.low
          clear HC hpos
          go_wp2_with fail
          go_loopw [13] (fun vt wr => ∃ (t : Nat) (fs rs : Rws), t ≤ i ∧ vt = .int .i64 t ∧ Hid (EqAt wr g (fun b => b ≠ g ∧ b ≠ go) k fs rs) ∧ Hid (Says k n D fs rs) ∧ Hid (Low k i t fs) ∧ Hid (OutS wr (fun b => b ≠ g ∧ b ≠ go) go k rows) ∧ Hid (Below w.heap.size w wr)) (fun vt _ => i - (intOf vt).toNat)
          case atStart => exact ⟨0, _, _, Nat.zero_le _, rfl, HE, HS, HL, HO, HB⟩
          case round =>
            clear HE HS HL HO HB
            obtain ⟨wq, rfl⟩ : ∃ wq, wq = wr := ⟨_, rfl⟩
            obtain ⟨t, fs, rs, ht, rfl, HO, HS, HM, HW2, HB⟩ := hrel
            have p8 : (0 : Int) ≤ (t : Int) := Int.natCast_nonneg _
            by_cases hti : t < i
            · have p9 : (t : Int) < (i : Int) := by omega
              have htk : t < k := by omega
              have p10 : (t : Int) < (k : Int) := by omega
              obtain ⟨A1, m1, c1, A2, m2, c2, v1, v2, f1, f2, hc1, hc2, r1, r2⟩ := HO.out.at htk
              obtain ⟨B1, n1, d1, B2, n2, d2, u1, u2, g1, g2, _, _, t1, t2⟩ := HO.out.at hik
              have hm1 : k = m1 := by rw [← r1.1]; exact (HS.out.fsh.row htk).1.symm
              have hm2 : n = m2 := by rw [← r2.1]; exact (HS.out.rsh.row htk).1.symm
              have hn1 : k = n1 := by rw [← t1.1]; exact (HS.out.fsh.row hik).1.symm
              have hn2 : n = n2 := by rw [← t2.1]; exact (HS.out.rsh.row hik).1.symm
              subst hm1
              subst hm2
              subst hn1
              subst hn2
              obtain ⟨b1, oo1, rfl, _, hbb1⟩ := r1.addr hik
              obtain ⟨x1, y1⟩ := by_at r1 hik
              have hgl := HO.out.lt
              have v1' := fun w' (h : Below wq.heap.size wq w') => (h.cell (p := ⟨g, t * 2, none⟩) hgl).trans v1
              have v2' := fun w' (h : Below wq.heap.size wq w') => (h.cell (p := ⟨g, t * 2 + 1, none⟩) hgl).trans v2
              have u1' := fun w' (h : Below wq.heap.size wq w') => (h.cell (p := ⟨g, i * 2, none⟩) hgl).trans u1
              have u2' := fun w' (h : Below wq.heap.size wq w') => (h.cell (p := ⟨g, i * 2 + 1, none⟩) hgl).trans u2
              have x1' := fun w' (h : Below wq.heap.size wq w') => (h.cell (p := ⟨b1, oo1 + i, none⟩) hbb1).trans x1
              have bd : Below wq.heap.size wq wq.drew := (Below.refl _ _).drew
              have hle := less_any (w := wq.drew) (c1 := c1) (c2 := c2) (c3 := d1) (c4 := d2) y1 (r1.below ByR.stable bd) (r2.below ByR.stable bd) (t1.below ByR.stable bd) (t2.below ByR.stable bd) (by omega) hn (by omega) hn
              have s9 := HS.out.less htk hik (by omega) i
              have m9 := HM.out.less HO.out.fl hik hti (HS.out.fsh.row hik).1 (HS.out.fsh.row htk).1 (HS.out.fsh.row htk).2
              obtain ⟨fc, hfc⟩ : ∃ f, gt (ra fs t) i = f := ⟨_, rfl⟩
              rw [hfc] at x1' hle s9 m9
              have S9 := Lib.hid s9
              have M9 := Lib.hid m9
              clear v1 v2 f1 f2 u1 u2 g1 g2 x1 y1 r1 r2 t1 t2 s9 m9 hfc HS HM
              go_wp2_with fail
              refine wp_region_L (S := fun w' => Below wq.heap.size wq w') [20] (by kernel_rfl) (by first | assumption | exact Below.refl _ _ | exact (Below.refl _ _).drew) (fun hHeld => ?_)
              refine wpAnyL_take (i := 0) (v := ?_) rfl (by kernel_rfl) (by kernel_rfl) (by kernel_rfl) (by kernel_rfl) (fun _ _ _ h => h) (Or.inl ⟨by first | kernel_rfl | rfl, ?_⟩) (by assumption) ?_
              rotate_left
              · (intro wq0 hSw; (try dsimp only at hSw); (try simp (maxSteps := 2000000) only [List.getElem_toArray, List.getElem_cons_succ, List.getElem_cons_zero]); go_simp); try with_reducible rfl
              try simp (maxSteps := 2000000) only [List.getElem_toArray, List.getElem_cons_succ, List.getElem_cons_zero, Act.put, List.setIfInBounds_toArray, List.set_cons_zero, List.set_cons_succ]
              refine wpAnyL_take (i := 1) (v := ?_) rfl (by kernel_rfl) (by kernel_rfl) (by kernel_rfl) (by kernel_rfl) (fun _ _ _ h => h) (Or.inl ⟨by first | kernel_rfl | rfl, ?_⟩) (by assumption) ?_
              rotate_left
              · (intro wq0 hSw; (try dsimp only at hSw); (try simp (maxSteps := 2000000) only [List.getElem_toArray, List.getElem_cons_succ, List.getElem_cons_zero]); go_simp); try with_reducible rfl
              try simp (maxSteps := 2000000) only [List.getElem_toArray, List.getElem_cons_succ, List.getElem_cons_zero, Act.put, List.setIfInBounds_toArray, List.set_cons_zero, List.set_cons_succ]
              refine wpAnyL_take (i := 2) (v := ?_) rfl (by kernel_rfl) (by kernel_rfl) (by kernel_rfl) (by kernel_rfl) (fun _ _ _ h => h) (Or.inl ⟨by first | kernel_rfl | rfl, ?_⟩) (by assumption) ?_
              rotate_left
              · (intro wq0 hSw; (try dsimp only at hSw); (try simp (maxSteps := 2000000) only [List.getElem_toArray, List.getElem_cons_succ, List.getElem_cons_zero]); go_simp); try with_reducible rfl
              try simp (maxSteps := 2000000) only [List.getElem_toArray, List.getElem_cons_succ, List.getElem_cons_zero, Act.put, List.setIfInBounds_toArray, List.set_cons_zero, List.set_cons_succ]
              refine wpAnyL_take (i := 3) (v := ?_) rfl (by kernel_rfl) (by kernel_rfl) (by kernel_rfl) (by kernel_rfl) (fun _ _ _ h => h) (Or.inl ⟨by first | kernel_rfl | rfl, ?_⟩) (by assumption) ?_
              rotate_left
              · (intro wq0 hSw; (try dsimp only at hSw); (try simp (maxSteps := 2000000) only [List.getElem_toArray, List.getElem_cons_succ, List.getElem_cons_zero]); go_simp); try with_reducible rfl
              try simp (maxSteps := 2000000) only [List.getElem_toArray, List.getElem_cons_succ, List.getElem_cons_zero, Act.put, List.setIfInBounds_toArray, List.set_cons_zero, List.set_cons_succ]
              refine wpAnyL_take (i := 4) (v := ?_) rfl (by kernel_rfl) (by kernel_rfl) (by kernel_rfl) (by kernel_rfl) (fun _ _ _ h => h) (Or.inl ⟨by first | kernel_rfl | rfl, ?_⟩) (by assumption) ?_
              rotate_left
              · (intro wq0 hSw; (try dsimp only at hSw); (try simp (maxSteps := 2000000) only [List.getElem_toArray, List.getElem_cons_succ, List.getElem_cons_zero]); go_simp); try with_reducible rfl
              try simp (maxSteps := 2000000) only [List.getElem_toArray, List.getElem_cons_succ, List.getElem_cons_zero, Act.put, List.setIfInBounds_toArray, List.set_cons_zero, List.set_cons_succ]
              refine wpAnyL_take (i := 5) (v := ?_) rfl (by kernel_rfl) (by kernel_rfl) (by kernel_rfl) (by kernel_rfl) (fun _ _ _ h => h) (Or.inl ⟨by first | kernel_rfl | rfl, ?_⟩) (by assumption) ?_
              rotate_left
              · (intro wq0 hSw; (try dsimp only at hSw); (try simp (maxSteps := 2000000) only [List.getElem_toArray, List.getElem_cons_succ, List.getElem_cons_zero]); go_simp); try with_reducible rfl
              try simp (maxSteps := 2000000) only [List.getElem_toArray, List.getElem_cons_succ, List.getElem_cons_zero, Act.put, List.setIfInBounds_toArray, List.set_cons_zero, List.set_cons_succ]
              refine wpAnyL_take (i := 6) (v := ?_) rfl (by kernel_rfl) (by kernel_rfl) (by kernel_rfl) (by kernel_rfl) (fun _ _ _ h => h) (Or.inl ⟨by first | kernel_rfl | rfl, ?_⟩) (by assumption) ?_
              rotate_left
              · (intro wq0 hSw; (try dsimp only at hSw); (try simp (maxSteps := 2000000) only [List.getElem_toArray, List.getElem_cons_succ, List.getElem_cons_zero]); go_simp); try with_reducible rfl
              try simp (maxSteps := 2000000) only [List.getElem_toArray, List.getElem_cons_succ, List.getElem_cons_zero, Act.put, List.setIfInBounds_toArray, List.set_cons_zero, List.set_cons_succ]
              refine wpAnyL_take (i := 7) (v := ?_) rfl (by kernel_rfl) (by kernel_rfl) (by kernel_rfl) (by kernel_rfl) (fun _ _ _ h => h) (Or.inl ⟨by first | kernel_rfl | rfl, ?_⟩) (by assumption) ?_
              rotate_left
              · (intro wq0 hSw; (try dsimp only at hSw); (try simp (maxSteps := 2000000) only [List.getElem_toArray, List.getElem_cons_succ, List.getElem_cons_zero]); go_simp); try with_reducible rfl
              try simp (maxSteps := 2000000) only [List.getElem_toArray, List.getElem_cons_succ, List.getElem_cons_zero, Act.put, List.setIfInBounds_toArray, List.set_cons_zero, List.set_cons_succ]
              refine wpAnyL_take (i := 8) (v := ?_) rfl (by kernel_rfl) (by kernel_rfl) (by kernel_rfl) (by kernel_rfl) (fun _ _ _ h => h) (Or.inl ⟨by first | kernel_rfl | rfl, ?_⟩) (by assumption) ?_
              rotate_left
              · (intro wq0 hSw; (try dsimp only at hSw); (try simp (maxSteps := 2000000) only [List.getElem_toArray, List.getElem_cons_succ, List.getElem_cons_zero]); go_simp); try with_reducible rfl
              try simp (maxSteps := 2000000) only [List.getElem_toArray, List.getElem_cons_succ, List.getElem_cons_zero, Act.put, List.setIfInBounds_toArray, List.set_cons_zero, List.set_cons_succ]
              refine wpAnyL_take (i := 9) (v := ?_) rfl (by kernel_rfl) (by kernel_rfl) (by kernel_rfl) (by kernel_rfl) (fun _ _ _ h => h) (Or.inl ⟨by first | kernel_rfl | rfl, ?_⟩) (by assumption) ?_
              rotate_left
              · (intro wq0 hSw; (try dsimp only at hSw); (try simp (maxSteps := 2000000) only [List.getElem_toArray, List.getElem_cons_succ, List.getElem_cons_zero]); go_simp); try with_reducible rfl
              try simp (maxSteps := 2000000) only [List.getElem_toArray, List.getElem_cons_succ, List.getElem_cons_zero, Act.put, List.setIfInBounds_toArray, List.set_cons_zero, List.set_cons_succ]
              refine wpAnyL_take (i := 10) (v := ?_) rfl (by kernel_rfl) (by kernel_rfl) (by kernel_rfl) (by kernel_rfl) (fun _ _ _ h => h) (Or.inl ⟨by first | kernel_rfl | rfl, ?_⟩) (by assumption) ?_
              rotate_left
              · (intro wq0 hSw; (try dsimp only at hSw); (try simp (maxSteps := 2000000) only [List.getElem_toArray, List.getElem_cons_succ, List.getElem_cons_zero]); go_simp); try with_reducible rfl
              try simp (maxSteps := 2000000) only [List.getElem_toArray, List.getElem_cons_succ, List.getElem_cons_zero, Act.put, List.setIfInBounds_toArray, List.set_cons_zero, List.set_cons_succ]
              refine wpAnyL_take (i := 11) (v := ?_) rfl (by kernel_rfl) (by kernel_rfl) (by kernel_rfl) (by kernel_rfl) (fun _ _ _ h => h) (Or.inl ⟨by first | kernel_rfl | rfl, ?_⟩) (by assumption) ?_
              rotate_left
              · (intro wq0 hSw; (try dsimp only at hSw); (try simp (maxSteps := 2000000) only [List.getElem_toArray, List.getElem_cons_succ, List.getElem_cons_zero]); go_simp); try with_reducible rfl
              try simp (maxSteps := 2000000) only [List.getElem_toArray, List.getElem_cons_succ, List.getElem_cons_zero, Act.put, List.setIfInBounds_toArray, List.set_cons_zero, List.set_cons_succ]
              refine wpAnyL_take (i := 12) (v := ?_) rfl (by kernel_rfl) (by kernel_rfl) (by kernel_rfl) (by kernel_rfl) (fun _ _ _ h => h) (Or.inl ⟨by first | kernel_rfl | rfl, ?_⟩) (by assumption) ?_
              rotate_left
              · (intro wq0 hSw; (try dsimp only at hSw); (try simp (maxSteps := 2000000) only [List.getElem_toArray, List.getElem_cons_succ, List.getElem_cons_zero]); go_simp); try with_reducible rfl
              try simp (maxSteps := 2000000) only [List.getElem_toArray, List.getElem_cons_succ, List.getElem_cons_zero, Act.put, List.setIfInBounds_toArray, List.set_cons_zero, List.set_cons_succ]
              refine wpAnyL_take (i := 13) (v := ?_) rfl (by kernel_rfl) (by kernel_rfl) (by kernel_rfl) (by kernel_rfl) (fun _ _ _ h => h) (Or.inl ⟨by first | kernel_rfl | rfl, ?_⟩) (by assumption) ?_
              rotate_left
              · (intro wq0 hSw; (try dsimp only at hSw); (try simp (maxSteps := 2000000) only [List.getElem_toArray, List.getElem_cons_succ, List.getElem_cons_zero]); go_simp); try with_reducible rfl
              try simp (maxSteps := 2000000) only [List.getElem_toArray, List.getElem_cons_succ, List.getElem_cons_zero, Act.put, List.setIfInBounds_toArray, List.set_cons_zero, List.set_cons_succ]
              refine wpAnyL_take (i := 14) (v := ?_) rfl (by kernel_rfl) (by kernel_rfl) (by kernel_rfl) (by kernel_rfl) (fun _ _ _ h => h) (Or.inl ⟨by first | kernel_rfl | rfl, ?_⟩) (by assumption) ?_
              rotate_left
              · (intro wq0 hSw; (try dsimp only at hSw); (try simp (maxSteps := 2000000) only [List.getElem_toArray, List.getElem_cons_succ, List.getElem_cons_zero]); go_simp); try with_reducible rfl
              try simp (maxSteps := 2000000) only [List.getElem_toArray, List.getElem_cons_succ, List.getElem_cons_zero, Act.put, List.setIfInBounds_toArray, List.set_cons_zero, List.set_cons_succ]
              refine wpAnyL_take (i := 15) (v := ?_) rfl (by kernel_rfl) (by kernel_rfl) (by kernel_rfl) (by kernel_rfl) (fun _ _ _ h => h) (Or.inl ⟨by first | kernel_rfl | rfl, ?_⟩) (by assumption) ?_
              rotate_left
              · (intro wq0 hSw; (try dsimp only at hSw); (try simp (maxSteps := 2000000) only [List.getElem_toArray, List.getElem_cons_succ, List.getElem_cons_zero]); go_simp); try with_reducible rfl
              try simp (maxSteps := 2000000) only [List.getElem_toArray, List.getElem_cons_succ, List.getElem_cons_zero, Act.put, List.setIfInBounds_toArray, List.set_cons_zero, List.set_cons_succ]
              refine wpAnyL_take (i := 16) (v := ?_) rfl (by kernel_rfl) (by kernel_rfl) (by kernel_rfl) (by kernel_rfl) (fun _ _ _ h => h) (Or.inl ⟨by first | kernel_rfl | rfl, ?_⟩) (by assumption) ?_
              rotate_left
              · (intro wq0 hSw; (try dsimp only at hSw); (try simp (maxSteps := 2000000) only [List.getElem_toArray, List.getElem_cons_succ, List.getElem_cons_zero]); go_simp); try with_reducible rfl
              try simp (maxSteps := 2000000) only [List.getElem_toArray, List.getElem_cons_succ, List.getElem_cons_zero, Act.put, List.setIfInBounds_toArray, List.set_cons_zero, List.set_cons_succ]
              refine wpAnyL_take (i := 17) (v := ?_) rfl (by kernel_rfl) (by kernel_rfl) (by kernel_rfl) (by kernel_rfl) (fun _ _ _ h => h) (Or.inl ⟨by first | kernel_rfl | rfl, ?_⟩) (by assumption) ?_
              rotate_left
              · (intro wq0 hSw; (try dsimp only at hSw); (try simp (maxSteps := 2000000) only [List.getElem_toArray, List.getElem_cons_succ, List.getElem_cons_zero]); go_simp); try with_reducible rfl
              try simp (maxSteps := 2000000) only [List.getElem_toArray, List.getElem_cons_succ, List.getElem_cons_zero, Act.put, List.setIfInBounds_toArray, List.set_cons_zero, List.set_cons_succ]
              refine wpAnyL_ready (rs := [18]) (by kernel_rfl) (by simp) ?_
              refine AllReadyL.cons rfl (fun K hK => ?_) AllReadyL.nil
              try simp (maxSteps := 2000000) only [List.getElem_toArray, List.getElem_cons_succ, List.getElem_cons_zero]
              go_simp
              go_at_call 64
              refine hle.mono ?_
              rintro e w5 ⟨E1, e1, E2, e2, rfl, he1, he2, hr5, hr6, hb5⟩
              have s5 : Below wq.heap.size wq w5 := bd.trans hb5
              have o5 := HO.out.below s5
              obtain ⟨_, _, _, _, _, _, z1, z2, k1', k2', _⟩ := o5.at htk
              have hne : ∀ b, wq.drew.heap.size ≤ b → b ≠ g ∧ b ≠ go := fun b hb => by have := HO.out.lt; have := HW2.out.lt; have : wq.heap.size ≤ b := hb; omega
              have o6 := o5.set htk he1 he2 (hr5.weaken ByR.stable hne) (hr6.weaken ByR.stable hne)
              have O6 := Lib.hid o6
              have hb6 : Below w.heap.size w ((w5.setCell ⟨g, t * 2, none⟩ (.slice E1 k e1)).setCell ⟨g, t * 2 + 1, none⟩ (.slice E2 n e2)) := ((HB.out.trans (s5.mono HB.out.size)).setCell HG.out _).setCell HG.out _
              have B6 := Lib.hid hb6
              have W6 := Lib.hid (((HW2.out.below s5).other (p := ⟨g, t * 2, none⟩) HNE.out.symm (fun h => h.1 rfl) (.slice E1 k e1)).other (p := ⟨g, t * 2 + 1, none⟩) HNE.out.symm (fun h => h.1 rfl) (.slice E2 n e2))
              clear o5 o6 hb6 hb5 hr5 hr6 hle
              try (go_wp2_with fail)
              refine hK.out _ _ (by first | assumption | exact Below.refl _ _ | exact (Below.refl _ _).drew) (fun hHeld => ?_)
              clear hK K
              try simp (maxSteps := 2000000) only [List.getElem_toArray, List.getElem_cons_succ, List.getElem_cons_zero, Act.put, List.setIfInBounds_toArray, List.set_cons_zero, List.set_cons_succ]
              refine wpAnyL_take (i := 19) (v := ?_) rfl (by kernel_rfl) (by kernel_rfl) (by kernel_rfl) (by kernel_rfl) (fun _ _ _ h => h) (Or.inl ⟨by first | kernel_rfl | rfl, ?_⟩) (by assumption) ?_
              rotate_left
              · (intro wq0 hSw; (try dsimp only at hSw); (try simp (maxSteps := 2000000) only [List.getElem_toArray, List.getElem_cons_succ, List.getElem_cons_zero]); go_simp); try with_reducible rfl
              try simp (maxSteps := 2000000) only [List.getElem_toArray, List.getElem_cons_succ, List.getElem_cons_zero, Act.put, List.setIfInBounds_toArray, List.set_cons_zero, List.set_cons_succ]
              refine wpAnyL_ready (rs := [20]) (by kernel_rfl) (by simp) ?_
              refine AllReadyL.last rfl (by decide) (fun K hK => ?_) AllReadyL.nil
              try simp (maxSteps := 2000000) only [List.getElem_toArray, List.getElem_cons_succ, List.getElem_cons_zero]
              go_simp
              refine hK.out _ _ ?_
              clear hK K
              try simp (maxSteps := 2000000) only [List.getElem_toArray, List.getElem_cons_succ, List.getElem_cons_zero, Act.put, List.setIfInBounds_toArray, List.set_cons_zero, List.set_cons_succ]
              refine wpAnyL_done (by kernel_rfl) ?_ _
              go_wp2_with fail
              exact ⟨⟨t + 1, _, _, by omega, by go_num, O6, S9, M9, W6, B6⟩, by simp [intOf]; omega⟩
            · have p9 : ¬ (t : Int) < (i : Int) := by omega
              obtain rfl : t = i := by omega
              obtain ⟨A1, m1, c1, A2, m2, c2, v1, v2, f1, f2, hc1, hc2, r1, r2⟩ := HO.out.at hik
              obtain ⟨⟨vv, xv⟩, xf⟩ := HW2.out.cellx hik
              have hu := HS.out.unit HD.out hik (fun c hc => HM.out.unit hik hc)
              have w9 := HW2.out.set hik hc2 r2
              have e9 := HO.out.other (p := ⟨go, t, none⟩) HNE.out (fun h => h.2 rfl) (.slice A2 m2 c2)
              rw [hu] at w9
              have W9 := Lib.hid w9
              have E9 := Lib.hid e9
              have HW9 := Lib.hid (show ∀ c, t ≤ c → c < k → ra (rows.set t (ra D t)) c = ra D c from fun c h1 h2 => by
                rw [ra_set _ _ _ (by rw [HW2.out.len]; exact h2)]
                split
                · rename_i e; rw [e]
                · exact HW.out c (by omega) h2)
              have C9 := Lib.hid HM.out.done
              have B9 := Lib.hid (HB.out.setCell (p := ⟨go, t, none⟩) HGO.out (.slice A2 m2 c2))
              clear r1 r2 w9 e9 hu HM HW2 HO HW HB v1 f1 f2
              go_wp2_with fail
              exact ⟨⟨t, _, _, _, by omega, by go_num, E9, HS, C9, W9, HW9, B9⟩, by simp [intOf]⟩
        · obtain rfl : i = 0 := by omega
          have p6 : ¬ (((0 : Nat) : Int) - 1) ≥ 0 := by omega
          have hrd := HO.out.rd
          have hrw : rows = D := ra_ext (by rw [HO.out.len, HD.out.1]) fun c hc => HW.out c (Nat.zero_le _) (by rw [← HO.out.len]; exact hc)
          rw [hrw] at hrd
          have HRD := Lib.hid hrd
          clear hrd hrw HO HE HS HC HW
          go_wp2_with fail
          go_ret
          exact ⟨go, rfl, HRD.out, HB.out⟩
end Go.Proofs.YthhljmlpjnkfgaaGreat

set_option linter.unusedSimpArgs false
set_option linter.unusedVariables false
namespace Go.Proofs.YthhljmlpjnkfgaaGreat
open Go.RowKit Go.Cib
attribute [local go_sem] cell_set Later.cell Later.frozen Grw.cell Grw.frozen
theorem rows_byt2 {S : Nat → Prop} {w : World} {A : Option Addr} {n : Nat} {ss : Rws} (R : RdL RowR 1 S w A n ss) (u : Nat) : Byt (ra ss u) := by
  by_cases h : u < n
  · obtain ⟨b, o, rfl, _, _⟩ := R.addr h
    obtain ⟨A1, m1, c1, _, _, r1⟩ := row_at R h
    exact by_byt r1
  · unfold ra
    rw [List.getD_eq_getElem?_getD, List.getElem?_eq_none (by rw [R.1]; omega)]
    intro x hx
    simp at hx
def useE (k N : Nat) (ss : Rws) : List (List Nat × List Nat) := (useT k N ss).map fun u => (rowF k u, ra ss u)
theorem useE_fst (k N : Nat) (ss : Rws) : (useE k N ss).map (·.1) = (useT k N ss).map (rowF k) := by unfold useE; rw [List.map_map]; rfl
theorem useE_snd (k N : Nat) (ss : Rws) : (useE k N ss).map (·.2) = (useT k N ss).map (ra ss) := by unfold useE; rw [List.map_map]; rfl
theorem useE_next {k N : Nat} {ss : Rws} {i : Nat} (h : i < (useT k N ss).length) : (useE k N ss).take (i + 1) = (useE k N ss).take i ++ [(rowF k (gt (useT k N ss) i), ra ss (gt (useT k N ss) i))] := by
  unfold useE
  rw [List.take_add_one, List.getElem?_map, gt_of_lt h]; rfl
def DatE (w : World) (k m N : Nat) (ss : Rws) (e : Ending) (w' : World) : Prop := Below w.heap.size w w' ∧
  ((rightF k m N ss ≠ 0 ∧ e = .returned (.tuple #[.slice none 0 0, .int .i64 (rightF k m N ss)])) ∨
   (rightF k m N ss = 0 ∧ ∃ g, e = .returned (.tuple #[.slice (some ⟨g, 0, none⟩) k k, .int .i64 0]) ∧ RdL RowR 1 (fun _ => True) w' (some ⟨g, 0, none⟩) k (outF k N k ss)))
theorem rightF_ok {k m N : Nat} {ss : Rws} (h : rightF k m N ss = 0) : thBad k m N ss = false ∧ ¬ (thU ss N).length < k := by
  unfold rightF at h
  split at h
  · omega
  · rename_i h1
    split at h
    · omega
    · exact ⟨by simpa using h1, by assumption⟩
set_option maxRecDepth 100000 in
set_option maxHeartbeats 16000000 in
theorem rdata_any {w : World} {k m N c : Nat} {A : Option Addr} {S : Nat → Prop} {ss : Rws} (R : RdL RowR 1 S w A N ss) (hN : N ≤ 1000) (hlen : ∀ i, lenF ss i ≤ 1000000) (k1 : 1 ≤ k) (km : k + m ≤ 255) :
    Calls Tryz.prog 18 #[.int .i64 (k : Int), .int .i64 (m : Int), .slice A N c] w fun e w' => DatE w k m N ss e w' := by
  have HR := Lib.hid R
  have HL := Lib.hid hlen
  have hri := right_any (c := c) R hN (k := k) (m := m) (by omega) (by omega)
  clear R hlen
  have q0 : (N : Int) ≤ 1000 := by omega
  have q1 : (k : Int) + (m : Int) ≤ 255 := by omega
  have q3 : (0 : Int) ≤ (k : Int) := Int.natCast_nonneg _
  have q4 : (0 : Int) ≤ (m : Int) := Int.natCast_nonneg _
  go_enter Tryz.func18, Tryz.ntmps18
  obtain ⟨rv, hrv⟩ : ∃ r, rightF k m N ss = r := ⟨_, rfl⟩
  rw [hrv] at hri
  have HRV := Lib.hid hrv
  clear hrv
  by_cases hz : rv = 0
  · subst hz
    obtain ⟨hgood, hfew⟩ := rightF_ok HRV.out
    obtain rfl := (use_ok hgood hfew k1).1
    have hul := (use_ok hgood hfew k1).2.1
    obtain ⟨n, hn⟩ : ∃ n, lenF ss (gt (useT k (k + m) ss) 0) = n := ⟨_, rfl⟩
    have hn2 : n ≤ 1000000 := by rw [← hn]; exact HL.out _
    obtain ⟨hD, hSy, _⟩ := tell_out hgood hfew k1 km (rows_byt2 HR.out) hn
    rw [← useE_fst, ← useE_snd] at hSy
    have q5 : ((0 : Int) != 0) = false := by simp
    have q6 : (k : Int) ≤ 255 := by omega
    have q7 : (m : Int) ≤ 255 := by omega
    have HD := Lib.hid hD
    have HSY := Lib.hid hSy
    have HUL := Lib.hid hul
    have hkt : k ≤ (thU ss (k + m)).length := by omega
    have htm := thU_len ss (k + m)
    clear hgood hfew hD hSy hn hul
    push_cast at hri
    go_wp2_with fail
    refine hri.mono ?_
    clear hri
    rintro e w1 ⟨rfl, hb1⟩
    have hth := rthere_any (c := c) (HR.out.below RowR.stable hb1) hN
    push_cast at hth
    go_wp2_with fail
    refine hth.mono ?_
    clear hth
    rintro e w2 ⟨A2, c2, rfl, hc2, hr2, hb2⟩
    have HB2 := Lib.hid (hb1.trans (hb2.mono hb1.size))
    have h0 : RdL RowR 1 (fun b => b < w.heap.size) w A (k + m) ss := HR.out.stable RowR.stable fun b _ h => ⟨h, rfl⟩
    have HR0 := Lib.hid (h0.below RowR.stable HB2.out)
    have HU := Lib.hid hr2
    obtain ⟨t, ht⟩ : ∃ t, (thU ss (k + m)).length = t := ⟨_, rfl⟩
    rw [ht] at hkt htm HU ⊢
    have HT := Lib.hid ht
    have hsz := HB2.out.size
    clear hb1 hb2 hr2 hc2 ht h0
    go_wp2_with fail
    obtain ⟨wo, rfl⟩ : ∃ wo, wo = w2 := ⟨_, rfl⟩
    go_loopw [10, 11] (fun vs vi wr => ∃ (i : Nat) (A : Option Addr) (c' : Nat), i ≤ k ∧ vi = .int .i64 i ∧ vs = .slice A i c' ∧ Hid (i ≤ c') ∧ Hid (OwnL EqR 94 2 wo.heap.size (fun _ => True) wr (.slice A i c') i ((useE k (k + m) ss).take i)) ∧ Hid (Below wo.heap.size wo wr)) (fun _ vi _ => k - (intOf vi).toNat)
    case atStart => exact ⟨0, none, 0, Nat.zero_le _, rfl, rfl, Lib.hid (Nat.le_refl _), Lib.hid (by exact OwnL.nil_), Lib.hid (Below.refl _ _)⟩
    case round =>
      obtain ⟨wq, rfl⟩ : ∃ wq, wq = wr := ⟨_, rfl⟩
      obtain ⟨i, AO, cO, hi, rfl, rfl, HC, HO, HB⟩ := hrel
      have p0 : (0 : Int) ≤ (i : Int) := Int.natCast_nonneg _
      by_cases hlt : i < k
      · have p1 : (i : Int) < (k : Int) := by omega
        have p2 : (i : Int) < (t : Int) := by omega
        have p3 : i < t := by omega
        obtain ⟨b1, o1, rfl, _, hb1⟩ := HU.out.addr p3
        have v1 := nat_at HU.out p3
        have hgu : gt (thU ss (k + m)) i = gt (useT k (k + m) ss) i := by
          unfold useT gt
          rw [List.getD_eq_getElem?_getD, List.getD_eq_getElem?_getD, List.getElem?_take, if_pos hlt]
        obtain ⟨hu1, hu2⟩ := thU_mem (gt_mem (l := thU ss (k + m)) (i := i) (by rw [HT.out]; exact p3))
        have hne := useE_next (k := k) (N := k + m) (ss := ss) (i := i) (by rw [HUL.out]; exact hlt)
        rw [← hgu] at hne
        obtain ⟨u, hu⟩ : ∃ u, gt (thU ss (k + m)) i = u := ⟨_, rfl⟩
        rw [hu] at v1 hu1 hne
        have HNE := Lib.hid hne
        have p5 : (0 : Int) ≤ (u : Int) := Int.natCast_nonneg _
        have p6 : (u : Int) < (k : Int) + (m : Int) := by omega
        have p7 : (u : Int) < ((k + m : Nat) : Int) := by omega
        obtain ⟨ba, oa, rfl, _, hba⟩ := HR0.out.addr hu1
        obtain ⟨A3, m3, c3, v3, hc3, r3⟩ := row_at HR0.out hu1
        have hbw : ∀ {W}, Below wo.heap.size wo W → wo.heap.size ≤ W.heap.size := fun h => h.size
        have v1' := fun w' (h : Below wo.heap.size wo w') => (h.cell (p := ⟨b1, o1 + i, none⟩) hb1).trans v1
        have v3' := fun w' (h : Below wo.heap.size wo w') => (h.cell (p := ⟨ba, oa + u, none⟩) hba).trans v3
        have s0 : Below wo.heap.size wo wq := HB.out
        have s1 : Below wo.heap.size wo wq.drew := HB.out.drew
        have hrr := rrow_any (w := wq.drew) (k := k) (m := m) hu1 km
        have R3 := Lib.hid r3
        clear v1 v3 r3 hlt hgu hu hne hu2
        go_wp2_with fail
        refine wp_region_held_drew (S := fun w' => Below wo.heap.size wo w') (by kernel_rfl) (by first | assumption | exact s5.alloc s5.size _) (fun hHeld => ?_)
        refine wpAnyH_take (i := 0) (v := ?_) rfl (by kernel_rfl) (by kernel_rfl) (by kernel_rfl) (fun _ _ _ h => h) (Or.inl ⟨by first | kernel_rfl | rfl, ?_⟩) (by assumption) ?_
        rotate_left
        · (intro wq hSw; (try dsimp only at hSw); (try simp (maxSteps := 2000000) only [List.getElem_toArray, List.getElem_cons_succ, List.getElem_cons_zero]); go_simp); try with_reducible rfl
        try simp (maxSteps := 2000000) only [List.getElem_toArray, List.getElem_cons_succ, List.getElem_cons_zero, Act.put, List.setIfInBounds_toArray, List.set_cons_zero, List.set_cons_succ]
        refine wpAnyH_take (i := 1) (v := ?_) rfl (by kernel_rfl) (by kernel_rfl) (by kernel_rfl) (fun _ _ _ h => h) (Or.inl ⟨by first | kernel_rfl | rfl, ?_⟩) (by assumption) ?_
        rotate_left
        · (intro wq hSw; (try dsimp only at hSw); (try simp (maxSteps := 2000000) only [List.getElem_toArray, List.getElem_cons_succ, List.getElem_cons_zero]); go_simp); try with_reducible rfl
        try simp (maxSteps := 2000000) only [List.getElem_toArray, List.getElem_cons_succ, List.getElem_cons_zero, Act.put, List.setIfInBounds_toArray, List.set_cons_zero, List.set_cons_succ]
        refine wpAnyH_take (i := 2) (v := ?_) rfl (by kernel_rfl) (by kernel_rfl) (by kernel_rfl) (fun _ _ _ h => h) (Or.inl ⟨by first | kernel_rfl | rfl, ?_⟩) (by assumption) ?_
        rotate_left
        · (intro wq hSw; (try dsimp only at hSw); (try simp (maxSteps := 2000000) only [List.getElem_toArray, List.getElem_cons_succ, List.getElem_cons_zero]); go_simp); try with_reducible rfl
        try simp (maxSteps := 2000000) only [List.getElem_toArray, List.getElem_cons_succ, List.getElem_cons_zero, Act.put, List.setIfInBounds_toArray, List.set_cons_zero, List.set_cons_succ]
        refine wpAnyH_take (i := 3) (v := ?_) rfl (by kernel_rfl) (by kernel_rfl) (by kernel_rfl) (fun _ _ _ h => h) (Or.inl ⟨by first | kernel_rfl | rfl, ?_⟩) (by assumption) ?_
        rotate_left
        · (intro wq hSw; (try dsimp only at hSw); (try simp (maxSteps := 2000000) only [List.getElem_toArray, List.getElem_cons_succ, List.getElem_cons_zero]); go_simp); try with_reducible rfl
        try simp (maxSteps := 2000000) only [List.getElem_toArray, List.getElem_cons_succ, List.getElem_cons_zero, Act.put, List.setIfInBounds_toArray, List.set_cons_zero, List.set_cons_succ]
        refine wpAnyH_take (i := 4) (v := ?_) rfl (by kernel_rfl) (by kernel_rfl) (by kernel_rfl) (fun _ _ _ h => h) (Or.inl ⟨by first | kernel_rfl | rfl, ?_⟩) (by assumption) ?_
        rotate_left
        · (intro wq hSw; (try dsimp only at hSw); (try simp (maxSteps := 2000000) only [List.getElem_toArray, List.getElem_cons_succ, List.getElem_cons_zero]); go_simp); try with_reducible rfl
        try simp (maxSteps := 2000000) only [List.getElem_toArray, List.getElem_cons_succ, List.getElem_cons_zero, Act.put, List.setIfInBounds_toArray, List.set_cons_zero, List.set_cons_succ]
        refine wpAnyH_take (i := 5) (v := ?_) rfl (by kernel_rfl) (by kernel_rfl) (by kernel_rfl) (fun _ _ _ h => h) (Or.inl ⟨by first | kernel_rfl | rfl, ?_⟩) (by assumption) ?_
        rotate_left
        · (intro wq hSw; (try dsimp only at hSw); (try simp (maxSteps := 2000000) only [List.getElem_toArray, List.getElem_cons_succ, List.getElem_cons_zero]); go_simp); try with_reducible rfl
        try simp (maxSteps := 2000000) only [List.getElem_toArray, List.getElem_cons_succ, List.getElem_cons_zero, Act.put, List.setIfInBounds_toArray, List.set_cons_zero, List.set_cons_succ]
        refine wpAnyH_take (i := 6) (v := ?_) rfl (by kernel_rfl) (by kernel_rfl) (by kernel_rfl) (fun _ _ _ h => h) (Or.inl ⟨by first | kernel_rfl | rfl, ?_⟩) (by assumption) ?_
        rotate_left
        · (intro wq hSw; (try dsimp only at hSw); (try simp (maxSteps := 2000000) only [List.getElem_toArray, List.getElem_cons_succ, List.getElem_cons_zero]); go_simp); try with_reducible rfl
        try simp (maxSteps := 2000000) only [List.getElem_toArray, List.getElem_cons_succ, List.getElem_cons_zero, Act.put, List.setIfInBounds_toArray, List.set_cons_zero, List.set_cons_succ]
        refine wpAnyH_take (i := 8) (v := ?_) rfl (by kernel_rfl) (by kernel_rfl) (by kernel_rfl) (fun _ _ _ h => h) (Or.inl ⟨by first | kernel_rfl | rfl, ?_⟩) (by assumption) ?_
        rotate_left
        · (intro wq hSw; (try dsimp only at hSw); (try simp (maxSteps := 2000000) only [List.getElem_toArray, List.getElem_cons_succ, List.getElem_cons_zero]); go_simp); try with_reducible rfl
        try simp (maxSteps := 2000000) only [List.getElem_toArray, List.getElem_cons_succ, List.getElem_cons_zero, Act.put, List.setIfInBounds_toArray, List.set_cons_zero, List.set_cons_succ]
        refine wpAnyH_take (i := 9) (v := ?_) rfl (by kernel_rfl) (by kernel_rfl) (by kernel_rfl) (fun _ _ _ h => h) (Or.inl ⟨by first | kernel_rfl | rfl, ?_⟩) (by assumption) ?_
        rotate_left
        · (intro wq hSw; (try dsimp only at hSw); (try simp (maxSteps := 2000000) only [List.getElem_toArray, List.getElem_cons_succ, List.getElem_cons_zero]); go_simp); try with_reducible rfl
        try simp (maxSteps := 2000000) only [List.getElem_toArray, List.getElem_cons_succ, List.getElem_cons_zero, Act.put, List.setIfInBounds_toArray, List.set_cons_zero, List.set_cons_succ]
        refine wpAnyH_take (i := 10) (v := ?_) rfl (by kernel_rfl) (by kernel_rfl) (by kernel_rfl) (fun _ _ _ h => h) (Or.inl ⟨by first | kernel_rfl | rfl, ?_⟩) (by assumption) ?_
        rotate_left
        · (intro wq hSw; (try dsimp only at hSw); (try simp (maxSteps := 2000000) only [List.getElem_toArray, List.getElem_cons_succ, List.getElem_cons_zero]); go_simp); try with_reducible rfl
        try simp (maxSteps := 2000000) only [List.getElem_toArray, List.getElem_cons_succ, List.getElem_cons_zero, Act.put, List.setIfInBounds_toArray, List.set_cons_zero, List.set_cons_succ]
        refine wpAnyH_take (i := 11) (v := ?_) rfl (by kernel_rfl) (by kernel_rfl) (by kernel_rfl) (fun _ _ _ h => h) (Or.inl ⟨by first | kernel_rfl | rfl, ?_⟩) (by assumption) ?_
        rotate_left
        · (intro wq hSw; (try dsimp only at hSw); (try simp (maxSteps := 2000000) only [List.getElem_toArray, List.getElem_cons_succ, List.getElem_cons_zero]); go_simp); try with_reducible rfl
        try simp (maxSteps := 2000000) only [List.getElem_toArray, List.getElem_cons_succ, List.getElem_cons_zero, Act.put, List.setIfInBounds_toArray, List.set_cons_zero, List.set_cons_succ]
        refine wpAnyH_take (i := 12) (v := ?_) rfl (by kernel_rfl) (by kernel_rfl) (by kernel_rfl) (fun _ _ _ h => h) (Or.inl ⟨by first | kernel_rfl | rfl, ?_⟩) (by assumption) ?_
        rotate_left
        · (intro wq hSw; (try dsimp only at hSw); (try simp (maxSteps := 2000000) only [List.getElem_toArray, List.getElem_cons_succ, List.getElem_cons_zero]); go_simp); try with_reducible rfl
        try simp (maxSteps := 2000000) only [List.getElem_toArray, List.getElem_cons_succ, List.getElem_cons_zero, Act.put, List.setIfInBounds_toArray, List.set_cons_zero, List.set_cons_succ]
        refine wpAnyH_take (i := 13) (v := ?_) rfl (by kernel_rfl) (by kernel_rfl) (by kernel_rfl) (fun _ _ _ h => h) (Or.inl ⟨by first | kernel_rfl | rfl, ?_⟩) (by assumption) ?_
        rotate_left
        · (intro wq hSw; (try dsimp only at hSw); (try simp (maxSteps := 2000000) only [List.getElem_toArray, List.getElem_cons_succ, List.getElem_cons_zero]); go_simp); try with_reducible rfl
        try simp (maxSteps := 2000000) only [List.getElem_toArray, List.getElem_cons_succ, List.getElem_cons_zero, Act.put, List.setIfInBounds_toArray, List.set_cons_zero, List.set_cons_succ]
        refine wpAnyH_take (i := 14) (v := ?_) rfl (by kernel_rfl) (by kernel_rfl) (by kernel_rfl) (fun _ _ _ h => h) (Or.inl ⟨by first | kernel_rfl | rfl, ?_⟩) (by assumption) ?_
        rotate_left
        · (intro wq hSw; (try dsimp only at hSw); (try simp (maxSteps := 2000000) only [List.getElem_toArray, List.getElem_cons_succ, List.getElem_cons_zero]); go_simp); try with_reducible rfl
        try simp (maxSteps := 2000000) only [List.getElem_toArray, List.getElem_cons_succ, List.getElem_cons_zero, Act.put, List.setIfInBounds_toArray, List.set_cons_zero, List.set_cons_succ]
        refine wpAnyH_ready (rs := [7]) (by kernel_rfl) (by simp) ?_
        refine AllReadyH.cons rfl (fun K hK => ?_) AllReadyH.nil
        try simp (maxSteps := 2000000) only [List.getElem_toArray, List.getElem_cons_succ, List.getElem_cons_zero]
        go_simp
        go_at_call 15
        refine hrr.mono ?_
        rintro e w5 ⟨A5, c5, rfl, hc5, hr5, hb5⟩
        have s5 : Below wo.heap.size wo w5 := s1.trans (hb5.mono s1.size)
        have own5 := (HO.out.keep EqR.stable (Below.refl wq.heap.size wq).drew).keep EqR.stable hb5
        have hq5 : wo.heap.size ≤ wq.drew.heap.size := s1.size
        have hy : EqR (Go.Cib.Rest (fun _ => True) (.slice AO i cO)) w5 [.slice A5 k c5, .slice A3 m3 c3] (rowF k u, ra ss u) := by
          refine ⟨A5, k, c5, A3, m3, c3, rfl, hc5, hc3, hr5.weaken ByR.stable fun b hb => ⟨trivial, fun e => ?_⟩, (R3.out.below ByR.stable s5).weaken ByR.stable fun b hb => ⟨trivial, fun e => ?_⟩⟩
          · have h1 := (HO.out.lt b e.symm).2
            have h2 : wq.heap.size ≤ b := hb
            omega
          · have h1 := (HO.out.lt b e.symm).1
            omega
        have OWN5 := Lib.hid own5
        have HY := Lib.hid hy
        have hsz5 := s5.size
        clear hrr hb5 hr5 own5 hy
        try (go_wp2_with fail)
        refine hK.out _ _ (by first | assumption | exact s5.alloc s5.size _) (fun hHeld => ?_)
        clear hK K
        try simp (maxSteps := 2000000) only [List.getElem_toArray, List.getElem_cons_succ, List.getElem_cons_zero, Act.put, List.setIfInBounds_toArray, List.set_cons_zero, List.set_cons_succ]
        refine wpAnyH_take (i := 15) (v := ?_) rfl (by kernel_rfl) (by kernel_rfl) (by kernel_rfl) (fun _ _ _ h => h) (Or.inl ⟨by first | kernel_rfl | rfl, ?_⟩) (by assumption) ?_
        rotate_left
        · (intro wq hSw; (try dsimp only at hSw); (try simp (maxSteps := 2000000) only [List.getElem_toArray, List.getElem_cons_succ, List.getElem_cons_zero]); go_simp); try with_reducible rfl
        try simp (maxSteps := 2000000) only [List.getElem_toArray, List.getElem_cons_succ, List.getElem_cons_zero, Act.put, List.setIfInBounds_toArray, List.set_cons_zero, List.set_cons_succ]
        refine wpAnyH_ready (rs := [16]) (by kernel_rfl) (by simp) ?_
        refine AllReadyH.cons rfl (fun K hK => ?_) AllReadyH.nil
        try simp (maxSteps := 2000000) only [List.getElem_toArray, List.getElem_cons_succ, List.getElem_cons_zero]
        go_simp
        refine hK.out _ _ (by first | assumption | exact s5.alloc s5.size _) (fun hHeld => ?_)
        clear hK K
        try simp (maxSteps := 2000000) only [List.getElem_toArray, List.getElem_cons_succ, List.getElem_cons_zero, Act.put, List.setIfInBounds_toArray, List.set_cons_zero, List.set_cons_succ]
        refine wpAnyH_ready (rs := [17]) (by kernel_rfl) (by simp) ?_
        refine AllReadyH.cons rfl (fun K hK => ?_) AllReadyH.nil
        refine step_law (by rfl) (wpList_push1 EqR.stable EqR.one sl_eqn (by rfl) (by rfl) (base := wo.heap.size) (S := fun _ => True) (cs := #[.slice A5 k c5, .slice A3 m3 c3]) (y := (rowF k u, ra ss u)) (by rfl) (by rfl) OWN5.out (by rfl) HY.out (by unfold maxLen; omega) (by omega) hsz5 ?_)
        intro A8 c8 ug hc8 own9 hlt8 hb8 hat8
        refine And.intro rfl ?_
        rw [← HNE.out] at own9
        have OWN9 := Lib.hid own9
        have s9 : Below wo.heap.size wo ug.to := s5.trans hb8
        clear own9 hb8 hat8 hlt8
        refine hK.out _ _ (by first | assumption | exact s5.alloc s5.size _) (fun hHeld => ?_)
        clear hK K
        try simp (maxSteps := 2000000) only [List.getElem_toArray, List.getElem_cons_succ, List.getElem_cons_zero, Act.put, List.setIfInBounds_toArray, List.set_cons_zero, List.set_cons_succ]
        refine wpAnyH_take (i := 18) (v := ?_) rfl (by kernel_rfl) (by kernel_rfl) (by kernel_rfl) (fun _ _ _ h => h) (Or.inl ⟨by first | kernel_rfl | rfl, ?_⟩) (by assumption) ?_
        rotate_left
        · (intro wq hSw; (try dsimp only at hSw); (try simp (maxSteps := 2000000) only [List.getElem_toArray, List.getElem_cons_succ, List.getElem_cons_zero]); go_simp); try with_reducible rfl
        try simp (maxSteps := 2000000) only [List.getElem_toArray, List.getElem_cons_succ, List.getElem_cons_zero, Act.put, List.setIfInBounds_toArray, List.set_cons_zero, List.set_cons_succ]
        refine wpAnyH_done (by kernel_rfl) ?_ _
        have S9 := Lib.hid s9
        go_wp2_with fail
        exact ⟨⟨i + 1, A8, c8, by omega, by go_num, rfl, Lib.hid hc8, OWN9, S9⟩, by simp [intOf]; omega⟩
      · have p1 : ¬ (i : Int) < (k : Int) := by omega
        obtain rfl : k = i := by omega
        have hown := HO.out
        rw [List.take_of_length_le (by unfold useE; rw [List.length_map, HUL.out]; exact Nat.le_refl _)] at hown
        obtain ⟨A', c', e, _, hr⟩ := hown.rd (S' := fun _ => True) (fun _ _ => trivial) (fun cs x hx => EqR.stable _ _ _ _ _ _ hx fun _ _ _ => ⟨trivial, rfl⟩)
        injection e with e1 _ e2
        subst e1; subst e2
        have hso := solve_any (c := cO) hr k1 (by omega) hn2 HD.out HSY.out
        clear hr hown HO
        go_wp2_with fail
        refine hso.mono ?_
        clear hso
        rintro e w9 ⟨go, rfl, hr9, hb9⟩
        have HR9 := Lib.hid hr9
        have HB9 := Lib.hid (HB2.out.trans ((HB.out.trans (hb9.mono HB.out.size)).mono HB2.out.size))
        clear hr9 hb9
        go_wp2_with fail
        go_ret2
        exact ⟨HB9.out, .inr ⟨HRV.out, go, rfl, HR9.out⟩⟩
  · have hz2 : (rv != 0) = true := by simpa using hz
    go_wp2_with fail
    refine hri.mono ?_
    rintro e w1 ⟨rfl, hb1⟩
    go_wp2_with fail
    go_ret2
    exact ⟨hb1, .inl ⟨by rw [HRV.out]; exact hz, by rw [HRV.out]; rfl⟩⟩
end Go.Proofs.YthhljmlpjnkfgaaGreat

set_option linter.unusedSimpArgs false
set_option linter.unusedVariables false
namespace Go.Proofs.YthhljmlpjnkfgaaGreat
open Go.RowKit Go.Cib
attribute [local go_sem] cell_set Later.cell Later.frozen Grw.cell Grw.frozen
def shU (k n : Nat) (D : Rws) (i a : Nat) : List Nat := (List.range a).map fun p => gt (codeRow k n D i) p
theorem shU_next (k n : Nat) (D : Rws) (i a : Nat) : shU k n D i (a + 1) = shU k n D i a ++ [gt (codeRow k n D i) a] := by
  unfold shU
  rw [List.range_succ, List.map_append]; rfl
theorem shU_all {k n : Nat} {D : Rws} (hD : Shp k n D) (i : Nat) : shU k n D i n = codeRow k n D i := by
  refine gt_ext (by unfold shU; rw [(codeRow_ok hD i).1]; simp) fun p hp => ?_
  have hp2 : p < n := by unfold shU at hp; simpa using hp
  exact range_gt hp2
theorem sumx_byt {f : Nat → Nat} (h : ∀ i, f i < 256) : ∀ n, sumx f n < 256
  | 0 => by show 0 < 256; omega
  | n + 1 => xor_lt (sumx_byt h n) (h n)
set_option maxRecDepth 100000 in
set_option maxHeartbeats 16000000 in
theorem rshard_any {w : World} {k n i c : Nat} {A : Option Addr} {S : Nat → Prop} {D : Rws} (R : RdL RowR 1 S w A k D) (hD : Shp k n D) (k1 : 1 ≤ k) (hk : k ≤ 255) (hi : i < 256) (hn : n ≤ 1000000) :
    Calls Tryz.prog 40 #[.slice A k c, .int .i64 (i : Int)] w fun e w' => ∃ A' c', e = .returned (.slice A' n c') ∧ n ≤ c' ∧ RdL ByR 1 (fun j => w.heap.size ≤ j) w' A' n (codeRow k n D i) ∧ Below w.heap.size w w' := by
  have HR := Lib.hid R
  have HD := Lib.hid hD
  obtain ⟨bd, od, rfl, _, hbd⟩ := R.addr (k := 0) (by omega)
  obtain ⟨A0, m0, c0, v0, _, r0⟩ := row_at R (k := 0) (by omega)
  have hm0 : n = m0 := by rw [← r0.1]; exact (hD.row (by omega)).1.symm
  subst hm0
  rw [Nat.add_zero] at v0
  have q0 : (k : Int) > 0 := by omega
  have q1 : (0 : Int) < (k : Int) := by omega
  have q2 : (n : Int) ≤ 1000000 := by omega
  have q3 : (k : Int) ≤ 255 := by omega
  have q4 : (0 : Int) ≤ (k : Int) := by omega
  clear R hD r0
  go_enter Tryz.func40, Tryz.ntmps40
  go_wp2_with fail
  go_loopw [5, 6] (fun vs vi wr => ∃ (a : Nat) (A : Option Addr) (c' : Nat), a ≤ n ∧ vi = .int .i64 a ∧ vs = .slice A a c' ∧ Hid (a ≤ c') ∧ Hid (OwnL ByR 5 1 w.heap.size (fun j => w.heap.size ≤ j) wr (.slice A a c') a (shU k n D i a)) ∧ Hid (Below w.heap.size w wr)) (fun _ vi _ => n - (intOf vi).toNat)
  case atStart => exact ⟨0, none, 0, Nat.zero_le _, rfl, rfl, Lib.hid (Nat.le_refl _), Lib.hid (by exact OwnL.nil_), Lib.hid (Below.refl _ _)⟩
  case round =>
    obtain ⟨a, AO, cO, ha, rfl, rfl, HC, HO, HB⟩ := hrel
    have p0 : (0 : Int) ≤ (a : Int) := Int.natCast_nonneg _
    have v0' := (HB.out.cell (p := ⟨bd, od, none⟩) hbd).trans v0
    by_cases hlt : a < n
    · have p1 : (a : Int) < (n : Int) := by omega
      go_wp2_with fail
      obtain ⟨wo, rfl⟩ : ∃ wo, wo = wr := ⟨_, rfl⟩
      go_loopw [7, 8] (fun vx vj wr => ∃ j : Nat, j ≤ k ∧ vj = .int .i64 j ∧ vx = .int .u8 (sumx (fun l => gm (fac k i l) (gt (ra D l) a)) j : Nat) ∧ Hid (Below wo.heap.size wo wr)) (fun _ vj _ => k - (intOf vj).toNat)
      case atStart => exact ⟨0, Nat.zero_le _, rfl, rfl, Lib.hid (Below.refl _ _)⟩
      case round =>
        obtain ⟨wq, rfl⟩ : ∃ wq, wq = wr := ⟨_, rfl⟩
        obtain ⟨j, hj, rfl, rfl, HB2⟩ := hrel
        have p2 : (0 : Int) ≤ (j : Int) := Int.natCast_nonneg _
        by_cases hlj : j < k
        · have p3 : (j : Int) < (k : Int) := by omega
          obtain ⟨A1, m1, c1, v1, _, r1⟩ := row_at HR.out hlj
          have hm1 : n = m1 := by rw [← r1.1]; exact (HD.out.row hlj).1.symm
          subst hm1
          obtain ⟨b1, o1, rfl, _, hb1⟩ := r1.addr hlt
          obtain ⟨x1, y1⟩ := by_at r1 hlt
          have hbw := HB.out.trans (HB2.out.mono HB.out.size)
          have v1' := fun w' (h : Below wq.heap.size wq w') => ((hbw.trans (h.mono hbw.size)).cell (p := ⟨bd, od + j, none⟩) hbd).trans v1
          have x1' := fun w' (h : Below wq.heap.size wq w') => ((hbw.trans (h.mono hbw.size)).cell (p := ⟨b1, o1 + a, none⟩) hb1).trans x1
          have hfa := fun w => rfac_any (w := w) (k := k) (i := i) (j := j) hi hlj (by omega)
          have hfl := fac_lt2 k i j
          have hmu := fun w => rmul_any (w := w) hfl y1
          have hsl := sumx_byt (f := fun l => gm (fac k i l) (gt (ra D l) a)) (fun _ => gm_lt) j
          have hxb := xor_bits hsl (gm_lt (a := fac k i j) (b := gt (ra D j) a))
          have hsx : sumx (fun l => gm (fac k i l) (gt (ra D l) a)) (j + 1) = sumx (fun l => gm (fac k i l) (gt (ra D l) a)) j ^^^ gm (fac k i j) (gt (ra D j) a) := rfl
          rw [← hsx] at hxb
          obtain ⟨sj, hsj⟩ : ∃ s, sumx (fun l => gm (fac k i l) (gt (ra D l) a)) j = s := ⟨_, rfl⟩
          rw [hsj] at hxb ⊢
          obtain ⟨sn, hsn⟩ : ∃ s, sumx (fun l => gm (fac k i l) (gt (ra D l) a)) (j + 1) = s := ⟨_, rfl⟩
          rw [hsn] at hxb
          have HSN := Lib.hid hsn
          clear v1 x1 r1 hsx hsj hsl hbw hsn
          go_wp2_with fail
          refine wp_region_held_drew (S := fun w' => Below wq.heap.size wq w') (by kernel_rfl) (by first | assumption | exact Below.refl _ _ | exact (Below.refl _ _).drew) (fun hHeld => ?_)
          refine wpAnyH_take (i := 0) (v := ?_) rfl (by kernel_rfl) (by kernel_rfl) (by kernel_rfl) (fun _ _ _ h => h) (Or.inl ⟨by first | kernel_rfl | rfl, ?_⟩) (by assumption) ?_
          rotate_left
          · (intro wq hSw; (try dsimp only at hSw); (try simp (maxSteps := 2000000) only [List.getElem_toArray, List.getElem_cons_succ, List.getElem_cons_zero]); go_simp); try with_reducible rfl
          try simp (maxSteps := 2000000) only [List.getElem_toArray, List.getElem_cons_succ, List.getElem_cons_zero, Act.put, List.setIfInBounds_toArray, List.set_cons_zero, List.set_cons_succ]
          refine wpAnyH_take (i := 1) (v := ?_) rfl (by kernel_rfl) (by kernel_rfl) (by kernel_rfl) (fun _ _ _ h => h) (Or.inl ⟨by first | kernel_rfl | rfl, ?_⟩) (by assumption) ?_
          rotate_left
          · (intro wq hSw; (try dsimp only at hSw); (try simp (maxSteps := 2000000) only [List.getElem_toArray, List.getElem_cons_succ, List.getElem_cons_zero]); go_simp); try with_reducible rfl
          try simp (maxSteps := 2000000) only [List.getElem_toArray, List.getElem_cons_succ, List.getElem_cons_zero, Act.put, List.setIfInBounds_toArray, List.set_cons_zero, List.set_cons_succ]
          refine wpAnyH_take (i := 2) (v := ?_) rfl (by kernel_rfl) (by kernel_rfl) (by kernel_rfl) (fun _ _ _ h => h) (Or.inl ⟨by first | kernel_rfl | rfl, ?_⟩) (by assumption) ?_
          rotate_left
          · (intro wq hSw; (try dsimp only at hSw); (try simp (maxSteps := 2000000) only [List.getElem_toArray, List.getElem_cons_succ, List.getElem_cons_zero]); go_simp); try with_reducible rfl
          try simp (maxSteps := 2000000) only [List.getElem_toArray, List.getElem_cons_succ, List.getElem_cons_zero, Act.put, List.setIfInBounds_toArray, List.set_cons_zero, List.set_cons_succ]
          refine wpAnyH_take (i := 3) (v := ?_) rfl (by kernel_rfl) (by kernel_rfl) (by kernel_rfl) (fun _ _ _ h => h) (Or.inl ⟨by first | kernel_rfl | rfl, ?_⟩) (by assumption) ?_
          rotate_left
          · (intro wq hSw; (try dsimp only at hSw); (try simp (maxSteps := 2000000) only [List.getElem_toArray, List.getElem_cons_succ, List.getElem_cons_zero]); go_simp); try with_reducible rfl
          try simp (maxSteps := 2000000) only [List.getElem_toArray, List.getElem_cons_succ, List.getElem_cons_zero, Act.put, List.setIfInBounds_toArray, List.set_cons_zero, List.set_cons_succ]
          refine wpAnyH_take (i := 4) (v := ?_) rfl (by kernel_rfl) (by kernel_rfl) (by kernel_rfl) (fun _ _ _ h => h) (Or.inl ⟨by first | kernel_rfl | rfl, ?_⟩) (by assumption) ?_
          rotate_left
          · (intro wq hSw; (try dsimp only at hSw); (try simp (maxSteps := 2000000) only [List.getElem_toArray, List.getElem_cons_succ, List.getElem_cons_zero]); go_simp); try with_reducible rfl
          try simp (maxSteps := 2000000) only [List.getElem_toArray, List.getElem_cons_succ, List.getElem_cons_zero, Act.put, List.setIfInBounds_toArray, List.set_cons_zero, List.set_cons_succ]
          refine wpAnyH_take (i := 6) (v := ?_) rfl (by kernel_rfl) (by kernel_rfl) (by kernel_rfl) (fun _ _ _ h => h) (Or.inl ⟨by first | kernel_rfl | rfl, ?_⟩) (by assumption) ?_
          rotate_left
          · (intro wq hSw; (try dsimp only at hSw); (try simp (maxSteps := 2000000) only [List.getElem_toArray, List.getElem_cons_succ, List.getElem_cons_zero]); go_simp); try with_reducible rfl
          try simp (maxSteps := 2000000) only [List.getElem_toArray, List.getElem_cons_succ, List.getElem_cons_zero, Act.put, List.setIfInBounds_toArray, List.set_cons_zero, List.set_cons_succ]
          refine wpAnyH_take (i := 7) (v := ?_) rfl (by kernel_rfl) (by kernel_rfl) (by kernel_rfl) (fun _ _ _ h => h) (Or.inl ⟨by first | kernel_rfl | rfl, ?_⟩) (by assumption) ?_
          rotate_left
          · (intro wq hSw; (try dsimp only at hSw); (try simp (maxSteps := 2000000) only [List.getElem_toArray, List.getElem_cons_succ, List.getElem_cons_zero]); go_simp); try with_reducible rfl
          try simp (maxSteps := 2000000) only [List.getElem_toArray, List.getElem_cons_succ, List.getElem_cons_zero, Act.put, List.setIfInBounds_toArray, List.set_cons_zero, List.set_cons_succ]
          refine wpAnyH_take (i := 8) (v := ?_) rfl (by kernel_rfl) (by kernel_rfl) (by kernel_rfl) (fun _ _ _ h => h) (Or.inl ⟨by first | kernel_rfl | rfl, ?_⟩) (by assumption) ?_
          rotate_left
          · (intro wq hSw; (try dsimp only at hSw); (try simp (maxSteps := 2000000) only [List.getElem_toArray, List.getElem_cons_succ, List.getElem_cons_zero]); go_simp); try with_reducible rfl
          try simp (maxSteps := 2000000) only [List.getElem_toArray, List.getElem_cons_succ, List.getElem_cons_zero, Act.put, List.setIfInBounds_toArray, List.set_cons_zero, List.set_cons_succ]
          refine wpAnyH_take (i := 9) (v := ?_) rfl (by kernel_rfl) (by kernel_rfl) (by kernel_rfl) (fun _ _ _ h => h) (Or.inl ⟨by first | kernel_rfl | rfl, ?_⟩) (by assumption) ?_
          rotate_left
          · (intro wq hSw; (try dsimp only at hSw); (try simp (maxSteps := 2000000) only [List.getElem_toArray, List.getElem_cons_succ, List.getElem_cons_zero]); go_simp); try with_reducible rfl
          try simp (maxSteps := 2000000) only [List.getElem_toArray, List.getElem_cons_succ, List.getElem_cons_zero, Act.put, List.setIfInBounds_toArray, List.set_cons_zero, List.set_cons_succ]
          refine wpAnyH_take (i := 10) (v := ?_) rfl (by kernel_rfl) (by kernel_rfl) (by kernel_rfl) (fun _ _ _ h => h) (Or.inl ⟨by first | kernel_rfl | rfl, ?_⟩) (by assumption) ?_
          rotate_left
          · (intro wq hSw; (try dsimp only at hSw); (try simp (maxSteps := 2000000) only [List.getElem_toArray, List.getElem_cons_succ, List.getElem_cons_zero]); go_simp); try with_reducible rfl
          try simp (maxSteps := 2000000) only [List.getElem_toArray, List.getElem_cons_succ, List.getElem_cons_zero, Act.put, List.setIfInBounds_toArray, List.set_cons_zero, List.set_cons_succ]
          refine wpAnyH_take (i := 11) (v := ?_) rfl (by kernel_rfl) (by kernel_rfl) (by kernel_rfl) (fun _ _ _ h => h) (Or.inl ⟨by first | kernel_rfl | rfl, ?_⟩) (by assumption) ?_
          rotate_left
          · (intro wq hSw; (try dsimp only at hSw); (try simp (maxSteps := 2000000) only [List.getElem_toArray, List.getElem_cons_succ, List.getElem_cons_zero]); go_simp); try with_reducible rfl
          try simp (maxSteps := 2000000) only [List.getElem_toArray, List.getElem_cons_succ, List.getElem_cons_zero, Act.put, List.setIfInBounds_toArray, List.set_cons_zero, List.set_cons_succ]
          refine wpAnyH_take (i := 12) (v := ?_) rfl (by kernel_rfl) (by kernel_rfl) (by kernel_rfl) (fun _ _ _ h => h) (Or.inl ⟨by first | kernel_rfl | rfl, ?_⟩) (by assumption) ?_
          rotate_left
          · (intro wq hSw; (try dsimp only at hSw); (try simp (maxSteps := 2000000) only [List.getElem_toArray, List.getElem_cons_succ, List.getElem_cons_zero]); go_simp); try with_reducible rfl
          try simp (maxSteps := 2000000) only [List.getElem_toArray, List.getElem_cons_succ, List.getElem_cons_zero, Act.put, List.setIfInBounds_toArray, List.set_cons_zero, List.set_cons_succ]
          refine wpAnyH_ready (rs := [5]) (by kernel_rfl) (by simp) ?_
          refine AllReadyH.cons rfl (fun K hK => ?_) AllReadyH.nil
          try simp (maxSteps := 2000000) only [List.getElem_toArray, List.getElem_cons_succ, List.getElem_cons_zero]
          go_simp
          go_at_call 36
          refine (hfa _).mono ?_
          rintro e w5 ⟨rfl, hw5⟩
          rw [hw5]
          clear hw5 hfa
          try (go_wp2_with fail)
          refine hK.out _ _ (by first | assumption | exact Below.refl _ _ | exact (Below.refl _ _).drew) (fun hHeld => ?_)
          clear hK K
          try simp (maxSteps := 2000000) only [List.getElem_toArray, List.getElem_cons_succ, List.getElem_cons_zero, Act.put, List.setIfInBounds_toArray, List.set_cons_zero, List.set_cons_succ]
          refine wpAnyH_ready (rs := [13]) (by kernel_rfl) (by simp) ?_
          refine AllReadyH.cons rfl (fun K hK => ?_) AllReadyH.nil
          try simp (maxSteps := 2000000) only [List.getElem_toArray, List.getElem_cons_succ, List.getElem_cons_zero]
          go_simp
          go_at_call 35
          refine (hmu _).mono ?_
          rintro e w6 ⟨rfl, hw6⟩
          rw [hw6]
          clear hw6 hmu
          try (go_wp2_with fail)
          refine hK.out _ _ (by first | assumption | exact Below.refl _ _ | exact (Below.refl _ _).drew) (fun hHeld => ?_)
          clear hK K
          try simp (maxSteps := 2000000) only [List.getElem_toArray, List.getElem_cons_succ, List.getElem_cons_zero, Act.put, List.setIfInBounds_toArray, List.set_cons_zero, List.set_cons_succ]
          refine wpAnyH_take (i := 14) (v := ?_) rfl (by kernel_rfl) (by kernel_rfl) (by kernel_rfl) (fun _ _ _ h => h) (Or.inl ⟨by first | kernel_rfl | rfl, ?_⟩) (by assumption) ?_
          rotate_left
          · (intro wq hSw; (try dsimp only at hSw); (try simp (maxSteps := 2000000) only [List.getElem_toArray, List.getElem_cons_succ, List.getElem_cons_zero]); go_simp); try with_reducible rfl
          try simp (maxSteps := 2000000) only [List.getElem_toArray, List.getElem_cons_succ, List.getElem_cons_zero, Act.put, List.setIfInBounds_toArray, List.set_cons_zero, List.set_cons_succ]
          refine wpAnyH_take (i := 15) (v := ?_) rfl (by kernel_rfl) (by kernel_rfl) (by kernel_rfl) (fun _ _ _ h => h) (Or.inl ⟨by first | kernel_rfl | rfl, ?_⟩) (by assumption) ?_
          rotate_left
          · (intro wq hSw; (try dsimp only at hSw); (try simp (maxSteps := 2000000) only [List.getElem_toArray, List.getElem_cons_succ, List.getElem_cons_zero]); go_simp); try with_reducible rfl
          try simp (maxSteps := 2000000) only [List.getElem_toArray, List.getElem_cons_succ, List.getElem_cons_zero, Act.put, List.setIfInBounds_toArray, List.set_cons_zero, List.set_cons_succ]
          refine wpAnyH_done (by kernel_rfl) ?_ _
          go_wp2_with fail
          exact ⟨⟨j + 1, by omega, by go_num, by rw [HSN.out], Lib.hid (HB2.out.trans ((Below.refl _ _).drew.mono HB2.out.size))⟩, by simp [intOf]; omega⟩
        · have p3 : ¬ (j : Int) < (k : Int) := by omega
          obtain rfl : k = j := by omega
          have hcr := codeRow_gt HD.out i a
          have hbt := gt_lt (codeRow_ok HD.out i).2 a
          rw [← hcr]
          have HN := Lib.hid (shU_next k n D i a)
          obtain ⟨y, hy⟩ : ∃ y, gt (codeRow k n D i) a = y := ⟨_, rfl⟩
          rw [hy] at HN hbt ⊢
          have HOq := Lib.hid (HO.out.keep ByR.stable HB2.out)
          have HBq := Lib.hid (HB.out.trans (HB2.out.mono HB.out.size))
          have hszr := HBq.out.size
          clear hcr hy HO HB HB2
          go_wp2_with (at_builtin; go_must (refine wpList_push1 ByR.stable ByR.one sl_by (by rfl) (by rfl) (base := w.heap.size) (S := fun j => w.heap.size ≤ j) (cs := #[.int .u8 (y : Int)]) (y := y) (by rfl) (by rfl) HOq.out (by rfl) ⟨hbt, rfl⟩ (by unfold maxLen; omega) (by omega) hszr ?_); intro A8 c8 ug hc8 own9 hlt8 hb8 hat8; rw [← HN.out] at own9; have HO9 := Lib.hid own9; have HB9 := Lib.hid (HBq.out.trans hb8); clear own9 hb8 hlt8 hat8)
          exact ⟨⟨a + 1, A8, c8, by omega, by go_num, rfl, Lib.hid hc8, HO9, HB9⟩, by simp [intOf]; omega⟩
    · have p1 : ¬ (a : Int) < (n : Int) := by omega
      obtain rfl : a = n := by omega
      have hz := HO.out
      rw [shU_all HD.out] at hz
      obtain ⟨A', c', e, _, hr⟩ := hz.rd (S' := fun j => w.heap.size ≤ j) (fun j hj => hj) (fun cs x hx => hx)
      injection e with e1 _ e2
      subst e1; subst e2
      have HZ := Lib.hid hr
      clear hz hr HO
      go_wp2_with fail
      go_ret
      exact ⟨AO, cO, rfl, HC.out, HZ.out, HB.out⟩
end Go.Proofs.YthhljmlpjnkfgaaGreat

set_option linter.unusedSimpArgs false
set_option linter.unusedVariables false
namespace Go.Proofs.YthhljmlpjnkfgaaGreat
open Go.RowKit Go.Cib
attribute [local go_sem] cell_set Later.cell Later.frozen Grw.cell Grw.frozen
def RalE (w : World) (k m N : Nat) (ss : Rws) (e : Ending) (w' : World) : Prop := Below w.heap.size w w' ∧
  ((rightF k m N ss ≠ 0 ∧ e = .returned (.tuple #[.slice none 0 0, .int .i64 (rightF k m N ss)])) ∨
   (rightF k m N ss = 0 ∧ ∃ A c, e = .returned (.tuple #[.slice A (k + m) c, .int .i64 0]) ∧ k + m ≤ c ∧ RdL RowR 1 (fun _ => True) w' A (k + m) (outF k N (k + m) ss)))
set_option maxRecDepth 100000 in
set_option maxHeartbeats 16000000 in
theorem rall_any {w : World} {k m N c : Nat} {A : Option Addr} {S : Nat → Prop} {ss : Rws} (R : RdL RowR 1 S w A N ss) (hN : N ≤ 1000) (hlen : ∀ i, lenF ss i ≤ 1000000) (k1 : 1 ≤ k) (km : k + m ≤ 255) :
    Calls Tryz.prog 20 #[.int .i64 (k : Int), .int .i64 (m : Int), .slice A N c] w fun e w' => RalE w k m N ss e w' := by
  have HR := Lib.hid R
  have HL := Lib.hid hlen
  have hda := rdata_any (c := c) R hN hlen k1 km
  clear R hlen
  have q0 : (N : Int) ≤ 1000 := by omega
  have q1 : (k : Int) + (m : Int) ≤ 255 := by omega
  have q3 : (0 : Int) ≤ (k : Int) := Int.natCast_nonneg _
  have q4 : (0 : Int) ≤ (m : Int) := Int.natCast_nonneg _
  go_enter Tryz.func20, Tryz.ntmps20
  go_wp2_with fail
  refine hda.mono ?_
  clear hda
  rintro e w1 ⟨hb1, ⟨hz, rfl⟩ | ⟨hz, g, rfl, hr1⟩⟩
  · obtain ⟨rv, hrv⟩ : ∃ r, rightF k m N ss = r := ⟨_, rfl⟩
    rw [hrv] at hz ⊢
    have HRV := Lib.hid hrv
    have hz2 : (rv != 0) = true := by simpa using hz
    clear hrv
    go_wp2_with fail
    go_ret2
    exact ⟨hb1, .inl ⟨by rw [HRV.out]; exact hz, by rw [HRV.out]; rfl⟩⟩
  · obtain ⟨hgood, hfew⟩ := rightF_ok hz
    obtain rfl := (use_ok hgood hfew k1).1
    obtain ⟨n, hn⟩ : ∃ n, lenF ss (gt (useT k (k + m) ss) 0) = n := ⟨_, rfl⟩
    have hn2 : n ≤ 1000000 := by rw [← hn]; exact HL.out _
    obtain ⟨hD, _, hrows⟩ := tell_out hgood hfew k1 km (rows_byt2 HR.out) hn
    have HZ := Lib.hid hz
    have HD := Lib.hid hD
    have HRW := Lib.hid hrows
    have h0 : RdL RowR 1 (fun b => b < w.heap.size) w A (k + m) ss := HR.out.stable RowR.stable fun b _ h => ⟨h, rfl⟩
    have HR0 := Lib.hid (h0.below RowR.stable hb1)
    have HDR := Lib.hid hr1
    have HB1 := Lib.hid hb1
    have hsz := hb1.size
    have holen : (outF k (k + m) (k + m) ss).length = k + m := by unfold outF; simp
    have HOL := Lib.hid holen
    have q5 : (0 : Int) ≤ ((k + m : Nat) : Int) := Int.natCast_nonneg _
    clear hgood hfew hD hrows hz hb1 hr1 h0 hn holen
    go_wp2_with fail
    obtain ⟨wo, rfl⟩ : ∃ wo, wo = w1 := ⟨_, rfl⟩
    go_loopw [10, 11] (fun vs vi wr => ∃ (i : Nat) (A : Option Addr) (c' : Nat), i ≤ k + m ∧ vi = .int .i64 i ∧ vs = .slice A i c' ∧ Hid (i ≤ c') ∧ Hid (OwnL RowR 29 1 wo.heap.size (fun _ => True) wr (.slice A i c') i ((outF k (k + m) (k + m) ss).take i)) ∧ Hid (Below wo.heap.size wo wr)) (fun _ vi _ => k + m - (intOf vi).toNat)
    case atStart => exact ⟨0, none, 0, Nat.zero_le _, rfl, rfl, Lib.hid (Nat.le_refl _), Lib.hid (by exact OwnL.nil_), Lib.hid (Below.refl _ _)⟩
    case round =>
      obtain ⟨wq, rfl⟩ : ∃ wq, wq = wr := ⟨_, rfl⟩
      obtain ⟨i, AO, cO, hi, rfl, rfl, HC, HO, HB⟩ := hrel
      have p0 : (0 : Int) ≤ (i : Int) := Int.natCast_nonneg _
      by_cases hlt : i < k + m
      · have p1 : (i : Int) < (k : Int) + (m : Int) := by omega
        have p11 : (i : Int) < ((k + m : Nat) : Int) := by omega
        obtain ⟨ba, oa, rfl, _, hba⟩ := HR0.out.addr hlt
        obtain ⟨A3, m3, c3, v3, hc3, r3⟩ := row_at HR0.out hlt
        have v3' := (HB.out.cell (p := ⟨ba, oa + i, none⟩) hba).trans v3
        have hm3 : lenF ss i = m3 := r3.1
        have hnx : (outF k (k + m) (k + m) ss).take (i + 1) = (outF k (k + m) (k + m) ss).take i ++ [ra (outF k (k + m) (k + m) ss) i] := by rw [List.take_add_one, ra_of_lt (by rw [HOL.out]; exact hlt)]; rfl
        rw [HRW.out i hlt] at hnx
        have hsz5 := HB.out.size
        by_cases hp : 0 < m3
        · have p2 : (m3 : Int) > 0 := by omega
          rw [if_pos (by omega)] at hnx
          have HNX := Lib.hid hnx
          have hy : RowR (Go.Cib.Rest (fun _ => True) (.slice AO i cO)) wq [.slice A3 m3 c3] (ra ss i) :=
            ⟨A3, m3, c3, rfl, hc3, (r3.below ByR.stable HB.out).weaken ByR.stable fun b hb => ⟨trivial, fun e => by have h1 := (HO.out.lt b e.symm).1; omega⟩⟩
          have HY := Lib.hid hy
          clear v3 r3 hm3 hnx hy hlt
          go_wp2_with (at_builtin; go_must (refine wpList_push1 RowR.stable RowR.one sl_rows (by rfl) (by rfl) (base := wo.heap.size) (S := fun _ => True) (cs := #[.slice A3 m3 c3]) (y := ra ss i) (by rfl) (by rfl) HO.out (by rfl) HY.out (by unfold maxLen; omega) (by omega) hsz5 ?_); intro A8 c8 ug hc8 own9 hlt8 hb8 hat8; rw [← HNX.out] at own9; have HO9 := Lib.hid own9; have HB9 := Lib.hid (HB.out.trans hb8); clear own9 hb8 hlt8 hat8)
          exact ⟨⟨i + 1, A8, c8, by omega, by go_num, rfl, Lib.hid hc8, HO9, HB9⟩, by simp [intOf]; omega⟩
        · have p2 : ¬ (m3 : Int) > 0 := by omega
          rw [if_neg (by omega)] at hnx
          have HNX := Lib.hid hnx
          have hsh := rshard_any (c := k) (i := i) (HDR.out.below RowR.stable HB.out) HD.out k1 (by omega) (by omega) hn2
          clear v3 r3 hm3 hnx hlt
          go_wp2_with fail
          refine hsh.mono ?_
          clear hsh
          rintro e w5 ⟨A5, c5, rfl, hc5, hr5, hb5⟩
          have hy : RowR (Go.Cib.Rest (fun _ => True) (.slice AO i cO)) w5 [.slice A5 n c5] (codeRow k n (outF k (k + m) k ss) i) :=
            ⟨A5, n, c5, rfl, hc5, hr5.weaken ByR.stable fun b hb => ⟨trivial, fun e => by have h1 := (HO.out.lt b e.symm).2; have h2 : wq.heap.size ≤ b := hb; omega⟩⟩
          have HY := Lib.hid hy
          have HO5 := Lib.hid (HO.out.keep RowR.stable hb5)
          have HB5 := Lib.hid (HB.out.trans (hb5.mono HB.out.size))
          have hsz6 := HB5.out.size
          clear hy hb5 hr5 HO
          go_wp2_with (at_builtin; go_must (refine wpList_push1 RowR.stable RowR.one sl_rows (by rfl) (by rfl) (base := wo.heap.size) (S := fun _ => True) (cs := #[.slice A5 n c5]) (y := codeRow k n (outF k (k + m) k ss) i) (by rfl) (by rfl) HO5.out (by rfl) HY.out (by unfold maxLen; omega) (by omega) hsz6 ?_); intro A8 c8 ug hc8 own9 hlt8 hb8 hat8; rw [← HNX.out] at own9; have HO9 := Lib.hid own9; have HB9 := Lib.hid (HB5.out.trans hb8); clear own9 hb8 hlt8 hat8)
          exact ⟨⟨i + 1, A8, c8, by omega, by go_num, rfl, Lib.hid hc8, HO9, HB9⟩, by simp [intOf]; omega⟩
      · have p1 : ¬ (i : Int) < (k : Int) + (m : Int) := by omega
        obtain rfl : i = k + m := by omega
        have hown := HO.out
        rw [List.take_of_length_le (by rw [HOL.out]; exact Nat.le_refl _)] at hown
        obtain ⟨A', c', e, _, hr⟩ := hown.rd (S' := fun _ => True) (fun _ _ => trivial) (fun cs x hx => RowR.stable _ _ _ _ _ _ hx fun _ _ _ => ⟨trivial, rfl⟩)
        injection e with e1 _ e2
        subst e1; subst e2
        have HR9 := Lib.hid hr
        clear hr hown HO
        push_cast at p0
        push_cast
        go_wp2_with fail
        go_ret2
        exact ⟨HB1.out.trans (HB.out.mono HB1.out.size), .inr ⟨HZ.out, AO, cO, rfl, HC.out, HR9.out⟩⟩
end Go.Proofs.YthhljmlpjnkfgaaGreat

set_option linter.unusedSimpArgs false
set_option linter.unusedVariables false
namespace Go.Proofs.YthhljmlpjnkfgaaGreat
open Go.RowKit Go.Cib
attribute [local go_sem] cell_set Later.cell Later.frozen Grw.cell Grw.frozen
theorem run_min_l (ts : Array TypeId) (t : TypeId) (x y : Int) (w : World) : (Builtin.min_ ts t #[.int .i64 x, .int .i64 y]).run Tryz.prog w = .ok (.int .i64 (min x y)) w := by
  rw [run_min_int2, show (if y < x then y else x) = min x y by omega]
attribute [local go_sem ↓] run_min_l

/-- What is left of 3000 bytes behind the first rows. -/
def leftF (ss : Rws) : Nat → Int
  | 0 => 3000
  | i + 1 => leftF ss i - min (lenF ss i : Int) 4000
def fewB (ss : Rws) (n : Nat) : Bool := decide (n ≤ 260) && decide (0 ≤ leftF ss (min n 300))
theorem leftF_le (ss : Rws) : ∀ i : Nat, -(4000 * (i : Int)) ≤ leftF ss i ∧ leftF ss i ≤ 3000
  | 0 => by simp [leftF]
  | i + 1 => by
    have := leftF_le ss i
    unfold leftF
    push_cast
    omega
theorem leftF_len (ss : Rws) : ∀ i j, j < i → 0 ≤ leftF ss i → lenF ss j ≤ 3000
  | 0, _, h, _ => absurd h (by omega)
  | i + 1, j, h, h0 => by
    unfold leftF at h0
    have h1 := leftF_le ss i
    by_cases e : j = i
    · subst e; omega
    · exact leftF_len ss i j (by omega) (by omega)
theorem lenF_out {ss : Rws} {j : Nat} (h : ss.length ≤ j) : lenF ss j = 0 := by
  unfold lenF ra
  rw [List.getD_eq_getElem?_getD, List.getElem?_eq_none h]; rfl
theorem fewB_ok {ss : Rws} {n : Nat} (hl : ss.length = n) (h : fewB ss n = true) : n ≤ 260 ∧ ∀ j, lenF ss j ≤ 3000 := by
  unfold fewB at h
  rw [Bool.and_eq_true, decide_eq_true_eq, decide_eq_true_eq] at h
  refine ⟨h.1, fun j => ?_⟩
  by_cases hj : j < n
  · exact leftF_len ss _ j (by omega) h.2
  · rw [lenF_out (by omega)]; omega
set_option maxRecDepth 100000 in
set_option maxHeartbeats 8000000 in
theorem looksFew_any {w : World} {n c : Nat} {A : Option Addr} {S : Nat → Prop} {ss : Rws} (R : RdL RowR 1 S w A n ss) (z : Int) :
    Calls Tryz.prog 16 #[.int .i64 z, .slice A n c] w fun e w' => e = .returned (.bool (fewB ss n)) ∧ w' = w := by
  have HR := Lib.hid R
  clear R
  go_enter Tryz.func16, Tryz.ntmps16
  go_wp2_with fail
  go_loopw [5, 6] (fun vl vi wr => ∃ i : Nat, i ≤ n ∧ i ≤ 300 ∧ vi = .int .i64 i ∧ vl = .int .i64 (leftF ss i) ∧ wr = w) (fun _ vi _ => 300 - (intOf vi).toNat)
  case atStart => exact ⟨0, Nat.zero_le _, by omega, rfl, rfl, rfl⟩
  case round =>
    obtain ⟨i, hi, hi3, rfl, rfl, hwr⟩ := hrel
    rw [hwr]
    clear hwr
    have p0 : (0 : Int) ≤ (i : Int) := Int.natCast_nonneg _
    have hlf := leftF_le ss i
    by_cases hlt : i < n
    · have p1 : (i : Int) < (n : Int) := by omega
      by_cases h3 : i < 300
      · have p2 : (i : Int) < 300 := by omega
        obtain ⟨ba, oa, rfl, _, hba⟩ := HR.out.addr hlt
        obtain ⟨A1, m1, c1, v1, _, r1⟩ := row_at HR.out hlt
        have hm1 : leftF ss (i + 1) = leftF ss i - min (m1 : Int) 4000 := by rw [← (show lenF ss i = m1 from r1.1)]; rfl
        clear r1
        go_wp2_with fail
        exact ⟨⟨i + 1, by omega, by omega, by go_num, by rw [hm1], trivial⟩, by simp [intOf]; omega⟩
      · have p2 : ¬ (i : Int) < 300 := by omega
        obtain rfl : i = 300 := by omega
        have hfw : fewB ss n = false := by unfold fewB; rw [decide_eq_false (by omega), Bool.false_and]
        have q1 : ¬ (n : Int) ≤ 260 := by omega
        go_wp2_with fail
        go_ret
        exact ⟨rfl, rfl⟩
    · have p1 : ¬ (i : Int) < (n : Int) := by omega
      obtain rfl : i = n := by omega
      have hfw : fewB ss i = (decide ((i : Int) ≤ 260) && decide (leftF ss i ≥ 0)) := by unfold fewB; rw [show min i 300 = i by omega]; congr 1; exact decide_eq_decide.2 (by omega)
      by_cases q1 : (i : Int) ≤ 260
      · by_cases q2 : 0 ≤ leftF ss i
        · have q3 : leftF ss i ≥ 0 := q2
          go_wp2_with fail
          go_ret
          exact ⟨by simp [q1, q3], rfl⟩
        · have q3 : ¬ leftF ss i ≥ 0 := q2
          go_wp2_with fail
          go_ret
          exact ⟨by simp [q1, q3], rfl⟩
      · go_wp2_with fail
        go_ret
        exact ⟨by simp; omega, rfl⟩
end Go.Proofs.YthhljmlpjnkfgaaGreat
