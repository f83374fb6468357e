/-
  The numbers of the shards that have bytes, or why they aren't enough.
  The first rows of shards, those that are missing made anew.
  Whether all are shards' numbers, and none stands twice.
  A list, rising.
  Plan: by which shards and factors a shard comes of others.
  Any k rows of the code tell the data: plain.
  The coder's parity.
  Data and parity.
  All rows: data, and parity behind.
  Bytes as text; the page's own numbers.
  Rows that are the same, told so.
  What must come at any rate.
  Too few rows: plain.
  Rows of which some are taken away.
  Rows put together.
  Bytes appended to a row of zeros with room: the row filled.
  A text cut into rows.
  The inverse is one from both sides; what k rows of a code give back: plain.
  What k rows of a code give back: plain.
-/
import Derived.Test.YtihnlhfngmbglaaGreatAl6
import Derived.Test.YtihnlhfngmbglaaGreatAl1
import Derived.Test.YtihnlhfngmbglaaGreatAl5
import Derived.Lib.SlBytesConst
import Derived.Laws.BytesArg
set_option linter.unusedSimpArgs false
set_option linter.unusedVariables false
namespace Go.Proofs.YtihnlhfngmbglaaGreat
open Go.RowKit Go.Cib
attribute [local go_sem] cell_set Later.cell Later.frozen Grw.cell Grw.frozen
section

theorem sl_in : SlTy Tryz.prog 26 3 (.int .i64 0) 1 8 := ⟨by kernel_rfl, by kernel_rfl, by kernel_rfl, by omega⟩
def thU (ss : Rws) (i : Nat) : List Nat := (List.range i).filter fun j => decide (0 < lenF ss j)
theorem thU_yes {ss : Rws} {i : Nat} (h : 0 < lenF ss i) : thU ss (i + 1) = thU ss i ++ [i] := by
  unfold thU
  rw [List.range_succ, List.filter_append, List.filter_cons_of_pos (by simpa using h), List.filter_nil]
theorem thU_no {ss : Rws} {i : Nat} (h : ¬ 0 < lenF ss i) : thU ss (i + 1) = thU ss i := by
  unfold thU
  rw [List.range_succ, List.filter_append, List.filter_cons_of_neg (by simpa using h), List.filter_nil, List.append_nil]
theorem thU_mem {ss : Rws} {i u : Nat} (h : u ∈ thU ss i) : u < i ∧ 0 < lenF ss u := by
  have := List.mem_filter.1 h
  exact ⟨List.mem_range.1 this.1, by simpa using this.2⟩
theorem thU_len (ss : Rws) (i : Nat) : (thU ss i).length ≤ i := by
  have := List.length_filter_le (fun j => decide (0 < lenF ss j)) (List.range i)
  rwa [List.length_range] at this
structure ThI (w0 wr : World) (sb q : Nat) (sv : Value) (n : Nat) (A : Option Addr) (c : Nat) (xs : List Nat) : Prop where
  own : OwnL NatR 3 1 (q + 1) (fun _ => True) wr (.slice A n c) n xs
  bq : BoxAt wr q #[.slice A n c]
  bs : BoxAt wr sb #[sv]
  sq : sb < q
  hs : w0.heap.size ≤ sb
  bel : Below w0.heap.size w0 wr
theorem ThI.below {w0 wr w2 : World} {sb q n : Nat} {sv : Value} {A : Option Addr} {c : Nat} {xs : List Nat} (h : ThI w0 wr sb q sv n A c xs) (hb : Below wr.heap.size wr w2) : ThI w0 w2 sb q sv n A c xs :=
  ⟨h.own.keep NatR.stable hb, h.bq.below hb, h.bs.below hb, h.sq, h.hs, h.bel.trans (hb.mono h.bel.size)⟩
theorem ThI.pushed {w0 w2 : World} {sb q n : Nat} {sv : Value} {A A' : Option Addr} {c c' : Nat} {xs : List Nat} {y : Nat} (h : ThI w0 w2 sb q sv n A c xs) (u : Grw (Value.slice A n c).ownBlock w2)
    (hown : OwnL NatR 3 1 (q + 1) (fun _ => True) u.to (.slice A' (n + 1) c') (n + 1) (xs ++ [y])) (hb : Below (q + 1) w2 u.to) :
    ThI w0 (u.to.setCell ⟨q, 0, none⟩ (.slice A' (n + 1) c')) sb q sv (n + 1) A' c' (xs ++ [y]) := by
  have hl := h.bq.lt
  have hm := h.sq
  have hne : ∀ k, k ≤ q → some k ≠ (Value.slice A n c).ownBlock := fun k hk e => by
    have := (h.own.lt k e.symm).1; omega
  have hne2 : Value.ownBlock (.slice A' (n + 1) c') ≠ some q := fun e => by
    have := (hown.lt q e).1; omega
  refine ⟨?_, ?_, (h.bs.grw u.ok (hne sb (by omega))).set_other (by show sb ≠ q; omega) _, h.sq, h.hs, (h.bel.trans (hb.mono (by have := h.hs; omega))).setCell (by have := h.hs; show _ ≤ q; omega) _⟩
  · obtain ⟨css, h1, h2, h3, h4, h5⟩ := hown
    exact ⟨css, h1.kept (row := some q) ⟨rfl, rfl, rfl, by simp, fun k _ hk => Below.heap_setCell _ _ _ _ (fun e => hk (by rw [e]))⟩ (.inr hne2), h2, h3, h4, fun i cs x hc hx => h5 i cs x hc hx⟩
  · have := (h.bq.grw u.ok (hne q (Nat.le_refl _))).set 0 (.slice A' (n + 1) c')
    simpa using this

/-- What it answers. -/
def thBad (k m N : Nat) (ss : Rws) : Bool := decide (N ≠ k + m) || (thU ss N).any (oddB ss (thU ss N))
def ThE (w : World) (k m N : Nat) (ss : Rws) (e : Ending) (w' : World) : Prop := Below w.heap.size w w' ∧
  ((thBad k m N ss = true ∧ e = .returned (.tuple #[.slice none 0 0, .int .i64 2])) ∨
   (thBad k m N ss = false ∧ (thU ss N).length < k ∧ e = .returned (.tuple #[.slice none 0 0, .int .i64 60])) ∨
   (thBad k m N ss = false ∧ ¬ (thU ss N).length < k ∧ ∃ A c, e = .returned (.tuple #[.slice A (thU ss N).length c, .int .i64 0]) ∧ (thU ss N).length ≤ c ∧ RdL NatR 1 (fun j => w.heap.size ≤ j) w' A (thU ss N).length (thU ss N)))
set_option maxRecDepth 100000 in
set_option maxHeartbeats 8000000 in
theorem there_any {w : World} {cb b k m N cs : Nat} {As : Option Addr} {S : Nat → Prop} {ss : Rws} (H : CodAt w cb b k m) (R : RdL RowR 1 S w As N ss) (hN : N ≤ 1000) :
    Calls Tryz.prog 172 #[.pointer (some ⟨cb, 0, none⟩), .slice As N cs] w fun e w' => ThE w k m N ss e w' := by
  have HC := Lib.hid H
  have HR := Lib.hid R
  have hl := R.1
  have hk1 := H.k1
  have hm1 := H.m1
  have hkm := H.km
  have q0 : (N : Int) ≤ 1000 := by omega
  have q1 : ((k + m : Nat) : Int) ≠ 0 := by omega
  have q2 : (((k + m : Nat) : Int) == 0) = false := by simp; omega
  have q3 : (((k : Int) + (m : Int)) == 0) = false := by simp; omega
  have hNc := fun w' h => cn_any (w := w') (HC.out.below h)
  have hKc := fun w' h => ck_any (w := w') (HC.out.below h)
  clear H R
  go_enter Tryz.func172, Tryz.ntmps172
  go_wp2_with fail
  have hbs := BoxAt.new w #[.slice As N cs] 151
  have hb0 : Below w.heap.size w (w.alloc (.cells #[.slice As N cs] 151)) := (Below.refl _ _).alloc (Nat.le_refl _) _
  generalize w.alloc (.cells #[.slice As N cs] 151) = w1 at *
  refine (hNc _ hb0).mono ?_
  rintro e w2 ⟨rfl, hb2⟩
  replace hbs := hbs.below hb2
  replace hb0 := hb0.trans (hb2.mono hb0.size)
  have k0 := hbs.cell 0
  have hsl := hbs.lt
  clear hb2
  go_wp2_with fail
  have hi0 : ThI w (w2.alloc (.cells #[.slice none 0 0] 26)) w.heap.size w2.heap.size (.slice As N cs) 0 none 0 (thU ss 0) :=
    ⟨OwnL.nil_, BoxAt.new _ _ _, hbs.alloc _, hsl, Nat.le_refl _, hb0.alloc (by omega) _⟩
  obtain ⟨q, hq⟩ : ∃ q, w2.heap.size = q := ⟨_, rfl⟩
  rw [hq] at hi0 ⊢
  have HI0 := Lib.hid hi0
  clear hi0 hq hsl hbs hb0 k0
  generalize w2.alloc (.cells #[.slice none 0 0] 26) = w3 at *
  go_loopw [15] (fun vi wr => ∃ (i n : Nat) (A : Option Addr) (c : Nat), i ≤ N ∧ vi = .int .i64 i ∧ Hid (ThI w wr w.heap.size q (.slice As N cs) n A c (thU ss i)) ∧ Hid (n = (thU ss i).length)) (fun vi _ => N - (intOf vi).toNat)
  case atStart => exact ⟨0, 0, none, 0, Nat.zero_le _, rfl, HI0, Lib.hid rfl⟩
  case round =>
    clear HI0
    obtain ⟨i, n, A, c, hi, rfl, HI, HL⟩ := hrel
    have p0 : (0 : Int) ≤ (i : Int) := Int.natCast_nonneg _
    by_cases hlt : i < N
    · have p1 : (i : Int) < (N : Int) := by omega
      obtain ⟨bb, o, rfl, _, hbb⟩ := HR.out.addr hlt
      obtain ⟨A1, m1, c1, v1, _, r1⟩ := row_at HR.out hlt
      have c1' := (HI.out.bel.cell (p := ⟨bb, o + i, none⟩) hbb).trans v1
      have hm1' : lenF ss i = m1 := r1.1
      clear r1 v1
      by_cases hpos : 0 < m1
      · have p2 : (m1 : Int) > 0 := by omega
        have hth := thU_yes (ss := ss) (i := i) (by omega)
        have kq := HI.out.bq.cell 0
        have fq := HI.out.bq.frozen 0
        have hnl := thU_len ss i
        have hnn : n ≤ 1000 := by have := HL.out; omega
        have HT := Lib.hid hth
        clear hth
        go_wp2_with (at_builtin; go_must (refine wpList_push1 NatR.stable NatR.one sl_in (by rfl) (by rfl) (base := q + 1) (S := fun _ => True) (cs := #[.int .i64 (i : Int)]) (y := i) (by rfl) (by rfl) HI.out.own (by rfl) (show NatR _ _ [.int .i64 (i : Int)] i from rfl) (by unfold maxLen; omega) (by omega) HI.out.bq.lt ?_); intro A8 c8 ug hc8 own9 hlt8 hb8 hat8; have B9 := HI.out.bq.grw ug.ok (fun e => by have := (HI.out.own.lt _ e.symm).1; omega); have c9 := B9.cell 0; have f9 := B9.frozen 0; have hp9 := HI.out.pushed ug own9 hb8; rw [← HT.out] at hp9; have HP9 := Lib.hid hp9; clear own9 hb8 hlt8 hat8 B9 hp9)
        exact ⟨⟨i + 1, n + 1, A8, c8, by omega, by go_num, HP9, Lib.hid (by rw [HT.out, List.length_append, ← HL.out]; rfl)⟩, by simp [intOf]; omega⟩
      · have p2 : ¬ (m1 : Int) > 0 := by omega
        have hth := thU_no (ss := ss) (i := i) (by omega)
        rw [← hth] at HI HL
        clear hth
        go_wp2_with fail
        exact ⟨⟨i + 1, n, A, c, by omega, by go_num, HI, HL⟩, by simp [intOf]; omega⟩
    · have p1 : ¬ (i : Int) < (N : Int) := by omega
      obtain rfl : i = N := by omega
      have hD := HI.out.below (w2 := wr.drew) (Below.refl _ _).drew
      have hln := HL.out
      subst hln
      obtain ⟨A', c', e1, hc', hr'⟩ := hD.own.rd (S' := fun j => w.heap.size ≤ j) (fun j hj => by have := hD.sq; have := hD.hs; omega) (fun cs x hx => hx)
      injection e1 with e1 _ e2
      subst e1; subst e2
      have HRL := Lib.hid hr'
      have HD := Lib.hid hD
      have hul := thU_len ss i
      have s1 : wr.drew.cell? ⟨w.heap.size, 0, none⟩ = some (.slice As i cs) ∧ wr.drew.cell? ⟨q, 0, none⟩ = some (.slice A (thU ss i).length c) := ⟨hD.bs.cell 0, hD.bq.cell 0⟩
      have hN1 := hNc wr.drew hD.bel
      have lsb := hD.bs.lt
      have lqb := hD.bq.lt
      clear hr' hD
      by_cases hNk : i = k + m
      · have e1 : ((i : Int) != ((k + m : Nat) : Int)) = false := by rw [hNk]; simp
        have e2 : ((i : Int) != ((k : Int) + (m : Int))) = false := by rw [hNk]; simp
        have hbad : thBad k m i ss = (thU ss i).any (oddB ss (thU ss i)) := by unfold thBad; rw [decide_eq_false (by omega), Bool.false_or]
        have HBAD := Lib.hid hbad
        have HNK := Lib.hid hNk
        clear hbad hNk
        go_wp2_with fail
        refine wp_region_held_drew (S := fun w' => w'.cell? ⟨w.heap.size, 0, none⟩ = some (.slice As i cs) ∧ w'.cell? ⟨q, 0, none⟩ = some (.slice A (thU ss i).length c)) (by kernel_rfl) (by first | exact s1 | exact s2 | exact s3) (fun hHeld => ?_)
        refine tkH 0 rfl ?_
        refine tkH 1 rfl ?_
        refine tkH 2 rfl ?_
        refine rdH 3 rfl fun K hK => ?_
        try simp (maxSteps := 2000000) only [zz1, zz2, zz3]
        go_simp
        go_at_call 57
        refine hN1.mono ?_
        rintro e w5 ⟨rfl, hb5⟩
        have hs5 := hb5.size
        have s2 : w5.cell? ⟨w.heap.size, 0, none⟩ = some (.slice As i cs) ∧ w5.cell? ⟨q, 0, none⟩ = some (.slice A (thU ss i).length c) := ⟨(hb5.cell (p := ⟨w.heap.size, 0, none⟩) lsb).trans s1.1, (hb5.cell (p := ⟨q, 0, none⟩) lqb).trans s1.2⟩
        have hD5 := HD.out.below hb5
        have hr5 := HRL.out.below NatR.stable hb5
        have hcon := contains_any (c := c) (cap := #[.pointer (some ⟨w.heap.size, 0, none⟩), .pointer (some ⟨q, 0, none⟩)]) (f := oddB ss (thU ss i)) hr5 (by omega) (Lib.hid call_odd) (Lib.hid fun j W hj hW => odd_any (hD5.bs.below hW) (hD5.bq.below hW) (HR.out.below RowR.stable (hD5.bel.trans (hW.mono hD5.bel.size))) (hr5.below NatR.stable hW) (by omega) (fun u hu => (thU_mem hu).1) (thU_mem (gt_mem hj)).1)
        have HD5 := Lib.hid hD5
        have HR5 := Lib.hid hr5
        clear hN1 hb5 hr5
        try (go_wp2_with fail)
        refine hK.out _ _ (by first | exact s1 | exact s2 | exact s3) (fun hHeld => ?_)
        clear hK K
        try simp (maxSteps := 2000000) only [zz1, zz2, zz3, Act.put, zz4, zz5, zz6]
        refine tkH 4 rfl ?_
        refine tkH 5 rfl ?_
        refine tkH 6 rfl ?_
        refine tkH 7 rfl ?_
        refine rdH 8 rfl fun K hK => ?_
        try simp (maxSteps := 2000000) only [zz1, zz2, zz3]
        go_simp
        go_at_call 206
        refine hcon.mono ?_
        rintro e w6 ⟨rfl, hb6⟩
        have s3 : w6.cell? ⟨w.heap.size, 0, none⟩ = some (.slice As i cs) ∧ w6.cell? ⟨q, 0, none⟩ = some (.slice A (thU ss i).length c) := ⟨(hb6.cell (p := ⟨w.heap.size, 0, none⟩) hD5.bs.lt).trans s2.1, (hb6.cell (p := ⟨q, 0, none⟩) hD5.bq.lt).trans s2.2⟩
        have HD6 := Lib.hid (hD5.below hb6)
        have HR6 := Lib.hid (HR5.out.below NatR.stable hb6)
        rw [← HBAD.out]
        clear hcon hb6 hD5
        try (go_wp2_with fail)
        refine hK.out _ _ (by first | exact s1 | exact s2 | exact s3) (fun hHeld => ?_)
        clear hK K
        try simp (maxSteps := 2000000) only [zz1, zz2, zz3, Act.put, zz4, zz5, zz6]
        refine tkH 9 rfl ?_
        refine tkH 10 rfl ?_
        refine wpAnyH_done (by kernel_rfl) ?_ _
        obtain ⟨B, hB⟩ : ∃ B, B = thBad k m i ss := ⟨_, rfl⟩
        rw [← hB]
        have HBB := Lib.hid hB
        clear hB s1 s2
        cases B with
        | true =>
          go_wp2_with fail
          go_ret2
          exact ⟨HD6.out.bel, .inl ⟨HBB.out.symm, rfl⟩⟩
        | false =>
          have hD7 := HD6.out.below (w2 := w6.drew) (Below.refl _ _).drew
          have s4 : w6.drew.cell? ⟨q, 0, none⟩ = some (.slice A (thU ss i).length c) := hD7.bq.cell 0
          have hK1 := hKc w6.drew hD7.bel
          by_cases hfew : (thU ss i).length < k
          · have p5 : ((thU ss i).length : Int) < (k : Int) := by omega
            go_wp2_with fail
            refine wp_region_held_drew (S := fun w' => w'.cell? ⟨q, 0, none⟩ = some (.slice A (thU ss i).length c)) (by kernel_rfl) (by first | exact s4) (fun hHeld => ?_)
            refine tkH 0 rfl ?_
            refine tkH 1 rfl ?_
            refine tkH 2 rfl ?_
            refine rdH 3 rfl fun K hK => ?_
            try simp (maxSteps := 2000000) only [zz1, zz2, zz3]
            go_simp
            go_at_call 88
            refine hK1.mono ?_
            rintro e w9 ⟨rfl, hw9⟩
            rw [hw9]
            clear hw9 hK1
            try (go_wp2_with fail)
            refine hK.out _ _ (by first | exact s4) (fun hHeld => ?_)
            clear hK K
            try simp (maxSteps := 2000000) only [zz1, zz2, zz3, Act.put, zz4, zz5, zz6]
            refine tkH 4 rfl ?_
            refine tkH 5 rfl ?_
            refine wpAnyH_done (by kernel_rfl) ?_ _
            go_wp2_with fail
            go_ret2
            exact ⟨hD7.bel, .inr (.inl ⟨HBB.out.symm, hfew, rfl⟩)⟩
          · have p5 : ¬ ((thU ss i).length : Int) < (k : Int) := by omega
            go_wp2_with fail
            refine wp_region_held_drew (S := fun w' => w'.cell? ⟨q, 0, none⟩ = some (.slice A (thU ss i).length c)) (by kernel_rfl) (by first | exact s4) (fun hHeld => ?_)
            refine tkH 0 rfl ?_
            refine tkH 1 rfl ?_
            refine tkH 2 rfl ?_
            refine rdH 3 rfl fun K hK => ?_
            try simp (maxSteps := 2000000) only [zz1, zz2, zz3]
            go_simp
            go_at_call 88
            refine hK1.mono ?_
            rintro e w9 ⟨rfl, hw9⟩
            rw [hw9]
            clear hw9 hK1
            try (go_wp2_with fail)
            refine hK.out _ _ (by first | exact s4) (fun hHeld => ?_)
            clear hK K
            try simp (maxSteps := 2000000) only [zz1, zz2, zz3, Act.put, zz4, zz5, zz6]
            refine tkH 4 rfl ?_
            refine tkH 5 rfl ?_
            refine wpAnyH_done (by kernel_rfl) ?_ _
            go_wp2_with fail
            go_ret2
            exact ⟨hD7.bel, .inr (.inr ⟨HBB.out.symm, hfew, A, c, rfl, hc', HR6.out.below NatR.stable (Below.refl _ _).drew⟩)⟩
      · have e1 : ((i : Int) != ((k + m : Nat) : Int)) = true := by simp; omega
        have e2 : ((i : Int) != ((k : Int) + (m : Int))) = true := by simp; omega
        have hbad : thBad k m i ss = true := by unfold thBad; rw [decide_eq_true (by omega), Bool.true_or]
        have HBAD := Lib.hid hbad
        clear hbad hNk
        go_wp2_with fail
        refine wp_region_held_drew (S := fun w' => w'.cell? ⟨w.heap.size, 0, none⟩ = some (.slice As i cs)) (by kernel_rfl) (by first | exact s1.1 | exact s2) (fun hHeld => ?_)
        refine tkH 0 rfl ?_
        refine tkH 1 rfl ?_
        refine tkH 2 rfl ?_
        refine rdH 3 rfl fun K hK => ?_
        try simp (maxSteps := 2000000) only [zz1, zz2, zz3]
        go_simp
        go_at_call 57
        refine hN1.mono ?_
        rintro e w5 ⟨rfl, hb5⟩
        have s2 : w5.cell? ⟨w.heap.size, 0, none⟩ = some (.slice As i cs) := (hb5.cell (p := ⟨w.heap.size, 0, none⟩) lsb).trans s1.1
        have HD5 := Lib.hid (HD.out.below hb5)
        clear hN1 hb5
        try (go_wp2_with fail)
        refine hK.out _ _ (by first | exact s1.1 | exact s2) (fun hHeld => ?_)
        clear hK K
        try simp (maxSteps := 2000000) only [zz1, zz2, zz3, Act.put, zz4, zz5, zz6]
        refine tkH 4 rfl ?_
        refine tkH 5 rfl ?_
        refine skH 6 rfl ?_
        refine skH 7 rfl ?_
        refine skH 8 rfl ?_
        refine tkH 9 rfl ?_
        refine tkH 10 rfl ?_
        refine wpAnyH_done (by kernel_rfl) ?_ _
        go_wp2_with fail
        go_ret2
        exact ⟨HD5.out.bel, .inl ⟨HBAD.out, rfl⟩⟩
end
section

structure OutAt (w : World) (base g n : Nat) (rows : Rws) : Prop where
  cur : ∃ cur : Array Value, BoxAt w g cur ∧ n ≤ cur.size ∧ ∀ i, i < n → ∃ A m c, cur[i]? = some (.slice A m c) ∧ m ≤ c ∧ RdL ByR 1 (fun k => base ≤ k ∧ k ≠ g) w A m (ra rows i)
  len : rows.length = n
  hg : base ≤ g
section
variable {w w' : World} {base g n : Nat} {rows : Rws}
theorem OutAt.below (h : OutAt w base g n rows) (hb : Below w.heap.size w w') : OutAt w' base g n rows := by
  obtain ⟨cur, h1, h2, h3⟩ := h.cur
  refine ⟨⟨cur, h1.below hb, h2, fun i hi => ?_⟩, h.len, h.hg⟩
  obtain ⟨A, m, c, e1, e2, e3⟩ := h3 i hi
  exact ⟨A, m, c, e1, e2, e3.below ByR.stable hb⟩
theorem OutAt.lt (h : OutAt w base g n rows) : g < w.heap.size := by
  obtain ⟨cur, h1, _⟩ := h.cur
  exact h1.lt
theorem OutAt.cellx (h : OutAt w base g n rows) {i : Nat} (hi : i < n) : (∃ v, w.cell? ⟨g, i, none⟩ = some v) ∧ w.frozen? ⟨g, i, none⟩ = false := by
  obtain ⟨cur, h1, h2, h3⟩ := h.cur
  obtain ⟨A, m, c, e1, _⟩ := h3 i hi
  exact ⟨⟨_, (h1.cell i).trans e1⟩, h1.frozen i⟩
theorem OutAt.set (h : OutAt w base g n rows) {i m c : Nat} {A : Option Addr} {r : List Nat} (hi : i < n) (hc : m ≤ c) (hr : RdL ByR 1 (fun k => base ≤ k ∧ k ≠ g) w A m r) :
    OutAt (w.setCell ⟨g, i, none⟩ (.slice A m c)) base g n (rows.set i r) := by
  obtain ⟨cur, h1, h2, h3⟩ := h.cur
  refine ⟨⟨_, h1.set i _, by rw [Array.size_setIfInBounds]; exact h2, fun k hk => ?_⟩, by rw [List.length_set, h.len], h.hg⟩
  rw [ra_set _ _ _ (by rw [h.len]; exact hk)]
  by_cases e : k = i
  · subst e
    rw [if_pos rfl, set_eq (by omega)]
    exact ⟨A, m, c, rfl, hc, hr.setCell ByR.stable (fun h => h.2 rfl) _⟩
  · rw [if_neg e, set_ne (fun h => e h.symm)]
    obtain ⟨A1, m1, c1, e1, e2, e3⟩ := h3 k hk
    exact ⟨A1, m1, c1, e1, e2, e3.setCell ByR.stable (fun h => h.2 rfl) _⟩
theorem OutAt.rd (h : OutAt w base g n rows) : RdL RowR 1 (fun k => base ≤ k) w (some ⟨g, 0, none⟩) n rows := by
  obtain ⟨cur, h1, h2, h3⟩ := h.cur
  refine ⟨h.len, fun _ => ⟨g, 0, rfl, h.hg, h1.lt, fun i x hx => ?_⟩⟩
  have hi : i < n := by rw [← h.len]; exact (List.getElem?_eq_some_iff.1 hx).1
  obtain ⟨A, m, c, e1, e2, e3⟩ := h3 i hi
  rw [ra_some hx] at e3
  refine ⟨[.slice A m c], rfl, ⟨A, m, c, rfl, e2, e3.weaken ByR.stable fun k hk => hk.1⟩, fun j v hj => ?_⟩
  rcases j with _ | j
  · simp at hj; subst hj
    rw [show 0 + i * 1 + 0 = i by omega]
    exact (h1.cell i).trans e1
  · simp at hj
theorem OutAt.made (w : World) (n : Nat) (t : TypeId) : OutAt (w.alloc (.cells (Array.replicate n (.slice none 0 0)) t)) w.heap.size w.heap.size n (List.replicate n []) := by
  refine ⟨⟨_, BoxAt.new _ _ _, by simp, fun i hi => ⟨none, 0, 0, by rw [Array.getElem?_replicate, if_pos hi], Nat.le_refl _, ?_⟩⟩, by simp, Nat.le_refl _⟩
  rw [ra_some (show (List.replicate n ([] : List Nat))[i]? = some [] by rw [List.getElem?_replicate, if_pos hi])]
  exact RdL.nil
end
theorem rowsInfo : (Tryz.prog.info? 68).map (fun i => (i.zero, i.size, i.bytes)) = some (some (.slice none 0 0), 1, 24) := by kernel_rfl
theorem makeRows (k : Nat) (hk : k ≤ 1000000) (w : World) : (Instr.makeSlice 151 (.int .i64 (k : Int)) (.int .i64 (k : Int))).run Tryz.prog w = .ok (.slice (some ⟨w.heap.size, 0, none⟩) k k) (w.alloc (.cells (Array.replicate k (.slice none 0 0)) 68)) := by
  obtain ⟨i, hi, hz, hs, hb⟩ := info_parts rowsInfo
  have h := run_make (P := Tryz.prog) w 151 68 i (.slice none 0 0) (by kernel_rfl) hi hz .i64 .i64 k k (by omega) (by omega) (by rw [hb]; omega) (by omega)
  simp only [Int.toNat_natCast, hs, Nat.mul_one] at h
  rw [h, show (Value.slice none 0 0).cells = #[.slice none 0 0] from rfl, madeCells_r]

def fillOne (k : Nat) (us : List Nat) (ss : Rws) (n i : Nat) : List Nat := if 0 < lenF ss i then ra ss i else madeF (planF k us i) us ss n
def fillU (k : Nat) (us : List Nat) (ss : Rws) (n nr i : Nat) : Rws := (List.range i).map (fillOne k us ss n) ++ List.replicate (nr - i) []
theorem fillU_next {k : Nat} {us : List Nat} {ss : Rws} {n nr i : Nat} (h : i < nr) : (fillU k us ss n nr i).set i (fillOne k us ss n i) = fillU k us ss n nr (i + 1) := by
  unfold fillU
  rw [List.set_append_right _ _ (by simp), List.range_succ, List.map_append, List.append_assoc]
  congr 1
  obtain ⟨d, hd⟩ : ∃ d, nr - i = d + 1 := ⟨nr - i - 1, by omega⟩
  rw [hd, show nr - (i + 1) = d by omega, List.replicate_succ]
  simp
def useT (k N : Nat) (ss : Rws) : List Nat := (thU ss N).take k
def outF (k N nr : Nat) (ss : Rws) : Rws := (List.range nr).map (fillOne k (useT k N ss) ss (lenF ss (gt (useT k N ss) 0)))
def FilE (w : World) (k m N nr : Nat) (ss : Rws) (e : Ending) (w' : World) : Prop := Below w.heap.size w w' ∧
  ((thBad k m N ss = true ∧ e = .returned (.tuple #[.slice none 0 0, .int .i64 2])) ∨
   (thBad k m N ss = false ∧ (thU ss N).length < k ∧ e = .returned (.tuple #[.slice none 0 0, .int .i64 60])) ∨
   (thBad k m N ss = false ∧ ¬ (thU ss N).length < k ∧ ∃ g, e = .returned (.tuple #[.slice (some ⟨g, 0, none⟩) nr nr, .int .i64 0]) ∧ RdL RowR 1 (fun j => w.heap.size ≤ j) w' (some ⟨g, 0, none⟩) nr (outF k N nr ss)))
theorem use_ok {k m N : Nat} {ss : Rws} (hb : thBad k m N ss = false) (hf : ¬ (thU ss N).length < k) (hk : 1 ≤ k) : N = k + m ∧ (useT k N ss).length = k ∧ ∀ u ∈ useT k N ss, u < N ∧ lenF ss u = lenF ss (gt (useT k N ss) 0) := by
  unfold thBad at hb
  rw [Bool.or_eq_false_iff] at hb
  obtain ⟨h1, h2⟩ := hb
  have hul : (useT k N ss).length = k := by unfold useT; rw [List.length_take]; omega
  refine ⟨by simpa using h1, hul, fun u hu => ?_⟩
  have hum : u ∈ thU ss N := List.mem_of_mem_take hu
  refine ⟨(thU_mem hum).1, ?_⟩
  have h3 := List.any_eq_false.1 h2 u hum
  have h4 : gt (useT k N ss) 0 = gt (thU ss N) 0 := by
    unfold useT gt
    rw [List.getD_eq_getElem?_getD, List.getD_eq_getElem?_getD, List.getElem?_take, if_pos (by omega)]
  rw [h4]
  unfold oddB at h3
  simpa using h3
set_option maxRecDepth 100000 in
set_option maxHeartbeats 8000000 in
theorem fill2_any {w : World} {cb b k m N nr cs : Nat} {As : Option Addr} {S : Nat → Prop} {ss : Rws} (H : CodAt w cb b k m) (R : RdL RowR 1 S w As N ss) (hN : N ≤ 1000) (hlen : ∀ i, lenF ss i ≤ 1000000) {g : FuncId} {pre : Array Value} (hnr : nr ≤ k + m)
    (hg : Hid (∀ args w, (callFunc g args).run Tryz.prog w = .ok (.enter g args) w)) (hst : Hid (∀ W, Below w.heap.size w W → Calls Tryz.prog g pre W fun e W' => e = .returned (.int .i64 (nr : Int)) ∧ Below W.heap.size W W'))
    (hI : Hid (thBad k m N ss = false → ¬ (thU ss N).length < k → Inj k (useF k (useT k N ss)))) :
    Calls Tryz.prog 141 #[.pointer (some ⟨cb, 0, none⟩), .slice As N cs, .func (.func g) pre #[]] w fun e w' => FilE w k m N nr ss e w' := by
  have hgg := hg.out
  have HC := Lib.hid H
  have HR := Lib.hid R
  have hk1 := H.k1
  have hm1 := H.m1
  have hkm := H.km
  have q0 : (N : Int) ≤ 1000 := by omega
  have q1 : (nr : Int) ≤ 255 := by omega
  have q2 : (0 : Int) ≤ (nr : Int) := Int.natCast_nonneg _
  have hth := there_any (cs := cs) H R hN
  clear H R
  go_enter Tryz.func141, Tryz.ntmps141
  go_wp2_with fail
  refine hth.mono ?_
  rintro e w1 ⟨hb1, h | h | h⟩
  · obtain ⟨hB, rfl⟩ := h
    have HB := Lib.hid hB
    clear hB hth
    go_wp2_with fail
    go_ret2
    exact ⟨hb1, .inl ⟨HB.out, rfl⟩⟩
  · obtain ⟨hB, hF, rfl⟩ := h
    have HB := Lib.hid hB
    have HF := Lib.hid hF
    clear hB hF hth
    go_wp2_with fail
    go_ret2
    exact ⟨hb1, .inr (.inl ⟨HB.out, HF.out, rfl⟩)⟩
  · obtain ⟨hB, hF, A, c, rfl, hc, hr⟩ := h
    have hinj := hI.out hB hF
    obtain ⟨hNk, hul, huse⟩ := use_ok hB hF hk1
    have HB0 := Lib.hid hB
    have HF := Lib.hid hF
    have hru : RdL NatR 1 (fun j => w.heap.size ≤ j) w1 A k (useT k N ss) := RdL.take hr (by omega)
    have hp := fun w => piece_pre sl_in (A := A) (N := (thU ss N).length) (c := c) (k := k) (by omega) w
    have hnr2 : nr ≤ N := by omega
    have hNle : N ≤ k + m := by omega
    have HU := Lib.hid huse
    have HRU := Lib.hid hru
    have HIN := Lib.hid hinj
    have HHB := Lib.hid hb1
    clear hB hF hth hr hc hNk hinj huse hru
    have hK1 := ck_any (HC.out.below HHB.out)
    go_wp2_with (go_at_call 88; refine hK1.mono ?_; rintro e w9 ⟨rfl, hw9⟩; rw [hw9]; clear hw9 hK1)
    refine (hst.out _ HHB.out).mono ?_
    rintro e w2 ⟨rfl, hb2⟩
    have hb12 := HHB.out.trans (hb2.mono HHB.out.size)
    have hmk := makeRows nr (by omega) w2
    have ho := OutAt.made w2 nr 68
    have hbz : Below w2.heap.size w2 (w2.alloc (.cells (Array.replicate nr (.slice none 0 0)) 68)) := (Below.refl _ _).alloc (Nat.le_refl _) _
    obtain ⟨w3, hw3⟩ : ∃ w3, w2.alloc (.cells (Array.replicate nr (.slice none 0 0)) 68) = w3 := ⟨_, rfl⟩
    rw [hw3] at hmk ho hbz
    obtain ⟨go, hgo⟩ : ∃ go, w2.heap.size = go := ⟨_, rfl⟩
    rw [hgo] at hmk ho
    have hu0 : fillU k (useT k N ss) ss (lenF ss (gt (useT k N ss) 0)) nr 0 = List.replicate nr [] := by unfold fillU; simp
    rw [← hu0] at ho
    have HO := Lib.hid ho
    have HBw := Lib.hid (hb12.trans (hbz.mono hb12.size))
    have hru3 : RdL NatR 1 (fun j => w.heap.size ≤ j ∧ j ≠ go) w3 A k (useT k N ss) := RdL.stable NatR.stable HRU.out fun b hS hlt => ⟨⟨hS, by have := hb2.size; omega⟩, (hb2.trans (hbz.mono hb2.size)).block b hlt⟩
    have HRU3 := Lib.hid hru3
    have hwg : w.heap.size ≤ go := by have := hb12.size; omega
    clear ho hbz hw3 hgo hu0 hb12 hb2 hru3
    go_wp2_with fail
    clear hmk hp
    go_loopw [33] (fun vi wr => ∃ i : Nat, i ≤ nr ∧ vi = .int .i64 i ∧ Hid (OutAt wr go go nr (fillU k (useT k N ss) ss (lenF ss (gt (useT k N ss) 0)) nr i)) ∧ Hid (Below w.heap.size w wr) ∧ Hid (RdL NatR 1 (fun j => w.heap.size ≤ j ∧ j ≠ go) wr A k (useT k N ss))) (fun vi _ => nr - (intOf vi).toNat)
    case atStart => exact ⟨0, Nat.zero_le _, rfl, HO, HBw, HRU3⟩
    case round =>
      clear HO HBw HRU3
      obtain ⟨i, hi, rfl, HO, HB, HRu⟩ := hrel
      have p0 : (0 : Int) ≤ (i : Int) := Int.natCast_nonneg _
      by_cases hlt : i < nr
      · have p1 : (i : Int) < (nr : Int) := by omega
        have hiN : i < N := by omega
        have p9 : (i : Int) < (N : Int) := by omega
        obtain ⟨bb, o, rfl, _, hbb⟩ := HR.out.addr hiN
        obtain ⟨A1, m1, c1, v1, hmc1, r1⟩ := row_at HR.out hiN
        have c1' := (HB.out.cell (p := ⟨bb, o + i, none⟩) hbb).trans v1
        have hm1' : lenF ss i = m1 := r1.1
        have hml := hlen i
        have hfx := fillU_next (k := k) (us := useT k N ss) (ss := ss) (n := lenF ss (gt (useT k N ss) 0)) hlt
        have HFX := Lib.hid hfx
        by_cases hpos : 0 < m1
        · have p2 : (m1 : Int) > 0 := by omega
          have hone : fillOne k (useT k N ss) ss (lenF ss (gt (useT k N ss) 0)) i = ra ss i := by unfold fillOne; rw [if_pos (by omega)]
          have hcl := cloneB_any (c := c1) (Lib.hid (r1.below ByR.stable HB.out)) (by omega)
          have HONE := Lib.hid hone
          clear hone hfx v1 r1
          go_wp2_with (go_at_call 173; refine hcl.mono ?_; rintro e w5 ⟨A5, c5, rfl, hc5, hr5, hb5⟩; have ho5 := HO.out.below hb5; obtain ⟨⟨v5, hv5⟩, f5⟩ := ho5.cellx hlt; have hs5 := HO.out.lt; have hst5 := ho5.set (i := i) hlt hc5 (hr5.weaken ByR.stable (fun j hj => ⟨(by have h9 : wr.heap.size ≤ j := hj; omega), (by have h9 : wr.heap.size ≤ j := hj; omega)⟩)); rw [← HONE.out, HFX.out] at hst5; have HO5 := Lib.hid hst5; have HB5 := Lib.hid ((HB.out.trans (hb5.mono HB.out.size)).setCell (p := ⟨go, i, none⟩) hwg (.slice A5 m1 c5)); have HR5 := Lib.hid ((HRu.out.below NatR.stable hb5).setCell NatR.stable (p := ⟨go, i, none⟩) (fun h => h.2 rfl) (.slice A5 m1 c5)); clear hcl hr5 hb5 ho5 hst5)
          exact ⟨⟨i + 1, by omega, by go_num, HO5, HB5, HR5⟩, by simp [intOf]; omega⟩
        · have p2 : ¬ (m1 : Int) > 0 := by omega
          have hone : fillOne k (useT k N ss) ss (lenF ss (gt (useT k N ss) 0)) i = madeF (planF k (useT k N ss) i) (useT k N ss) ss (lenF ss (gt (useT k N ss) 0)) := by unfold fillOne; rw [if_neg (by omega)]
          have hpl := plan_any (c := c) (HC.out.below HB.out) HRu.out (fun u hu => by have := (HU.out u hu).1; omega) HIN.out (want := i) (by omega)
          have HONE := Lib.hid hone
          have hnl := hlen (gt (useT k N ss) 0)
          clear hone hfx v1 r1
          go_wp2_with fail
          refine hpl.mono ?_
          rintro e w5 ⟨A5, c5, rfl, hc5, hr5, hb5⟩
          have hb05 := HB.out.trans (hb5.mono HB.out.size)
          have hma := made_any (cs := cs) (cu := c) (cw := c5) (HC.out.below hb05) (HR.out.below RowR.stable hb05) (HRu.out.below NatR.stable hb5) hr5 (n := lenF ss (gt (useT k N ss) 0)) (fun u hu => ⟨(HU.out u hu).1, (HU.out u hu).2⟩) hnl
          have ho5 := HO.out.below hb5
          have hs5 := HO.out.lt
          have HO5 := Lib.hid ho5
          have HR5 := Lib.hid (HRu.out.below NatR.stable hb5)
          have HB5 := Lib.hid hb05
          have hsz5 := hb5.size
          clear hpl hr5 hb5 hb05 ho5
          go_wp2_with (go_at_call 175; refine hma.mono ?_; rintro e w6 ⟨A6, c6, rfl, hc6, hr6, hb6⟩; have ho6 := HO5.out.below hb6; obtain ⟨⟨v6, hv6⟩, f6⟩ := ho6.cellx hlt; have hst6 := ho6.set (i := i) hlt hc6 (hr6.weaken ByR.stable (fun j hj => ⟨(by have h9 : w5.heap.size ≤ j := hj; omega), (by have h9 : w5.heap.size ≤ j := hj; omega)⟩)); rw [← HONE.out, HFX.out] at hst6; have HO6 := Lib.hid hst6; have HB6 := Lib.hid ((HB5.out.trans (hb6.mono HB5.out.size)).setCell (p := ⟨go, i, none⟩) hwg (.slice A6 (lenF ss (gt (useT k N ss) 0)) c6)); have HR6 := Lib.hid ((HR5.out.below NatR.stable hb6).setCell NatR.stable (p := ⟨go, i, none⟩) (fun h => h.2 rfl) (.slice A6 (lenF ss (gt (useT k N ss) 0)) c6)); clear hma hr6 hb6 ho6 hst6)
          exact ⟨⟨i + 1, by omega, by go_num, HO6, HB6, HR6⟩, by simp [intOf]; omega⟩
      · have p1 : ¬ (i : Int) < (nr : Int) := by omega
        obtain rfl : i = nr := by omega
        have hen : fillU k (useT k N ss) ss (lenF ss (gt (useT k N ss) 0)) i i = outF k N i ss := by unfold fillU outF; simp
        rw [hen] at HO
        go_wp2_with fail
        go_ret2
        exact ⟨HB.out, .inr (.inr ⟨HB0.out, HF.out, go, rfl, HO.out.rd.weaken RowR.stable (fun j hj => Nat.le_trans hwg hj)⟩)⟩
theorem call_k (args : Array Value) (w : World) : (callFunc 88 args).run Tryz.prog w = .ok (.enter 88 args) w := by go_simp
theorem call_n (args : Array Value) (w : World) : (callFunc 57 args).run Tryz.prog w = .ok (.enter 57 args) w := by go_simp
section
variable {w : World} {cb b k m N cs : Nat} {As : Option Addr} {S : Nat → Prop} {ss : Rws}
theorem ddata_any (H : CodAt w cb b k m) (R : RdL RowR 1 S w As N ss) (hN : N ≤ 1000) (hlen : ∀ i, lenF ss i ≤ 1000000) (hI : Hid (thBad k m N ss = false → ¬ (thU ss N).length < k → Inj k (useF k (useT k N ss)))) :
    Calls Tryz.prog 89 #[.pointer (some ⟨cb, 0, none⟩), .slice As N cs] w fun e w' => FilE w k m N k ss e w' := by
  have hf := fill2_any (cs := cs) (nr := k) H R hN hlen (g := 88) (pre := #[.pointer (some ⟨cb, 0, none⟩)]) (by omega) (Lib.hid call_k)
    (Lib.hid fun W hW => (ck_any (H.below hW)).mono fun e W' h => ⟨h.1, by rw [h.2]; exact Below.refl _ _⟩) hI
  clear H R hlen hI
  go_enter Tryz.func89, Tryz.ntmps89
  go_wp2_with fail
  refine hf.mono ?_
  rintro e w2 ⟨hb, ⟨hB, rfl⟩ | ⟨hB, hF, rfl⟩ | ⟨hB, hF, g, rfl, hr⟩⟩
  · have HB := Lib.hid hB
    clear hB hf
    go_wp2_with fail
    go_ret2
    exact ⟨hb, .inl ⟨HB.out, rfl⟩⟩
  · have HB := Lib.hid hB
    have HF := Lib.hid hF
    clear hB hF hf
    go_wp2_with fail
    go_ret2
    exact ⟨hb, .inr (.inl ⟨HB.out, HF.out, rfl⟩)⟩
  · have HB := Lib.hid hB
    have HF := Lib.hid hF
    have HR := Lib.hid hr
    clear hB hF hf hr
    go_wp2_with fail
    go_ret2
    exact ⟨hb, .inr (.inr ⟨HB.out, HF.out, g, rfl, HR.out⟩)⟩
theorem dall_any (H : CodAt w cb b k m) (R : RdL RowR 1 S w As N ss) (hN : N ≤ 1000) (hlen : ∀ i, lenF ss i ≤ 1000000) (hI : Hid (thBad k m N ss = false → ¬ (thU ss N).length < k → Inj k (useF k (useT k N ss)))) :
    Calls Tryz.prog 135 #[.pointer (some ⟨cb, 0, none⟩), .slice As N cs] w fun e w' => FilE w k m N (k + m) ss e w' := by
  have hf := fill2_any (cs := cs) (nr := k + m) H R hN hlen (g := 57) (pre := #[.pointer (some ⟨cb, 0, none⟩)]) (Nat.le_refl _) (Lib.hid call_n)
    (Lib.hid fun W hW => (cn_any (H.below hW)).mono fun e W' h => h) hI
  clear H R hlen hI
  go_enter Tryz.func135, Tryz.ntmps135
  go_wp2_with fail
  refine hf.mono ?_
  rintro e w2 ⟨hb, ⟨hB, rfl⟩ | ⟨hB, hF, rfl⟩ | ⟨hB, hF, g, rfl, hr⟩⟩
  · have HB := Lib.hid hB
    clear hB hf
    go_wp2_with fail
    go_ret2
    exact ⟨hb, .inl ⟨HB.out, rfl⟩⟩
  · have HB := Lib.hid hB
    have HF := Lib.hid hF
    clear hB hF hf
    go_wp2_with fail
    go_ret2
    exact ⟨hb, .inr (.inl ⟨HB.out, HF.out, rfl⟩)⟩
  · have HB := Lib.hid hB
    have HF := Lib.hid hF
    have HR := Lib.hid hr
    clear hB hF hf hr
    go_wp2_with fail
    go_ret2
    exact ⟨hb, .inr (.inr ⟨HB.out, HF.out, g, rfl, HR.out⟩)⟩
end
end
section

def numOk (n : Nat) (xs : List Int) : Prop := (∀ x ∈ xs, 0 ≤ x ∧ x < n) ∧ xs.Nodup
instance (n : Nat) (xs : List Int) : Decidable (numOk n xs) := inferInstanceAs (Decidable (_ ∧ _))
end
section
end
section

def badP (k m : Nat) (xs : List Int) (want : Int) : Prop := want < 0 ∨ want ≥ ((k + m : Nat) : Int) ∨ ¬ numOk (k + m) xs
instance (k m : Nat) (xs : List Int) (want : Int) : Decidable (badP k m xs want) := inferInstanceAs (Decidable (_ ∨ _))
end
section

theorem fr_append (a : Nat) : ∀ (l l' : List (Nat × Nat)), fr a (l ++ l') = fr a l ^^^ fr a l'
  | [], l' => (Nat.zero_xor _).symm
  | (b, x) :: l, l' => by
    show gm x (inv (a ^^^ b)) ^^^ fr a (l ++ l') = (gm x (inv (a ^^^ b)) ^^^ fr a l) ^^^ fr a l'
    rw [fr_append a l l', Nat.xor_assoc]
theorem fr_range (a : Nat) (x : Nat → Nat) : ∀ n, fr a ((List.range n).map fun b => (b, x b)) = sumx (fun l => gm (x l) (inv (a ^^^ l))) n
  | 0 => rfl
  | n + 1 => by
    rw [List.range_succ, List.map_append, fr_append, fr_range a x n]
    show _ ^^^ (gm (x n) (inv (a ^^^ n)) ^^^ 0) = _
    rw [Nat.xor_zero]; rfl
theorem fr_filter (a : Nat) (x : Nat → Nat) (p : Nat → Bool) : ∀ l : List Nat, (∀ b ∈ l, p b = false → x b = 0) → fr a ((l.filter p).map fun b => (b, x b)) = fr a (l.map fun b => (b, x b))
  | [], _ => rfl
  | b :: l, h => by
    have ih := fr_filter a x p l fun c hc => h c (List.mem_cons_of_mem _ hc)
    cases hp : p b with
    | true => 
      rw [List.filter_cons_of_pos hp]
      show _ ^^^ fr a ((l.filter p).map _) = _ ^^^ fr a (l.map _)
      rw [ih]
    | false =>
      rw [List.filter_cons_of_neg (by rw [hp]; decide), ih]
      show _ = gm (x b) _ ^^^ fr a (l.map _)
      rw [h b (List.mem_cons_self ..) hp, zero_gm, Nat.zero_xor]
theorem inj_use {k m : Nat} {us : List Nat} (hl : us.length = k) (hnd : us.Nodup) (hlt : ∀ u ∈ us, u < k + m) (hkm : k + m ≤ 255) : Inj k (useF k us) := by
  intro x hx hx0 hz
  have hzu : ∀ u ∈ us, sumx (fun l => gm (fac k u l) (x l)) k = 0 := fun u hu => by
    obtain ⟨i, hi, rfl⟩ := List.mem_iff_getElem.1 hu
    have h := hz i (by omega)
    have hr : ra (useF k us) i = rowF k us[i] := ra_some (by unfold useF; rw [List.getElem?_map, List.getElem?_eq_getElem hi]; rfl)
    rw [hr] at h
    rw [← h]
    exact sumx_cong fun l hl => by rw [rowF_gt hl]
  have hdata : ∀ u ∈ us, u < k → x u = 0 := fun u hu huk => by
    have h := hzu u hu
    rw [sumx_one (j := u) huk fun i _ hne => by unfold fac; rw [if_pos huk, if_neg (fun e => hne e.symm), zero_gm]] at h
    unfold fac at h
    rw [if_pos huk, if_pos rfl, gm_one (hx u)] at h
    exact h
  have hrest : ∀ p ∈ ((List.range k).filter fun b => decide (b ∉ us)).map (fun b => (b, x b)), p.2 = 0 := by
    refine cauchy _ (us.filter fun u => decide (k ≤ u)) ?_ (hnd.filter _) ?_ (fun a ha => ?_) (fun p hp => ?_) (fun a ha p hp => ?_) (fun a ha => ?_)
    · rw [List.length_map]
      have h1 := List.length_eq_countP_add_countP (fun u => decide (k ≤ u)) (l := us)
      have h2 := List.length_eq_countP_add_countP (fun b => decide (b ∉ us)) (l := List.range k)
      have h3 : ((List.range k).filter fun b => decide (b ∈ us)).Perm (us.filter fun u => decide (u < k)) := by
        rw [List.perm_ext_iff_of_nodup (List.nodup_range.filter _) (hnd.filter _)]
        intro a
        simp only [List.mem_filter, List.mem_range, decide_eq_true_eq]
        exact ⟨fun h => ⟨h.2, h.1⟩, fun h => ⟨h.2, h.1⟩⟩
      have h4 := h3.length_eq
      rw [← List.countP_eq_length_filter, ← List.countP_eq_length_filter] at h4
      rw [← List.countP_eq_length_filter, ← List.countP_eq_length_filter]
      rw [List.length_range] at h2
      have h5 : (List.range k).countP (fun a => decide ¬(decide (a ∉ us) = true)) = (List.range k).countP (fun b => decide (b ∈ us)) := by
        congr 1; funext a; simp
      have h6 : us.countP (fun a => decide ¬(decide (k ≤ a) = true)) = us.countP (fun u => decide (u < k)) := by
        congr 1; funext a; simp
      omega
    · rw [List.map_map]
      show (List.map (fun b => b) _).Nodup
      rw [List.map_id']
      exact List.nodup_range.filter _
    · have := hlt a (List.mem_filter.1 ha).1
      omega
    · obtain ⟨b, hb, rfl⟩ := List.mem_map.1 hp
      have := List.mem_range.1 (List.mem_filter.1 hb).1
      exact ⟨by show b < 256; omega, hx b⟩
    · obtain ⟨b, hb, rfl⟩ := List.mem_map.1 hp
      have h1 := List.mem_range.1 (List.mem_filter.1 hb).1
      have h2 : k ≤ a := by simpa using (List.mem_filter.1 ha).2
      show a ≠ b
      omega
    · have hau := (List.mem_filter.1 ha).1
      have h2 : k ≤ a := by simpa using (List.mem_filter.1 ha).2
      rw [fr_filter a x _ _ (fun b hb h => hdata b (by simpa using h) (List.mem_range.1 hb)), fr_range]
      rw [← hzu a hau]
      refine sumx_cong fun l hl => ?_
      unfold fac
      rw [if_neg (by omega), dv_one, gm_comm]
  intro l
  by_cases hlk : l < k
  · by_cases hm : l ∈ us
    · exact hdata l hm hlk
    · exact hrest (l, x l) (List.mem_map.2 ⟨l, List.mem_filter.2 ⟨List.mem_range.2 hlk, by simpa using hm⟩, rfl⟩)
  · exact hx0 l (by omega)
theorem inj_useT {k m N : Nat} {ss : Rws} (hb : thBad k m N ss = false) (hf : ¬ (thU ss N).length < k) (hk : 1 ≤ k) (hkm : k + m ≤ 255) : Inj k (useF k (useT k N ss)) := by
  obtain ⟨h1, h2, h3⟩ := use_ok hb hf hk
  refine inj_use h2 ?_ (fun u hu => by have := (h3 u hu).1; omega) hkm
  unfold useT thU
  exact (List.take_sublist _ _).nodup (List.nodup_range.filter _)
end
section

def evB (ss : Rws) : Bool := ss.all fun r => decide (r.length = (ra ss 0).length)
set_option maxRecDepth 100000 in
set_option maxHeartbeats 4000000 in
theorem even_any {w : World} {A : Option Addr} {N c : Nat} {S : Nat → Prop} {ss : Rws} (R : RdL RowR 1 S w A N ss) (hN : N ≤ 1000) :
    Calls Tryz.prog 176 #[.slice A N c] w fun e w' => e = .returned (.bool (evB ss)) ∧ w' = w := by
  have HR := Lib.hid R
  have hl := R.1
  have q0 : (N : Int) ≤ 1000 := by omega
  clear R
  go_enter Tryz.func176, Tryz.ntmps176
  go_wp2_with fail
  go_loopw [7] (fun vi wr => ∃ i : Nat, i ≤ N ∧ vi = .int .i64 i ∧ wr = w ∧ Hid (∀ j, j < i → (ra ss j).length = (ra ss 0).length)) (fun vi _ => N - (intOf vi).toNat)
  case atStart => exact ⟨0, Nat.zero_le _, rfl, rfl, Lib.hid fun j hj => absurd hj (Nat.not_lt_zero _)⟩
  case round =>
    obtain ⟨i, hi, rfl, hwr, HX⟩ := hrel
    rw [hwr]
    clear hwr
    have p0 : (0 : Int) ≤ (i : Int) := Int.natCast_nonneg _
    by_cases hlt : i < N
    · have p1 : (i : Int) < (N : Int) := by omega
      have p2 : (0 : Int) < (N : Int) := by omega
      obtain ⟨b, o, rfl, _, hb⟩ := HR.out.addr hlt
      obtain ⟨A1, m1, c1, v1, _, r1⟩ := row_at HR.out hlt
      obtain ⟨A0, m0, c0, v0, _, r0⟩ := row_at HR.out (k := 0) (by omega)
      rw [Nat.add_zero] at v0
      have e1 := r1.1
      have e0 := r0.1
      clear r1 r0
      by_cases h : m1 = m0
      · have e2 : ((m1 : Int) != (m0 : Int)) = false := by rw [h]; simp
        have HX2 : Hid (∀ j, j < i + 1 → (ra ss j).length = (ra ss 0).length) := Lib.hid fun j hj => by
          by_cases hji : j = i
          · rw [hji, e1, e0, h]
          · exact HX.out j (by omega)
        clear h e1 e0
        go_wp2_with fail
        exact ⟨⟨i + 1, by omega, by go_num, trivial, HX2⟩, by simp [intOf]; omega⟩
      · have e2 : ((m1 : Int) != (m0 : Int)) = true := by simp; omega
        have hE : evB ss = false := by
          unfold evB
          rw [List.all_eq_false]
          exact ⟨ra ss i, ra_mem (by omega), by simp; omega⟩
        have HE := Lib.hid hE
        clear hE h e1 e0
        go_wp2_with fail
        go_ret
        exact ⟨by rw [HE.out]; rfl, rfl⟩
    · have p1 : ¬ (i : Int) < (N : Int) := by omega
      have hE : evB ss = true := by
        unfold evB
        rw [List.all_eq_true]
        intro r hr
        obtain ⟨j, hj, rfl⟩ := List.mem_iff_getElem.1 hr
        have := HX.out j (by omega)
        rw [ra_some (List.getElem?_eq_getElem hj)] at this
        simpa using this
      have HE := Lib.hid hE
      clear hE
      go_wp2_with fail
      go_ret
      exact ⟨by rw [HE.out]; rfl, rfl⟩
theorem right2_any {w : World} {cb b k m N c : Nat} {A : Option Addr} {S : Nat → Prop} {ss : Rws} (H : CodAt w cb b k m) (R : RdL RowR 1 S w A N ss) (hN : N ≤ 1000) :
    Calls Tryz.prog 142 #[.pointer (some ⟨cb, 0, none⟩), .slice A N c] w fun e w' => e = .returned (.bool (decide (N = k) && evB ss)) ∧ w' = w := by
  obtain ⟨A1, c1, h1, _⟩ := H.box
  have k0 := h1.cell 0
  have hE := even_any (c := c) R hN
  clear h1 H
  go_enter Tryz.func142, Tryz.ntmps142
  by_cases h : N = k
  · have e1 : ((N : Int) == (k : Int)) = true := by rw [h]; simp
    have e2 : (decide (N = k) && evB ss) = evB ss := by rw [decide_eq_true h, Bool.true_and]
    rw [e2]
    clear h e2
    go_wp2_with (go_at_call 176; refine hE.mono ?_; rintro e w9 ⟨rfl, hw9⟩; rw [hw9]; clear hw9)
    go_ret
    exact ⟨rfl, rfl⟩
  · have e1 : ((N : Int) == (k : Int)) = false := by simp; omega
    have e2 : (decide (N = k) && evB ss) = false := by rw [decide_eq_false h, Bool.false_and]
    rw [e2]
    clear h e2 hE
    go_wp2_with fail
    go_ret
    exact ⟨rfl, rfl⟩
theorem of_any {w : World} {A : Option Addr} {n c j : Nat} {S : Nat → Prop} {l : List Nat} (R : RdL ByR 1 S w A n l) (hj : j < n) :
    Calls Tryz.prog 179 #[.slice A n c, .int .i64 (j : Int)] w fun e w' => e = .returned (.int .u8 (gt l j : Int)) ∧ w' = w := by
  obtain ⟨b, o, rfl, _, _⟩ := R.addr hj
  obtain ⟨v1, _⟩ := by_at R hj
  have q1 : (j : Int) < (n : Int) := by omega
  have q2 : (0 : Int) ≤ (j : Int) := Int.natCast_nonneg _
  clear R
  go_enter Tryz.func179, Tryz.ntmps179
  go_wp2_with fail
  go_ret
  exact ⟨rfl, rfl⟩
set_option maxRecDepth 100000 in
set_option maxHeartbeats 4000000 in
theorem sum_any {w : World} {cb b k m n cs cl : Nat} {As Al : Option Addr} {S1 S2 : Nat → Prop} {ss : Rws} {l : List Nat} (H : CodAt w cb b k m) (R1 : RdL RowR 1 S1 w As k ss) (R2 : RdL ByR 1 S2 w Al k l)
    (hev : ∀ r ∈ ss, r.length = n) (hn : n ≤ 1000000) :
    Calls Tryz.prog 178 #[.pointer (some ⟨cb, 0, none⟩), .slice As k cs, .func (.func 179) #[.slice Al k cl] #[]] w fun e w' => ∃ A' c', e = .returned (.slice A' n c') ∧ n ≤ c' ∧ RdL ByR 1 (fun j => w.heap.size ≤ j) w' A' n (combF l ss (List.replicate n 0)) ∧ Below w.heap.size w w' := by
  have HC := Lib.hid H
  have H1 := Lib.hid R1
  have H2 := Lib.hid R2
  have hk1 := H.k1
  have hkm := H.km
  have hsl := R1.1
  have hll := R2.1
  have q0 : (k : Int) ≤ 255 := by omega
  have q1 : (0 : Int) < (k : Int) := by omega
  have hrow : ∀ u, u < k → ∃ bb o, As = some ⟨bb, o, none⟩ ∧ bb < w.heap.size ∧ ∃ A c, w.cell? ⟨bb, o + u, none⟩ = some (.slice A n c) ∧ n ≤ c ∧ RdL ByR 1 S1 w A n (ra ss u) := fun u hu => by
    obtain ⟨bb, o, rfl, _, hb⟩ := R1.addr hu
    obtain ⟨A, mm, c, v, hc, hr⟩ := row_at R1 hu
    have hmm : mm = n := by rw [← hr.1]; exact hev _ (ra_mem (by omega))
    subst hmm
    exact ⟨bb, o, rfl, hb, A, c, v, hc, hr⟩
  have HROW := Lib.hid hrow
  obtain ⟨bs, os, rfl, hbs, Ar, cr, v0, hcr, hr0⟩ := hrow 0 (by omega)
  rw [Nat.add_zero] at v0
  have q4 : (n : Int) ≤ 1000000 := by omega
  have q5 : (0 : Int) ≤ (n : Int) := Int.natCast_nonneg _
  have hmk := makeBy n (by omega) w
  have hz := RowIn.made w n 5
  have hbz : Below w.heap.size w (w.alloc (.cells (Array.replicate n (.int .u8 0)) 5)) := (Below.refl _ _).alloc (Nat.le_refl _) _
  have hzr := hz.rd (S := fun j => w.heap.size ≤ j) (Nat.le_refl _)
  rw [List.length_replicate] at hzr
  obtain ⟨wA, hwA⟩ : ∃ wA, w.alloc (.cells (Array.replicate n (.int .u8 0)) 5) = wA := ⟨_, rfl⟩
  rw [hwA] at hmk hbz hzr
  have HZ := Lib.hid hzr
  have HBZ := Lib.hid hbz
  clear H R1 R2 hrow hz hbz hzr hwA hr0
  go_enter Tryz.func178, Tryz.ntmps178
  go_wp2_with fail
  clear hmk
  go_loopw [7, 17] (fun vs vi wr => ∃ (i : Nat) (A : Option Addr) (c : Nat), i ≤ k ∧ vi = .int .i64 i ∧ vs = .slice A n c ∧ n ≤ c ∧ Hid (RdL ByR 1 (fun j => w.heap.size ≤ j) wr A n (combF (l.take i) (ss.take i) (List.replicate n 0))) ∧ Hid (Below w.heap.size w wr)) (fun _ vi _ => k - (intOf vi).toNat)
  case atStart => exact ⟨0, _, n, Nat.zero_le _, rfl, rfl, Nat.le_refl _, by rw [List.take_zero, List.take_zero]; exact HZ, HBZ⟩
  case round =>
    clear HZ HBZ v0
    obtain ⟨i, A, c, hi, rfl, rfl, hc, HR, HB⟩ := hrel
    have p0 : (0 : Int) ≤ (i : Int) := Int.natCast_nonneg _
    by_cases hlt : i < k
    · have p1 : (i : Int) < (k : Int) := by omega
      obtain ⟨b2, o2, e2, _, A1, c1, v1, hc1, hr1⟩ := HROW.out i hlt
      injection e2 with e2
      injection e2 with e2 e3
      subst e2; subst e3
      have hbd : Below w.heap.size w wr.drew := HB.out.drew
      have v1' := (HB.out.cell (p := ⟨bs, os + i, none⟩) hbs).trans v1
      have hC := HC.out.below hbd
      obtain ⟨A9, c9, hbx, _⟩ := hC.box
      have s1 : wr.drew.cell? ⟨cb, 2, none⟩ = some (.pointer (some ⟨b, 0, none⟩)) := hbx.cell 2
      have hcl := hbx.lt
      have x1 : gt l i < 256 := gt_lt (by_byt H2.out) i
      have hof := of_any (w := wr.drew) (c := cl) (H2.out.below ByR.stable hbd) hlt
      have hfo := fold_any (w := wr.drew) (cp := c1) (cp2 := c) hC.fld x1 (hr1.below ByR.stable hbd) hn hc1 (HR.out.below ByR.stable (Below.refl _ _).drew) hn
      rw [← combF_take (by omega) (by omega)] at hfo
      clear hr1 hC hbx v1
      go_wp2_with fail
      refine wp_region_held_drew (S := fun w' => w'.cell? ⟨cb, 2, none⟩ = some (.pointer (some ⟨b, 0, none⟩))) (by kernel_rfl) (by first | exact s1 | exact s2) (fun hHeld => ?_)
      refine tkH 0 rfl ?_
      refine tkH 1 rfl ?_
      refine tkH 2 rfl ?_
      refine tkH 3 rfl ?_
      refine tkH 4 rfl ?_
      refine tkH 5 rfl ?_
      refine tkH 7 rfl ?_
      refine tkH 8 rfl ?_
      refine rdH 6 rfl fun K hK => ?_
      try simp (maxSteps := 2000000) only [zz1, zz2, zz3]
      go_simp
      go_at_call 179
      refine hof.mono ?_
      rintro e w9 ⟨rfl, hw9⟩
      rw [hw9]
      clear hw9 hof
      try (go_wp2_with fail)
      refine hK.out _ _ (by first | exact s1 | exact s2) (fun hHeld => ?_)
      clear hK K
      try simp (maxSteps := 2000000) only [zz1, zz2, zz3, Act.put, zz4, zz5, zz6]
      refine rdH 9 rfl fun K hK => ?_
      try simp (maxSteps := 2000000) only [zz1, zz2, zz3]
      go_simp
      go_at_call 210
      refine hfo.mono ?_
      rintro e w6 ⟨AN, cN, rfl, hcN, hrs, hb6⟩
      have hs9 := HB.out.size
      have s2 : w6.cell? ⟨cb, 2, none⟩ = some (.pointer (some ⟨b, 0, none⟩)) := (hb6.cell (p := ⟨cb, 2, none⟩) hcl).trans s1
      have HRS := Lib.hid (hrs.weaken ByR.stable (S' := fun j => w.heap.size ≤ j) (fun j hj => Nat.le_trans hs9 hj))
      have HB6 := Lib.hid (hbd.trans (hb6.mono hs9))
      clear hrs hb6 hfo
      try (go_wp2_with fail)
      refine hK.out _ _ (by first | exact s1 | exact s2) (fun hHeld => ?_)
      clear hK K
      try simp (maxSteps := 2000000) only [zz1, zz2, zz3, Act.put, zz4, zz5, zz6]
      refine tkH 10 rfl ?_
      refine wpAnyH_done (by kernel_rfl) ?_ _
      clear s1 s2 hHeld v1'
      go_wp2_with fail
      exact ⟨⟨i + 1, AN, cN, by omega, by go_num, rfl, hcN, HRS, HB6⟩, by simp [intOf]; omega⟩
    · have p1 : ¬ (i : Int) < (k : Int) := by omega
      obtain rfl : i = k := by omega
      rw [List.take_of_length_le (by omega), List.take_of_length_le (by omega)] at HR
      go_wp2_with fail
      go_ret
      exact ⟨A, c, rfl, hc, HR.out, HB.out⟩
end
section

def encU (k : Nat) (ss : Rws) (n i : Nat) : Rws := (List.range i).map fun j => combF (rowF k (k + j)) ss (List.replicate n 0)
theorem encU_next (k : Nat) (ss : Rws) (n i : Nat) : encU k ss n (i + 1) = encU k ss n i ++ [combF (rowF k (k + i)) ss (List.replicate n 0)] := by unfold encU; rw [List.range_succ, List.map_append]; rfl
def lenF0 (ss : Rws) : Nat := (ra ss 0).length
def goodB (k N : Nat) (ss : Rws) : Bool := decide (N = k) && evB ss
def EncE (w : World) (k m N : Nat) (ss : Rws) (e : Ending) (w' : World) : Prop := Below w.heap.size w w' ∧
  ((goodB k N ss = false ∧ e = .returned (.tuple #[.slice none 0 0, .int .i64 2])) ∨
   (goodB k N ss = true ∧ ∃ A c, e = .returned (.tuple #[.slice A m c, .int .i64 0]) ∧ RdL RowR 1 (fun j => w.heap.size ≤ j) w' A m (encU k ss (lenF0 ss) m)))
theorem evB_all {ss : Rws} (h : evB ss = true) : ∀ r ∈ ss, r.length = (ra ss 0).length := fun r hr => by
  unfold evB at h
  rw [List.all_eq_true] at h
  simpa using h r hr
set_option maxRecDepth 100000 in
set_option maxHeartbeats 8000000 in
theorem encode_any {w : World} {cb b k m N cs : Nat} {As : Option Addr} {S : Nat → Prop} {ss : Rws} (H : CodAt w cb b k m) (R : RdL RowR 1 S w As N ss) (hN : N ≤ 1000) (hlen : (ra ss 0).length ≤ 1000000) :
    Calls Tryz.prog 144 #[.pointer (some ⟨cb, 0, none⟩), .slice As N cs] w fun e w' => EncE w k m N ss e w' := by
  have HC := Lib.hid H
  have HR := Lib.hid R
  have hk1 := H.k1
  have hm1 := H.m1
  have hkm := H.km
  have hNo := none_any H
  have hRi := right2_any (c := cs) H R hN
  have q0 : (0 : Int) ≤ (m : Int) := Int.natCast_nonneg _
  have q1 : (m : Int) ≤ 255 := by omega
  have q2 : (k : Int) ≤ 255 := by omega
  have q3 : (0 : Int) ≤ (k : Int) := Int.natCast_nonneg _
  obtain ⟨A0, c0, hbx, _⟩ := H.box
  have k0 := hbx.cell 0
  have k1 := hbx.cell 1
  have hcl := hbx.lt
  clear H R hbx
  go_enter Tryz.func144, Tryz.ntmps144
  go_wp2_with (go_at_call 121; refine hNo.mono ?_; rintro e w9 ⟨rfl, hw9⟩; rw [hw9]; clear hw9 hNo)
  obtain ⟨B, hB⟩ : ∃ B, B = (decide (N = k) && evB ss) := ⟨_, rfl⟩
  rw [← hB] at hRi
  refine hRi.mono ?_
  rintro e w9 ⟨rfl, hw9⟩
  rw [hw9]
  clear hw9 hRi
  have HB := Lib.hid hB
  cases B with
  | false =>
    clear hB
    go_wp2_with fail
    go_ret2
    exact ⟨Below.refl _ _, .inl ⟨HB.out.symm, rfl⟩⟩
  | true =>
    have hNk : N = k ∧ evB ss = true := by
      have h := hB.symm
      rw [Bool.and_eq_true] at h
      exact ⟨by simpa using h.1, h.2⟩
    obtain ⟨hNk, hev⟩ := hNk
    subst hNk
    have hall := evB_all hev
    have HALL := Lib.hid hall
    have HGO : Hid (goodB N N ss = true) := Lib.hid (by unfold goodB; rw [decide_eq_true rfl, hev]; rfl)
    clear hB hev hall HB
    go_wp2_with (at_make; refine wpList_make0 RowR (fun j => w.heap.size ≤ j) sl_rows rfl rfl (base := w.heap.size) rfl rfl m (by omega) (by omega) (by unfold maxLen; omega) (by (first | (with_reducible exact Nat.le_refl _) | omega | (simp only [World.size_alloc, World.size_setCell, World.size_drew] <;> omega))) ?_; intro y hys hown; have c1 := (y.cell (o := 1) hcl).trans k1; have HO := Lib.hid hown; have HY := Lib.hid (show Below w.heap.size w y.to from y.ok); clear hown hys)
    go_loopw [6, 28] (fun vs vi wr => ∃ (i : Nat) (A : Option Addr) (c : Nat), i ≤ m ∧ vi = .int .i64 i ∧ vs = .slice A i c ∧ i ≤ c ∧ Hid (OwnL RowR 68 1 w.heap.size (fun j => w.heap.size ≤ j) wr (.slice A i c) i (encU N ss (lenF0 ss) i)) ∧ Hid (Below w.heap.size w wr)) (fun _ vi _ => m - (intOf vi).toNat)
    case atStart => exact ⟨0, _, _, Nat.zero_le _, rfl, rfl, Nat.zero_le _, HO, HY⟩
    case round =>
      clear HO HY c1
      obtain ⟨i, A, c, hi, rfl, rfl, hc, HO, HY⟩ := hrel
      have p0 : (0 : Int) ≤ (i : Int) := Int.natCast_nonneg _
      by_cases hlt : i < m
      · have p1 : (i : Int) < (m : Int) := by omega
        have c0' := (HY.out.cell (p := ⟨cb, 0, none⟩) hcl).trans k0
        have hrow := crow_any (HC.out.below HY.out) (i := N + i) (by omega)
        rw [Int.natCast_add] at hrow
        have hnx := encU_next N ss (lenF0 ss) i
        have HNX := Lib.hid hnx
        have hsz := HY.out.size
        clear hnx
        go_wp2_with fail
        refine hrow.mono ?_
        rintro e w2 ⟨g, rfl, hr2, hb2⟩
        have hb02 := HY.out.trans (hb2.mono hsz)
        have hsum := sum_any (cs := cs) (cl := N) (HC.out.below hb02) (HR.out.below RowR.stable hb02) hr2 HALL.out hlen
        have HO2 := Lib.hid (HO.out.keep RowR.stable hb2)
        have hs2 := hb2.size
        have HB02 := Lib.hid hb02
        clear hrow hr2 hb2 hb02
        go_wp2_with fail
        refine hsum.mono ?_
        rintro e w3 ⟨A3, c3, rfl, hc3, hr3, hb3⟩
        have HB3 := Lib.hid (HB02.out.trans (hb3.mono HB02.out.size))
        have HO3 := Lib.hid (HO2.out.keep RowR.stable hb3)
        have hy3 : RowR (Go.Cib.Rest (fun j => w.heap.size ≤ j) (.slice A i c)) w3 [.slice A3 (lenF0 ss) c3] (combF (rowF N (N + i)) ss (List.replicate (lenF0 ss) 0)) := ⟨A3, _, c3, rfl, hc3, hr3.weaken ByR.stable fun j hj => ⟨by have h9 : w2.heap.size ≤ j := hj; show _ ≤ j; omega, fun e => by have h9 : w2.heap.size ≤ j := hj; have := (HO2.out.lt _ e.symm).2; omega⟩⟩
        have hs3 := HB3.out.size
        clear hsum hr3 hb3
        go_wp2_with (at_builtin; go_must (refine wpList_push1 RowR.stable RowR.one sl_rows (by rfl) (by rfl) (base := w.heap.size) (S := fun j => w.heap.size ≤ j) (cs := #[.slice A3 (lenF0 ss) c3]) (y := combF (rowF N (N + i)) ss (List.replicate (lenF0 ss) 0)) (by rfl) (by rfl) HO3.out (by rfl) hy3 (by unfold maxLen; omega) (by omega) hs3 ?_); intro A8 c8 ug hc8 own9 hlt8 hb8 hat8; rw [← HNX.out] at own9; have HO9 := Lib.hid own9; have HB9 := Lib.hid (HB3.out.trans hb8); clear own9 hb8 hlt8 hat8)
        exact ⟨⟨i + 1, A8, c8, by omega, by go_num, rfl, hc8, HO9, HB9⟩, by simp [intOf]; omega⟩
      · have p1 : ¬ (i : Int) < (m : Int) := by omega
        obtain rfl : i = m := by omega
        go_wp2_with fail
        go_ret2
        obtain ⟨A', c', e, _, hr⟩ := HO.out.rd (S' := fun j => w.heap.size ≤ j) (fun _ hk => hk) (fun cs x hx => RowR.stable _ _ _ _ _ _ hx fun b hb _ => ⟨hb.1, rfl⟩)
        injection e with e1 _ e2
        subst e1; subst e2
        exact ⟨HY.out, .inr ⟨HGO.out, A, c, rfl, hr⟩⟩
end
section

def CalE (w : World) (k m N : Nat) (ss : Rws) (e : Ending) (w' : World) : Prop := Below w.heap.size w w' ∧
  ((goodB k N ss = false ∧ e = .returned (.tuple #[.slice none 0 0, .int .i64 2])) ∨
   (goodB k N ss = true ∧ ∃ A c, e = .returned (.tuple #[.slice A (k + m) c, .int .i64 0]) ∧ k + m ≤ c ∧ RdL RowR 1 (fun j => w.heap.size ≤ j) w' A (k + m) (ss ++ encU k ss (lenF0 ss) m)))
set_option maxRecDepth 100000 in
set_option maxHeartbeats 8000000 in
theorem call2_any {w : World} {cb b k m N cs : Nat} {As : Option Addr} {S : Nat → Prop} {ss : Rws} (H : CodAt w cb b k m) (R : RdL RowR 1 S w As N ss) (hN : N ≤ 1000) (hlen : ∀ i, (ra ss i).length ≤ 1000000) :
    Calls Tryz.prog 95 #[.pointer (some ⟨cb, 0, none⟩), .slice As N cs] w fun e w' => CalE w k m N ss e w' := by
  have HC := Lib.hid H
  have HR := Lib.hid R
  have hsl := R.1
  have hk1 := H.k1
  have hkm := H.km
  have hen := encode_any (cs := cs) H R hN (hlen 0)
  have q0 : (N : Int) ≤ 1000 := by omega
  clear H R
  go_enter Tryz.func95, Tryz.ntmps95
  go_wp2_with fail
  refine hen.mono ?_
  rintro e w1 ⟨hb1, ⟨hB, rfl⟩ | ⟨hB, Ap, cp, rfl, hrp⟩⟩
  · have HB := Lib.hid hB
    clear hB hen
    go_wp2_with fail
    go_ret2
    exact ⟨hb1, .inl ⟨HB.out, rfl⟩⟩
  · have HB := Lib.hid hB
    have hNk : N = k := by
      unfold goodB at hB
      rw [Bool.and_eq_true] at hB
      simpa using hB.1
    subst hNk
    have hal := all_any (HC.out.below hb1)
    have HP := Lib.hid hrp
    have HB1 := Lib.hid hb1
    have q1 : ((N + m : Nat) : Int) ≤ 255 := by omega
    have q2 : (0 : Int) ≤ ((N + m : Nat) : Int) := Int.natCast_nonneg _
    clear hB hen hrp
    go_wp2_with fail
    refine hal.mono ?_
    rintro e w2 ⟨rfl, hb2⟩
    have hb02 := HB1.out.trans (hb2.mono HB1.out.size)
    have hs1 := HB1.out.size
    have hs2 := hb2.size
    have hrp2 : RdL RowR 1 (fun j => w.heap.size ≤ j ∧ j < w2.heap.size) w2 Ap m (encU N ss (lenF0 ss) m) := RdL.stable RowR.stable HP.out fun b hS hlt => ⟨⟨hS, by omega⟩, hb2.block b hlt⟩
    have HP2 := Lib.hid hrp2
    have HB02 := Lib.hid hb02
    clear hal hb2 hrp2 hb02
    go_wp2_with (at_make; refine wpList_make0 RowR (fun j => w.heap.size ≤ j) sl_rows rfl rfl (base := w2.heap.size) rfl rfl (N + m) (by omega) (by omega) (by unfold maxLen; omega) (by (first | (with_reducible exact Nat.le_refl _) | omega | (simp only [World.size_alloc, World.size_setCell, World.size_drew] <;> omega))) ?_; intro y hys hown; have HO := Lib.hid hown; have HY := Lib.hid (show Below w2.heap.size w2 y.to from y.ok); clear hown hys)
    go_loopw [8, 27] (fun vs vi wr => ∃ (i : Nat) (A : Option Addr) (c : Nat), i ≤ N ∧ vi = .int .i64 i ∧ vs = .slice A i c ∧ i ≤ c ∧ Hid (OwnL RowR 68 1 w2.heap.size (fun j => w.heap.size ≤ j) wr (.slice A i c) i (ss.take i)) ∧ Hid (Below w2.heap.size w2 wr)) (fun _ vi _ => N - (intOf vi).toNat)
    case atStart => exact ⟨0, _, _, Nat.zero_le _, rfl, rfl, Nat.zero_le _, by rw [List.take_zero]; exact HO, HY⟩
    case round =>
      clear HO HY
      obtain ⟨i, A, c, hi, rfl, rfl, hc, HO, HY⟩ := hrel
      have p0 : (0 : Int) ≤ (i : Int) := Int.natCast_nonneg _
      by_cases hlt : i < N
      · have p1 : (i : Int) < (N : Int) := by omega
        have hb0r : Below w.heap.size w wr := HB02.out.trans (HY.out.mono HB02.out.size)
        obtain ⟨bb, o, rfl, _, hbb⟩ := HR.out.addr hlt
        obtain ⟨A1, m1, c1, v1, hmc1, r1⟩ := row_at HR.out hlt
        have v1' := (hb0r.cell (p := ⟨bb, o + i, none⟩) hbb).trans v1
        have r1' := r1.below ByR.stable hb0r
        have hm1l : m1 ≤ 1000000 := by have := hlen i; rw [r1.1] at this; exact this
        have hnx : ss.take (i + 1) = ss.take i ++ [ra ss i] := by rw [List.take_add_one, ra_of_lt (by omega)]; rfl
        have HNX := Lib.hid hnx
        have HR1 := Lib.hid r1'
        have hszr := hb0r.size
        have hs2r := HY.out.size
        clear hnx r1 r1' v1
        go_wp2_with (first
          | (at_builtin; refine wpList_appL ByR.stable ByR.one sl_by rfl (by exact rfl) (base := wr.heap.size) (S := fun _ => True) (n := 0) (v := .slice none 0 0) (xs := []) (by exact rfl) OwnL.nil_ (by exact rfl) HR1.out (fun _ _ h => h) (by unfold maxLen; omega) (by omega) (Nat.le_refl _) ?_; intro A3 c3 w3 hc3 hown3 hg3 hat; simp only [Nat.zero_add, List.nil_append] at hc3 hown3 ⊢; have hb3 : Below wr.heap.size wr w3 := ⟨hg3.os, hg3.tape, hg3.output, hg3.size, fun k hk => hg3.block k hk (by intro h; cases h)⟩; have hv3 := (RowV.of_own hown3).rd (S := Go.Cib.Rest (fun j => w.heap.size ≤ j) (.slice A i c)) (fun j hj => ⟨(by show _ ≤ j; omega), fun e => (by have := (HO.out.lt _ e.symm).2; omega)⟩); have HV3 := Lib.hid hv3; have HO3 := Lib.hid (HO.out.keep RowR.stable hb3); have HB3 := Lib.hid (HY.out.trans (hb3.mono HY.out.size)); have hs3 := HB3.out.size; clear hv3 hb3 hown3 hg3 hat)
          | (at_builtin; go_must (refine wpList_push1 RowR.stable RowR.one sl_rows (by rfl) (by rfl) (base := w2.heap.size) (S := fun j => w.heap.size ≤ j) (cs := #[.slice A3 m1 c3]) (y := ra ss i) (by rfl) (by rfl) HO3.out (by rfl) ⟨A3, m1, c3, rfl, hc3, HV3.out⟩ (by unfold maxLen; omega) (by omega) hs3 ?_); intro A8 c8 ug hc8 own9 hlt8 hb8 hat8; rw [← HNX.out] at own9; have HO9 := Lib.hid own9; have HB9 := Lib.hid (HB3.out.trans hb8); clear own9 hb8 hlt8 hat8))
        exact ⟨⟨i + 1, A8, c8, by omega, by go_num, rfl, hc8, HO9, HB9⟩, by simp [intOf]; omega⟩
      · have p1 : ¬ (i : Int) < (N : Int) := by omega
        obtain rfl : i = N := by omega
        rw [List.take_of_length_le (by omega)] at HO
        have hs2r := HY.out.size
        have hrest : ∀ cs y, RowR (fun j => w.heap.size ≤ j ∧ j < w2.heap.size) wr cs y → RowR (Go.Cib.Rest (fun j => w.heap.size ≤ j) (.slice A i c)) wr cs y := fun cs y h => RowR.stable _ _ _ _ _ _ h fun b hb _ => ⟨⟨hb.1, fun e => by have := (HO.out.lt _ e.symm).1; omega⟩, rfl⟩
        have hp3 := HP2.out.below RowR.stable HY.out
        have HRE := Lib.hid hrest
        have HP3 := Lib.hid hp3
        clear hrest hp3
        go_wp2_with (at_builtin; go_must (refine wpList_appL RowR.stable RowR.one sl_rows rfl (by exact rfl) (base := w2.heap.size) (S := fun j => w.heap.size ≤ j) (by exact rfl) HO.out (by exact rfl) HP3.out HRE.out (by unfold maxLen; omega) (by omega) hs2r ?_); intro A3 c3 w3 hc3 hown3 hg3 hat; have HO3 := Lib.hid hown3; have HB3 := Lib.hid (show Below w2.heap.size w2 w3 from HY.out.trans ⟨hg3.os, hg3.tape, hg3.output, (by have := hg3.size; omega), fun k hk => hg3.block k (Nat.lt_of_lt_of_le hk hs2r) (fun e => by have := (HO.out.lt _ e.symm).1; omega)⟩); clear hown3 hg3 hat)
        go_ret2
        obtain ⟨A', c', e, _, hr⟩ := HO3.out.rd (S' := fun j => w.heap.size ≤ j) (fun j hj => by omega) (fun cs x hx => RowR.stable _ _ _ _ _ _ hx fun b hb _ => ⟨hb.1, rfl⟩)
        injection e with e1 _ e2
        subst e1; subst e2
        exact ⟨HB02.out.trans (HB3.out.mono HB02.out.size), .inr ⟨HB.out, A3, c3, rfl, hc3, hr⟩⟩
end
section

def textB (xs : List Nat) : ByteArray := strOfNums (xs.map fun x : Nat => (x : Int))
theorem by_u8 {S : Nat → Prop} {w : World} {A : Option Addr} {n : Nat} {xs : List Nat} (h : RdL ByR 1 S w A n xs) : RdL U8R 1 S w A n (xs.map fun x : Nat => (x : Int)) := by
  refine ⟨by rw [List.length_map]; exact h.1, fun hn => ?_⟩
  obtain ⟨b, o, hA, hS, hlt, hc⟩ := h.2 hn
  refine ⟨b, o, hA, hS, hlt, fun i x hx => ?_⟩
  rw [List.getElem?_map] at hx
  cases hl : xs[i]? with
  | none => rw [hl] at hx; cases hx
  | some y =>
    rw [hl] at hx
    injection hx with hx
    obtain ⟨cs, h1, ⟨_, h2⟩, h3⟩ := hc i y hl
    exact ⟨cs, h1, by rw [h2, ← hx]; rfl, h3⟩
theorem text_run {S : Nat → Prop} {w : World} {A : Option Addr} {n c : Nat} {xs : List Nat} (h0 : RdL ByR 1 S w A n xs) : (convert 68 9 (.slice A n c)).run Tryz.prog w = .ok (.string (textB xs)) w := by
  have h := by_u8 h0
  unfold textB
  generalize (xs.map fun x : Nat => (x : Int)) = bs at h ⊢
  by_cases hn : 0 < n
  · obtain ⟨b, o, rfl, _, _⟩ := h.addr hn
    refine run_convert_bytes_arg w _ 5 (by kernel_rfl) (by kernel_rfl) b o n c _ h.1 (fun i hi => ?_) _ (by kernel_rfl)
    obtain ⟨hl, cs, h1, h2, h3⟩ := h.at hi
    have := h3 0 _ (by rw [h2]; rfl)
    simp only [Nat.mul_one, Nat.add_zero] at this
    rw [this]
    simp [List.getD, hl]
  · obtain rfl : n = 0 := by omega
    have hb := List.length_eq_zero_iff.1 h.1
    rw [hb, run_convert_bytes_string w _ _ 5 _ _ _ (by kernel_rfl) (by kernel_rfl) (by kernel_rfl)]
    cases A with
    | none => simp [Conv.bytesToString]; rfl
    | some a => simp [Conv.bytesToString, loadCells, loadCellsFrom]; rfl
end
section

end
section

end
section

theorem cnt_put (p q : Nat → Bool) (a : Nat) : ∀ N, a < N → (∀ j, j ≠ a → q j = p j) → p a = false → q a = true → ((List.range N).filter q).length = ((List.range N).filter p).length + 1 := by
  intro N
  induction N with
  | zero => intro h; omega
  | succ N ih =>
    intro h he h0 h1
    rw [List.range_succ, List.filter_append, List.filter_append, List.length_append, List.length_append]
    by_cases haN : a = N
    · subst haN
      have : (List.range a).filter q = (List.range a).filter p := List.filter_congr fun j hj => he j (by have := List.mem_range.1 hj; omega)
      rw [this]
      simp [h0, h1]
    · rw [ih (by omega) he h0 h1]
      have : [N].filter q = [N].filter p := List.filter_congr fun j hj => he j (by have := List.mem_singleton.1 hj; omega)
      rw [this]; omega
structure FewI (row : List Nat) (N i c : Nat) (rows : Rws) : Prop where
  len : rows.length = N
  one : ∀ j, ra rows j = [] ∨ ra rows j = row
  cnt : c = (thU rows N).length
  le : c ≤ i
theorem ra_put {rows : Rws} {a : Nat} {row : List Nat} (h : a < rows.length) (j : Nat) : ra (rows.set a row) j = if j = a then row else ra rows j := by
  by_cases hj : j < rows.length
  · exact ra_set _ _ _ hj
  · rw [if_neg (by omega)]
    unfold ra
    rw [List.getD_eq_getElem?_getD, List.getD_eq_getElem?_getD, List.getElem?_eq_none (by simp; omega), List.getElem?_eq_none (by omega)]
theorem FewI.zero (row : List Nat) (N : Nat) : FewI row N 0 0 (List.replicate N []) where
  len := by simp
  one j := by
    left
    unfold ra
    rw [List.getD_eq_getElem?_getD, List.getElem?_replicate]
    split <;> rfl
  cnt := by
    unfold thU
    rw [List.filter_eq_nil_iff.2]
    · rfl
    · intro j hj
      have : lenF (List.replicate N []) j = 0 := by
        unfold lenF ra
        rw [List.getD_eq_getElem?_getD, List.getElem?_replicate]
        split <;> rfl
      simp [this]
  le := Nat.le_refl _
section
variable {row : List Nat} {N i cnt a : Nat} {rows : Rws}
theorem FewI.put (h : FewI row N i cnt rows) (ha : a < N) (hr : 0 < row.length) (he : (ra rows a).length = 0) : FewI row N (i + 1) (cnt + 1) (rows.set a row) := by
  have hal : a < rows.length := by rw [h.len]; exact ha
  refine ⟨by rw [List.length_set, h.len], fun j => ?_, ?_, by have := h.le; omega⟩
  · rw [ra_put hal]; split
    · exact .inr rfl
    · exact h.one j
  · rw [h.cnt]
    unfold thU
    rw [cnt_put (fun j => decide (0 < lenF rows j)) (fun j => decide (0 < lenF (rows.set a row) j)) a N ha]
    · intro j hj
      unfold lenF
      rw [ra_put hal, if_neg hj]
    · unfold lenF; simp [he]
    · unfold lenF
      rw [ra_put hal, if_pos rfl]; simp [hr]
theorem FewI.lenF (h : FewI row N i cnt rows) (j : Nat) : lenF rows j = 0 ∨ lenF rows j = row.length := by
  unfold Go.Proofs.YtihnlhfngmbglaaGreat.lenF
  rcases h.one j with h | h
  · rw [h]; exact .inl rfl
  · rw [h]; exact .inr rfl
theorem FewI.bad {k m : Nat} (h : FewI row (k + m) i cnt rows) : thBad k m (k + m) rows = false := by
  unfold thBad
  rw [Bool.or_eq_false_iff]
  refine ⟨by simp, List.any_eq_false.2 fun u hu => ?_⟩
  have hu2 := (thU_mem hu).2
  have hg : gt (thU rows (k + m)) 0 ∈ thU rows (k + m) := gt_mem (List.length_pos_of_mem hu)
  have hg2 := (thU_mem hg).2
  unfold oddB
  rcases h.lenF u with e | e
  · omega
  · rcases h.lenF (gt (thU rows (k + m)) 0) with e2 | e2
    · omega
    · simp [e, e2]
end
end
section

def missF (gone : List Int) (ss : Rws) (i : Nat) : Rws := (List.range i).map fun j : Nat => if (j : Int) ∈ gone then [] else ra ss j
end
section
attribute [local go_sem ↓] run_min_b

def joinF (ss : Rws) (s i : Nat) : List Nat := (ss.take i).flatten.take s
theorem joinF_next {ss : Rws} {s i n : Nat} (hi : i < ss.length) (hr : (ra ss i).length = n) : joinF ss s (i + 1) = joinF ss s i ++ (ra ss i).take (min n (s - (joinF ss s i).length)) := by
  unfold joinF
  have h1 : ss.take (i + 1) = ss.take i ++ [ra ss i] := by rw [List.take_add_one, ra_of_lt hi]; rfl
  rw [h1, List.flatten_append, List.take_append]
  congr 1
  simp only [List.flatten_cons, List.flatten_nil, List.append_nil]
  rw [List.length_take]
  by_cases h : s - (ss.take i).flatten.length ≤ n
  · congr 1; omega
  · rw [List.take_of_length_le (by omega), List.take_of_length_le (by omega)]
theorem rows_flat {n : Nat} : ∀ ss : Rws, (∀ r ∈ ss, r.length = n) → ss.flatten.length = ss.length * n
  | [], _ => by simp
  | r :: rs, h => by
    rw [List.flatten_cons, List.length_append, rows_flat rs (fun x hx => h x (List.mem_cons_of_mem _ hx)), h r (List.mem_cons_self ..), List.length_cons, Nat.succ_mul]
    omega
set_option maxRecDepth 100000 in
set_option maxHeartbeats 8000000 in
theorem join_any {w : World} {cb b k m n s cs : Nat} {As : Option Addr} {S : Nat → Prop} {ss : Rws} (H : CodAt w cb b k m) (R : RdL RowR 1 S w As k ss) (hev : ∀ i, i < k → (ra ss i).length = n) (hn : n ≤ 65536) (hs : s ≤ k * n) :
    Calls Tryz.prog 91 #[.pointer (some ⟨cb, 0, none⟩), .slice As k cs, .int .i64 (s : Int)] w fun e w' => ∃ A c, e = .returned (.tuple #[.slice A s c, .int .i64 0]) ∧ s ≤ c ∧ RdL ByR 1 (fun j => w.heap.size ≤ j) w' A s (ss.flatten.take s) ∧ Below w.heap.size w w' := by
  have HR := Lib.hid R
  have HEV := Lib.hid hev
  have hsl := R.1
  have hk1 := H.k1
  have hkm := H.km
  have hNo := none_any H
  have hbe : evB ss = true := by
    unfold evB
    rw [List.all_eq_true]
    intro r hr
    obtain ⟨j, hj, rfl⟩ := List.mem_iff_getElem.1 hr
    have h1 := hev j (by omega)
    have h2 := hev 0 (by omega)
    rw [ra_some (List.getElem?_eq_getElem hj)] at h1
    simp [h1, h2]
  have hRi := right2_any (c := cs) (H.below (Below.refl _ _).drew) (R.below RowR.stable (Below.refl _ _).drew) (by omega)
  rw [decide_eq_true rfl, hbe, Bool.true_and] at hRi
  obtain ⟨A0, c0, hbx, _⟩ := H.box
  have hcl := hbx.lt
  obtain ⟨bs, os, rfl, _, hbs⟩ := R.addr (k := 0) (by omega)
  obtain ⟨Ar, mr, cr, v0, _, r0⟩ := row_at R (k := 0) (by omega)
  have hmr : mr = n := by rw [← hev 0 (by omega)]; exact r0.1.symm
  subst hmr
  rw [Nat.add_zero] at v0
  have u1 := fun w' (h : Below w.heap.size w w') => (h.cell (p := ⟨cb, 0, none⟩) hcl).trans (hbx.cell 0)
  have u2 := fun w' (h : Below w.heap.size w w') => (h.cell (p := ⟨bs, os, none⟩) hbs).trans v0
  obtain ⟨P, hP⟩ : ∃ P, k * mr = P := ⟨_, rfl⟩
  have hPle : P ≤ 255 * 65536 := by rw [← hP]; exact Nat.mul_le_mul (by omega) hn
  rw [hP] at hs
  have hP2 : (k : Int) * (mr : Int) = (P : Int) := by rw [← hP]; push_cast; rfl
  have q1 : (P : Int) ≤ 16711680 := by omega
  have q2 : (s : Int) ≤ (P : Int) := by omega
  have q3 : (0 : Int) ≤ (s : Int) := Int.natCast_nonneg _
  have q4 : (0 : Int) < (k : Int) := by omega
  have q5 : (k : Int) ≤ 255 := by omega
  have q6 : 0 < k := hk1
  have q7 : IntKind.i64.wrap (P : Int) = (P : Int) := by rw [IntKind.wrap_i64]; omega
  have q8 : ¬ (s : Int) < 0 := by omega
  have q9 : ¬ (P : Int) < (s : Int) := by omega
  have HP := Lib.hid hP
  clear H R hbx hev hbe v0 r0 hP
  go_enter Tryz.func91, Tryz.ntmps91
  go_wp2_with (go_at_call 121; refine hNo.mono ?_; rintro e w9 ⟨rfl, hw9⟩; rw [hw9]; clear hw9 hNo)
  refine wp_region_held_drew (S := fun w' => Below w.heap.size w w') (by kernel_rfl) (by first | assumption | exact Below.refl _ _ | exact (Below.refl _ _).drew) (fun hHeld => ?_)
  refine tkH 0 rfl ?_
  refine tkH 1 rfl ?_
  refine rdH 2 rfl fun K hK => ?_
  try simp (maxSteps := 2000000) only [zz1, zz2, zz3]
  go_simp
  go_at_call 142
  refine hRi.mono ?_
  rintro e w9 ⟨rfl, hw9⟩
  rw [hw9]
  clear hw9 hRi
  try (go_wp2_with fail)
  refine hK.out _ _ (by first | assumption | exact Below.refl _ _ | exact (Below.refl _ _).drew) (fun hHeld => ?_)
  clear hK K
  try simp (maxSteps := 2000000) only [zz1, zz2, zz3, Act.put, zz4, zz5, zz6]
  refine tkH 3 rfl ?_
  refine tkH 4 rfl ?_
  refine tkH 5 rfl ?_
  refine tkH 6 rfl ?_
  refine tkH 7 rfl ?_
  refine tkH 8 rfl ?_
  refine tkH 9 rfl ?_
  refine tkH 10 rfl ?_
  refine tkH 11 rfl ?_
  refine tkH 12 rfl ?_
  refine tkH 13 rfl ?_
  refine tkH 14 rfl ?_
  refine tkH 15 rfl ?_
  refine tkH 16 rfl ?_
  refine tkH 17 rfl ?_
  refine tkH 18 rfl ?_
  refine tkH 19 rfl ?_
  refine tkH 20 rfl ?_
  refine tkH 21 rfl ?_
  refine tkH 22 rfl ?_
  refine wpAnyH_done (by kernel_rfl) ?_ _
  have HBd := Lib.hid hHeld
  clear hHeld u1 u2 hP2 q7
  go_wp2_with (at_make; refine wpList_make0 ByR (fun j => w.heap.size ≤ j) sl_by rfl rfl (base := w.heap.size) rfl rfl s (by omega) (by omega) (by unfold maxLen; omega) (by (first | (with_reducible exact Nat.le_refl _) | omega | (simp only [World.size_alloc, World.size_setCell, World.size_drew] <;> omega))) ?_; intro y hys hown; have HO := Lib.hid hown; have HY := Lib.hid (show Below w.heap.size w y.to from HBd.out.trans y.ok); clear hown hys)
  go_loopw [8, 41] (fun vs vi wr => ∃ (i L : Nat) (A : Option Addr) (c : Nat), i ≤ k ∧ vi = .int .i64 i ∧ vs = .slice A L c ∧ L ≤ c ∧ L ≤ s ∧ Hid (OwnL ByR 5 1 w.heap.size (fun j => w.heap.size ≤ j) wr (.slice A L c) L (joinF ss s i)) ∧ Hid (Below w.heap.size w wr)) (fun _ vi _ => k - (intOf vi).toNat)
  case atStart => exact ⟨0, 0, _, _, Nat.zero_le _, rfl, rfl, Nat.zero_le _, Nat.zero_le _, by rw [show joinF ss s 0 = [] by unfold joinF; simp]; exact HO, HY⟩
  case round =>
    clear HO HY
    obtain ⟨i, L, A, c, hi, rfl, rfl, hc, hLs, HO, HB⟩ := hrel
    have p0 : (0 : Int) ≤ (i : Int) := Int.natCast_nonneg _
    have p2 : (0 : Int) ≤ (L : Int) := Int.natCast_nonneg _
    have p3 : (L : Int) ≤ (s : Int) := by omega
    by_cases hlt : i < k
    · have p1 : (i : Int) < (k : Int) := by omega
      obtain ⟨A1, m1, c1, v1, hmc1, r1⟩ := row_at HR.out hlt
      have v1' := (HB.out.cell (p := ⟨bs, os + i, none⟩) hbs).trans v1
      have hm1 : m1 = mr := by rw [← HEV.out i hlt]; exact r1.1.symm
      subst hm1
      obtain ⟨q, hq⟩ : ∃ q, min m1 (s - L) = q := ⟨_, rfl⟩
      have hq2 : min (m1 : Int) ((s : Int) - (L : Int)) = (q : Int) := by omega
      have hqm : q ≤ m1 := by omega
      have hqc : q ≤ c1 := by omega
      have hLq : L + q ≤ s := by omega
      have hL := HO.out.len
      have hnx := joinF_next (s := s) (i := i) (n := m1) (by omega) (HEV.out i hlt)
      rw [hL, hq] at hnx
      have hpc := fun w => piece_pre sl_by (A := A1) (N := m1) (c := c1) (k := q) hqc w
      have HNX := Lib.hid hnx
      have HR1 := Lib.hid (RdL.take (r1.below ByR.stable HB.out) (k := q) hqm)
      have hszr := HB.out.size
      clear hnx r1 v1 hL hq
      go_wp2_with (at_builtin; refine wpList_appL ByR.stable ByR.one sl_by rfl (by exact rfl) (base := w.heap.size) (S := fun j => w.heap.size ≤ j) (by exact rfl) HO.out (by exact rfl) HR1.out (fun _ _ h => h) (by unfold maxLen; omega) (by omega) hszr ?_; intro A3 c3 w3 hc3 hown3 hg3 hat; rw [← HNX.out] at hown3; have HO3 := Lib.hid hown3; have HB3 := Lib.hid (show Below w.heap.size w w3 from HB.out.trans ⟨hg3.os, hg3.tape, hg3.output, (by have := hg3.size; omega), fun k hk => hg3.block k (Nat.lt_of_lt_of_le hk hszr) (fun e => by have := (HO.out.lt _ e.symm).1; omega)⟩); clear hown3 hg3 hat)
      exact ⟨⟨i + 1, L + q, A3, c3, by omega, by go_num, rfl, hc3, hLq, HO3, HB3⟩, by simp [intOf]; omega⟩
    · have p1 : ¬ (i : Int) < (k : Int) := by omega
      obtain rfl : i = k := by omega
      have hfl : ss.flatten.length = P := by
        rw [rows_flat (n := mr) ss (fun r hr => by
          obtain ⟨j, hj, rfl⟩ := List.mem_iff_getElem.1 hr
          have h1 := HEV.out j (by omega)
          rwa [ra_some (List.getElem?_eq_getElem hj)] at h1), hsl]
        exact HP.out
      have hL := HO.out.len
      unfold joinF at HO hL
      rw [List.take_of_length_le (show ss.length ≤ i by omega)] at HO hL
      rw [List.length_take, hfl] at hL
      have hLe : L = s := by omega
      subst hLe
      have HH := Lib.hid hL
      clear hL hfl
      go_wp2_with fail
      go_ret2
      obtain ⟨A', c', e, _, hr⟩ := HO.out.rd (S' := fun j => w.heap.size ≤ j) (fun j hj => hj) (fun cs x hx => hx)
      injection e with e1 _ e2
      subst e1; subst e2
      exact ⟨A, c, rfl, hc, hr, HB.out⟩
end
section

def fillL (width : Nat) (xs : List Nat) : List Nat := xs ++ List.replicate (width - xs.length) 0
def valsL (xs : List Nat) : List Value := xs.map fun x : Nat => Value.int .u8 (x : Int)
theorem valsL_one (xs : List Nat) : ∀ u ∈ valsL xs, u.oneCell' = true := fun u hu => by
  obtain ⟨x, _, rfl⟩ := List.mem_map.1 hu; rfl
theorem valsL_cell {S : Nat → Prop} {w : World} {a : Addr} {m : Nat} {xs : List Nat} (R : RdL ByR 1 S w (some a) m xs) : ∀ j u, (valsL xs)[j]? = some u → w.cell? (a.add j) = some u := fun j u hu => by
  unfold valsL at hu
  rw [List.getElem?_map] at hu
  cases hx : xs[j]? with
  | none => rw [hx] at hu; cases hu
  | some x =>
    rw [hx] at hu
    injection hu with hu
    have hj : j < m := by rw [← R.1]; exact (List.getElem?_eq_some_iff.1 hx).1
    obtain ⟨b, o, ha, _, _⟩ := R.addr hj
    injection ha with ha
    subst ha
    have h1 := (by_at R hj).1
    have h2 := gt_of_lt (l := xs) (i := j) (by rw [R.1]; exact hj)
    rw [hx] at h2
    injection h2 with h2
    rw [← hu, h2, Addr.add_lit]
    exact h1
theorem fill_run {S : Nat → Prop} {w : World} {g width m c : Nat} {A : Option Addr} {xs : List Nat} {ty : TypeId}
    (hg : w.heap[g]? = some (.cells (Array.replicate width (.int .u8 0)) 5 (0, 0))) (R : RdL ByR 1 S w A m xs) (hm : m ≤ width) :
    ∃ w', (Builtin.append_ #[68, 68] ty #[.slice (some ⟨g, 0, none⟩) 0 width, .slice A m c]).run Tryz.prog w = .ok (.slice (some ⟨g, 0, none⟩) m width) w' ∧
      w' = w.setRow g (valsL (fillL width xs)).toArray := by
  obtain ⟨i, hi, hz, hsz, hby⟩ := info_parts sl_by.info
  have hxl := R.1
  have he : valsL (fillL width xs) = valsL xs ++ List.replicate (width - m) (Value.int .u8 0) := by
    unfold valsL fillL
    rw [List.map_append, hxl, List.map_replicate]; rfl
  cases A with
  | none =>
    have hm0 : m = 0 := by
      rcases Nat.eq_zero_or_pos m with h | h
      · exact h
      · obtain ⟨b, o, hA, _⟩ := R.addr h; cases hA
    subst hm0
    have hx0 : xs = [] := List.length_eq_zero_iff.1 hxl
    subst hx0
    refine ⟨w, ?_, ?_⟩
    · simp [Builtin.append_, run_underlying sl_by.und, sizeOf, typeInfo, hi, Builtin.lenOf, Builtin.firstCells, storeCells]
    · rw [he]
      show w = w.setRow g (List.replicate (width - 0) (Value.int .u8 0)).toArray
      rw [Nat.sub_zero, List.toArray_replicate]
      exact (setRow_self w g _ _ _ hg).symm
  | some a =>
    have h := run_append_room (P := Tryz.prog) w 68 ty 5 i sl_by.und hi g 0 width _ hg a m c (valsL xs) (by unfold valsL; rw [List.length_map, hxl, hsz, Nat.mul_one]) (valsL_cell R) (valsL_one xs) (by omega) (by unfold valsL; rw [List.length_map, hxl, Array.size_replicate]; omega)
    rw [Nat.zero_add] at h
    refine ⟨_, h, ?_⟩
    have hvl : (valsL xs).length = m := by unfold valsL; rw [List.length_map, hxl]
    rw [he, hvl, Nat.zero_mul, List.take_zero, List.nil_append, Nat.zero_add, Array.toList_replicate, List.drop_replicate]
end
section
open Go.Lib
attribute [local go_sem ↓] run_min_b

def splF (width : Nat) (xs : List Nat) (k i : Nat) : Rws := ((List.range i).map fun j => fillL width ((xs.drop (j * width)).take width)) ++ List.replicate (k - i) []
theorem splF_next {width : Nat} {xs : List Nat} {k i : Nat} (h : i < k) : (splF width xs k i).set i (fillL width ((xs.drop (i * width)).take width)) = splF width xs k (i + 1) := by
  unfold splF
  rw [List.set_append_right _ _ (by simp), List.range_succ, List.map_append, List.append_assoc]
  congr 1
  obtain ⟨d, hd⟩ : ∃ d, k - i = d + 1 := ⟨k - i - 1, by omega⟩
  rw [hd, show k - (i + 1) = d by omega, List.replicate_succ]
  simp
theorem make0 (k : Nat) (hk : k ≤ 1000000) (w : World) : (Instr.makeSlice 68 (.int .i64 0) (.int .i64 (k : Int))).run Tryz.prog w = .ok (.slice (some ⟨w.heap.size, 0, none⟩) 0 k) (w.alloc (.cells (Array.replicate k (.int .u8 0)) 5)) := by
  obtain ⟨i, hi, hz, hs, hb⟩ := info_parts sl_by.info
  have h := run_make (P := Tryz.prog) w 68 5 i (.int .u8 0) (by kernel_rfl) hi hz .i64 .i64 0 k (by omega) (by omega) (by rw [hb]; omega) (by omega)
  simp only [Int.toNat_natCast, hs, Nat.mul_one] at h
  rw [h, show (Value.int .u8 0).cells = #[.int .u8 0] from rfl, madeCells_r]
  rfl
set_option maxRecDepth 100000 in
set_option maxHeartbeats 8000000 in
theorem split_any {w : World} {cb b k m n c width : Nat} {A : Option Addr} {S : Nat → Prop} {xs : List Nat} (H : CodAt w cb b k m) (R : RdL ByR 1 S w A n xs) (hc : n ≤ c) (h1 : 1 ≤ width) (h2 : width ≤ 65536) (hn : n ≤ k * width) :
    Calls Tryz.prog 94 #[.pointer (some ⟨cb, 0, none⟩), .slice A n c, .int .i64 (width : Int)] w fun e w' => ∃ g, e = .returned (.tuple #[.slice (some ⟨g, 0, none⟩) k k, .int .i64 0]) ∧ RdL RowR 1 (fun j => w.heap.size ≤ j) w' (some ⟨g, 0, none⟩) k (splF width xs k k) ∧ Below w.heap.size w w' := by
  have HR := Lib.hid R
  have hxl := R.1
  have hk1 := H.k1
  have hkm := H.km
  have hNo := none_any H
  obtain ⟨A0, c0, hbx, _⟩ := H.box
  have hcl := hbx.lt
  have u1 := hbx.cell 0
  obtain ⟨P, hP⟩ : ∃ P, k * width = P := ⟨_, rfl⟩
  have hPle : P ≤ 255 * 65536 := by rw [← hP]; exact Nat.mul_le_mul (by omega) h2
  rw [hP] at hn
  have hP2 : (k : Int) * (width : Int) = (P : Int) := by rw [← hP]; push_cast; rfl
  have q1 : (P : Int) ≤ 16711680 := by omega
  have q2 : ¬ (P : Int) < (n : Int) := by omega
  have q2b : decide (P < n) = false := decide_eq_false (by omega)
  have q3 : (0 : Int) ≤ (n : Int) := Int.natCast_nonneg _
  have q4 : ¬ (width : Int) < 1 := by omega
  have q5 : ¬ (width : Int) > 65536 := by omega
  have q6 : (k : Int) ≤ 255 := by omega
  have q7 : IntKind.i64.wrap (P : Int) = (P : Int) := by rw [IntKind.wrap_i64]; omega
  have HP := Lib.hid hP
  have hmk := makeRows k (by omega) w
  have ho := OutAt.made w k 68
  have hbz : Below w.heap.size w (w.alloc (.cells (Array.replicate k (.slice none 0 0)) 68)) := (Below.refl _ _).alloc (Nat.le_refl _) _
  obtain ⟨w3, hw3⟩ : ∃ w3, w.alloc (.cells (Array.replicate k (.slice none 0 0)) 68) = w3 := ⟨_, rfl⟩
  rw [hw3] at hmk ho hbz
  obtain ⟨go, hgo⟩ : ∃ go, w.heap.size = go := ⟨_, rfl⟩
  rw [hgo] at hmk ho
  have hs0 : splF width xs k 0 = List.replicate k [] := by unfold splF; simp
  rw [← hs0] at ho
  have HO := Lib.hid ho
  have HB := Lib.hid hbz
  have HGO := Lib.hid hgo
  clear H R hbx hP ho hbz hw3 hs0 hgo
  go_enter Tryz.func94, Tryz.ntmps94
  go_wp2_with (go_at_call 121; refine hNo.mono ?_; rintro e w9 ⟨rfl, hw9⟩; rw [hw9]; clear hw9 hNo)
  clear hmk u1 hP2 q7
  have HX0 : Hid (RdL ByR 1 (fun _ => True) w A n (xs.drop (0 * width))) := Lib.hid (by rw [Nat.zero_mul, List.drop_zero]; exact HR.out.weaken ByR.stable (fun _ _ => trivial))
  go_loopw [1, 40] (fun vb vi wr => ∃ (i nb cc : Nat) (Ab : Option Addr), i ≤ k ∧ vi = .int .i64 i ∧ vb = .slice Ab nb cc ∧ nb ≤ cc ∧ nb ≤ n ∧ Hid (RdL ByR 1 (fun _ => True) w Ab nb (xs.drop (i * width))) ∧ Hid (OutAt wr go go k (splF width xs k i)) ∧ Hid (Below w.heap.size w wr)) (fun _ vi _ => k - (intOf vi).toNat)
  case atStart => exact ⟨0, n, c, A, Nat.zero_le _, rfl, rfl, hc, Nat.le_refl _, HX0, HO, HB⟩
  case round =>
    clear HX0 HO HB
    obtain ⟨i, nb, cc, Ab, hi, rfl, rfl, hcc, hnb, HX, HO, HB⟩ := hrel
    have p0 : (0 : Int) ≤ (i : Int) := Int.natCast_nonneg _
    by_cases hlt : i < k
    · have p1 : (i : Int) < (k : Int) := by omega
      obtain ⟨q, hq⟩ : ∃ q, min nb width = q := ⟨_, rfl⟩
      have hq2 : min (nb : Int) (width : Int) = (q : Int) := by omega
      have hqn : q ≤ nb := by omega
      have hqw : q ≤ width := by omega
      have hp1 := fun w => piece_pre sl_by (A := Ab) (N := nb) (c := cc) (k := q) (by omega) w
      have hp2 := fun w => piece_suf sl_by (A := Ab) (N := nb) (c := cc) (k := q) (by omega) w
      have hm0 := make0 width (by omega) wr.drew
      obtain ⟨w4, hw4⟩ : ∃ w4, wr.drew.alloc (.cells (Array.replicate width (.int .u8 0)) 5) = w4 := ⟨_, rfl⟩
      have hg4 : w4.heap[wr.heap.size]? = some (.cells (Array.replicate width (.int .u8 0)) 5 (0, 0)) := by rw [← hw4]; show (wr.heap.push _)[wr.heap.size]? = _; exact Array.getElem?_push_size
      have hb4 : Below wr.heap.size wr w4 := by rw [← hw4]; exact (Below.refl _ _).drew.alloc (Nat.le_refl _) _
      have hrx : RdL ByR 1 (fun _ => True) w4 Ab q ((xs.drop (i * width)).take q) := RdL.take (HX.out.below ByR.stable (HB.out.trans (hb4.mono HB.out.size))) hqn
      obtain ⟨w5, hw5⟩ : ∃ w5, w5 = w4.setRow wr.heap.size (valsL (fillL width ((xs.drop (i * width)).take q))).toArray := ⟨_, rfl⟩
      have hfr : ∀ ty, (Builtin.append_ #[68, 68] ty #[.slice (some ⟨wr.heap.size, 0, none⟩) 0 width, .slice Ab q cc]).run Tryz.prog w4 = .ok (.slice (some ⟨wr.heap.size, 0, none⟩) q width) w5 := fun ty => by
        obtain ⟨w', h, e⟩ := fill_run (c := cc) (ty := ty) hg4 hrx hqw
        rw [h, e, hw5]
      have hb5 : Below wr.heap.size wr w5 := by rw [hw5]; exact hb4.trans ⟨rfl, rfl, rfl, by simp [World.setRow], fun k hk => setRow_other _ _ _ _ (by omega)⟩
      have hlw : (fillL width ((xs.drop (i * width)).take q)).length = width := by unfold fillL; rw [List.length_append, List.length_replicate, hrx.1]; omega
      have hbyt : Byt (fillL width ((xs.drop (i * width)).take q)) := fun x hx => by
        unfold fillL at hx
        rcases List.mem_append.1 hx with hx | hx
        · exact by_byt hrx x hx
        · rw [(List.mem_replicate.1 hx).2]; omega
      have hri : RowIn w5 wr.heap.size (valsL (fillL width ((xs.drop (i * width)).take q))).toArray (fillL width ((xs.drop (i * width)).take q)) := by
        refine ⟨⟨5, by rw [hw5]; exact setRow_heap w4 _ _ _ _ _ hg4⟩, by simp [valsL], fun j hj => ?_, hbyt⟩
        rw [List.getElem?_toArray]
        unfold valsL
        rw [List.getElem?_map, gt_of_lt hj]; rfl
      have hrd5 := hri.rd (S := fun j => go ≤ j ∧ j ≠ go) (by have := HO.out.lt; have := HGO.out; have := HB.out.size; omega)
      rw [hlw] at hrd5
      have ho5 := HO.out.below hb5
      obtain ⟨⟨v5, hv5⟩, f5⟩ := ho5.cellx hlt
      have hst := ho5.set (i := i) (c := width) hlt (Nat.le_refl _) hrd5
      have hqx : (xs.drop (i * width)).take q = (xs.drop (i * width)).take width := by
        have hl := HX.out.1
        by_cases h : nb ≤ width
        · rw [List.take_of_length_le (by omega), List.take_of_length_le (by omega)]
        · rw [show q = width by omega]
      rw [hqx, splF_next hlt] at hst
      have hxn : RdL ByR 1 (fun _ => True) w (if cc = q then Ab else Ab.map (fun x : Addr => x.add (q * 1))) (nb - q) (xs.drop ((i + 1) * width)) := by
        have h := piece_rd HX.out hcc hqn
        rw [List.drop_drop] at h
        have e : xs.drop (i * width + q) = xs.drop ((i + 1) * width) := by
          have hl := HX.out.1
          rw [List.length_drop] at hl
          rw [Nat.succ_mul]
          by_cases h : nb ≤ width
          · rw [List.drop_of_length_le (by omega), List.drop_of_length_le (by omega)]
          · rw [show q = width by omega]
        rw [e] at h; exact h
      obtain ⟨AN, hAN⟩ : ∃ AN, (if cc = q then Ab else Ab.map (fun x : Addr => x.add (q * 1))) = AN := ⟨_, rfl⟩
      rw [hAN] at hxn
      simp only [hAN] at hp2
      clear hAN
      have HST := Lib.hid hst
      have HXN := Lib.hid hxn
      have hgw : w.heap.size ≤ go := by have := HGO.out; omega
      have HB5 := Lib.hid (((HB.out.trans (hb5.mono HB.out.size))).setCell (p := ⟨go, i, none⟩) hgw (.slice (some ⟨wr.heap.size, 0, none⟩) width width))
      have hp3 := fun w => piece_pre sl_by (A := some ⟨wr.heap.size, 0, none⟩) (N := q) (c := width) (k := width) (Nat.le_refl _) w
      rw [hw4] at hm0
      have hmd : wr.drew.heap.size = wr.heap.size := rfl
      rw [hmd] at hm0
      clear hst hxn hqx hrd5 ho5 hri hbyt hlw hb4 hb5 hrx hw5 hg4 hw4 hq hmd
      go_wp2_with fail
      refine wp_region_L (S := fun _ => True) [11] (by kernel_rfl) (trivial) (fun hHeld => ?_)
      refine tkL 0 rfl ?_
      refine tkL 1 rfl ?_
      refine tkL 2 rfl ?_
      refine tkL 4 rfl ?_
      refine tkL 5 rfl ?_
      refine tkL 6 rfl ?_
      refine tkL 8 rfl ?_
      refine rdL 3 rfl fun K hK => ?_
      try simp (maxSteps := 2000000) only [zz1, zz2, zz3]
      go_simp
      refine hK.out _ _ (trivial) (fun hHeld => ?_)
      clear hK K
      try simp (maxSteps := 2000000) only [zz1, zz2, zz3, Act.put, zz4, zz5, zz6]
      refine rdL 7 rfl fun K hK => ?_
      refine step_law (by rfl) (wpList_append_run _ (by rfl) _ _ _ _ (by rfl) _ _ (by rfl) (by rfl) _ _ (hfr _) ?_)
      refine And.intro rfl ?_
      refine hK.out _ _ (trivial) (fun hHeld => ?_)
      clear hK K
      try simp (maxSteps := 2000000) only [zz1, zz2, zz3, Act.put, zz4, zz5, zz6]
      refine tkL 9 rfl ?_
      refine tkL 10 rfl ?_
      refine lsL 11 rfl fun K hK => ?_
      try simp (maxSteps := 2000000) only [zz1, zz2, zz3]
      go_simp
      refine hK.out _ _ ?_
      clear hK K
      try simp (maxSteps := 2000000) only [zz1, zz2, zz3, Act.put, zz4, zz5, zz6]
      refine wpAnyL_done (by kernel_rfl) ?_ _
      clear hHeld
      go_wp2_with fail
      exact ⟨⟨i + 1, nb - q, cc - q, AN, by omega, by go_num, rfl, by omega, by omega, HXN, HST, HB5⟩, by simp [intOf]; omega⟩
    · have p1 : ¬ (i : Int) < (k : Int) := by omega
      obtain rfl : i = k := by omega
      go_wp2_with fail
      go_ret2
      exact ⟨go, rfl, HO.out.rd.weaken RowR.stable (fun j hj => by have := HGO.out; omega), HB.out⟩
end
section

def dl (i j : Nat) : Nat := if i = j then 1 else 0
theorem dl_lt (i j : Nat) : dl i j < 256 := by unfold dl; split <;> omega
theorem gm_sum {f : Nat → Nat} (h : ∀ i, f i < 256) (c : Nat) (n : Nat) : gm (sumx f n) c = sumx (fun i => gm (f i) c) n := by
  rw [gm_comm, sumx_mul h c n]
  exact sumx_cong fun i _ => gm_comm _ _
theorem sum_dl {f : Nat → Nat} {n l : Nat} (hl : l < n) (hf : f l < 256) : sumx (fun t => gm (dl l t) (f t)) n = f l := by
  rw [sumx_one hl fun i _ hne => by unfold dl; rw [if_neg (fun e => hne e.symm), zero_gm]]
  unfold dl
  rw [if_pos rfl, gm_comm, gm_one2 hf]
theorem sum_dl2 {f : Nat → Nat} {n l : Nat} (hl : l < n) (hf : f l < 256) : sumx (fun t => gm (f t) (dl t l)) n = f l := by
  rw [sumx_one hl fun i _ hne => by unfold dl; rw [if_neg hne, gm_zero]]
  unfold dl
  rw [if_pos rfl, gm_one2 hf]
section
variable {V : Rws} {n : Nat}
theorem dt_two (r : List Nat) (y : Nat → Nat) : dt (n + n) r y = sumx (fun l => gm (gt r l) (y l)) n ^^^ sumx (fun j => gm (gt r (n + j)) (y (n + j))) n := sumx_add _ _ _
theorem dt_beg (hV : Shp n n V) {i : Nat} (hi : i < n) (y : Nat → Nat) (hy : y (n + i) < 256) : dt (n + n) (ra (begF V n n) i) y = sumx (fun l => gm (gt (ra V i) l) (y l)) n ^^^ y (n + i) := by
  rw [begF_ra hi, dt_two]
  congr 1
  · exact sumx_cong fun l hl => by rw [begRow_gt hV hi (by omega), if_pos hl]
  · rw [← sum_dl (f := fun j => y (n + j)) hi hy]
    refine sumx_cong fun j hj => ?_
    rw [begRow_gt hV hi (by omega), if_neg (by omega)]
    unfold dl
    by_cases e : i = j
    · rw [if_pos (by omega), if_pos e]
    · rw [if_neg (by omega), if_neg e]
theorem dt_eli (hV : Shp n n V) (h : Inj n V) {i : Nat} (hi : i < n) (y : Nat → Nat) (hy : y i < 256) : dt (n + n) (ra (eliR V n) i) y = y i ^^^ sumx (fun j => gm (invE V n i j) (y (n + j))) n := by
  rw [dt_two]
  congr 1
  rw [← sum_dl (f := y) hi hy]
  refine sumx_cong fun l hl => ?_
  rw [(eliR_ok hV h).2.1.unit i l hi hl]
  rfl
/-- The inverse before the matrix. -/
theorem inv_left (hV : Shp n n V) (h : Inj n V) {i t : Nat} (hi : i < n) (ht : t < n) : sumx (fun j => gm (invE V n i j) (gt (ra V j) t)) n = dl i t := by
  have hb : ∀ j, gt (ra V j) t < 256 := fun j => by
    by_cases hj : j < n
    · exact gt_lt (hV.row hj).2 _
    · rw [show ra V j = [] by unfold ra; rw [List.getD_eq_getElem?_getD, List.getElem?_eq_none (by rw [hV.1]; omega)]; rfl]
      rw [gt_ge (by exact Nat.zero_le _)]; omega
  have hy : ∀ l, (fun l => if l < n then dl l t else gt (ra V (l - n)) t) l < 256 := fun l => by
    show (if l < n then dl l t else gt (ra V (l - n)) t) < 256
    split
    · exact dl_lt _ _
    · exact hb _
  have h1 := ((eliR_ok hV h).2.2 (fun l => if l < n then dl l t else gt (ra V (l - n)) t) hy).2 fun i hi => by
    rw [dt_beg hV hi _ (hy _)]
    try dsimp only
    rw [if_neg (by omega), show n + i - n = i by omega]
    rw [sumx_cong (g := fun l => gm (gt (ra V i) l) (dl l t)) fun l hl => by rw [if_pos hl]]
    rw [sum_dl2 (f := fun l => gt (ra V i) l) ht (gt_lt (hV.row hi).2 _), Nat.xor_self]
  have h2 := h1 i hi
  rw [dt_eli hV h hi _ (hy i)] at h2
  try dsimp only at h2
  rw [if_pos hi] at h2
  have h3 := xor_zero_eq h2
  rw [h3]
  exact sumx_cong fun j _ => by rw [if_neg (by omega), show n + j - n = j by omega]
end
/-- A row times the inverse, times what the matrix makes of data, is the row times the data. -/
theorem sum_back {k : Nat} {r d : Nat → Nat} {X V : Nat → Nat → Nat} (hd : ∀ t, d t < 256) (hXV : ∀ l t, l < k → t < k → sumx (fun j => gm (X l j) (V j t)) k = dl l t) :
    sumx (fun j => gm (sumx (fun l => gm (r l) (X l j)) k) (sumx (fun t => gm (V j t) (d t)) k)) k = sumx (fun l => gm (r l) (d l)) k := by
  have e1 : ∀ j, gm (sumx (fun l => gm (r l) (X l j)) k) (sumx (fun t => gm (V j t) (d t)) k) = sumx (fun l => gm (r l) (gm (X l j) (sumx (fun t => gm (V j t) (d t)) k))) k := fun j => by
    rw [gm_sum (fun i => gm_lt)]
    exact sumx_cong fun l _ => gm_assoc _ _ _
  rw [sumx_cong fun j _ => e1 j, sumx_swap]
  refine sumx_cong fun l hl => ?_
  rw [← sumx_mul (fun i => gm_lt)]
  congr 1
  have e2 : ∀ j, gm (X l j) (sumx (fun t => gm (V j t) (d t)) k) = sumx (fun t => gm (gm (X l j) (V j t)) (d t)) k := fun j => by
    rw [sumx_mul (fun i => gm_lt)]
    exact sumx_cong fun t _ => (gm_assoc _ _ _).symm
  rw [sumx_cong fun j _ => e2 j, sumx_swap]
  rw [sumx_cong (g := fun t => gm (dl l t) (d t)) fun t ht => by rw [← gm_sum (fun i => gm_lt), hXV l t hl ht]]
  exact sum_dl hl (hd l)
end
section

theorem combF_gt {n p : Nat} : ∀ (cs : List Nat) (rs : Rws) (z : List Nat), cs.length = rs.length → z.length = n → (∀ r ∈ rs, r.length = n) →
    gt (combF cs rs z) p = gt z p ^^^ sumx (fun j => gm (gt cs j) (gt (ra rs j) p)) cs.length := by
  intro cs
  induction cs with
  | nil => intro rs z _ _ _; cases rs <;> simp [combF, sumx]
  | cons c cs ih =>
    intro rs z hl hz hr
    cases rs with
    | nil => simp at hl
    | cons r rs =>
      have hrl := hr r (List.mem_cons_self ..)
      rw [show combF (c :: cs) (r :: rs) z = combF cs rs (fd c r z) from rfl, ih rs (fd c r z) (by simpa using hl) (by rw [fd_len, hz]) (fun x hx => hr x (List.mem_cons_of_mem _ hx)), fd_gt c r z p (by omega)]
      rw [List.length_cons, Nat.add_comm cs.length 1, sumx_add]
      rw [← Nat.xor_assoc]
      congr 1
      · congr 1
        show _ = 0 ^^^ gm (gt (c :: cs) 0) (gt (ra (r :: rs) 0) p)
        rw [Nat.zero_xor]; rfl
      · exact sumx_cong fun j _ => by rw [Nat.add_comm 1 j]; rfl
theorem gt_zeros (n p : Nat) : gt (List.replicate n 0) p = 0 := by
  unfold gt
  rw [List.getD_eq_getElem?_getD, List.getElem?_replicate]
  split <;> rfl
theorem ra_map {us : List Nat} {f : Nat → List Nat} {j : Nat} (hj : j < us.length) : ra (us.map f) j = f (gt us j) := ra_some (by rw [List.getElem?_map, gt_of_lt hj]; rfl)
/-- The row number i that a coder makes of data. -/
def codeRow (k n : Nat) (D : Rws) (i : Nat) : List Nat := combF (rowF k i) D (List.replicate n 0)
theorem rowF_at {k i l : Nat} (h : l < k) : gt (rowF k i) l = fac k i l := range_gt h
section
variable {k n : Nat} {D : Rws}
theorem codeRow_ok (hD : Shp k n D) (i : Nat) : (codeRow k n D i).length = n ∧ Byt (codeRow k n D i) := combF_ok _ _ _ (by simp) (byt_zeros n)
theorem codeRow_gt (hD : Shp k n D) (i p : Nat) : gt (codeRow k n D i) p = sumx (fun l => gm (fac k i l) (gt (ra D l) p)) k := by
  unfold codeRow
  rw [combF_gt (n := n) (rowF k i) D _ (by rw [rowF_len, hD.1]) (by simp) (fun r hr => (hD.2 r hr).1), gt_zeros, Nat.zero_xor, rowF_len]
  exact sumx_cong fun l hl => by rw [rowF_at hl]
theorem ra_byt (hD : Shp k n D) (t p : Nat) : gt (ra D t) p < 256 := by
  by_cases h : t < k
  · exact gt_lt (hD.row h).2 _
  · rw [show ra D t = [] by unfold ra; rw [List.getD_eq_getElem?_getD, List.getElem?_eq_none (by rw [hD.1]; omega)]; rfl, gt_ge (by exact Nat.zero_le _)]; omega
/-- The code is systematic. -/
theorem codeRow_data (hD : Shp k n D) {i : Nat} (hi : i < k) : codeRow k n D i = ra D i := by
  refine gt_ext (by rw [(codeRow_ok hD i).1, (hD.row hi).1]) fun p _ => ?_
  rw [codeRow_gt hD]
  rw [sumx_cong (g := fun l => gm (dl i l) (gt (ra D l) p)) fun l hl => by unfold fac; rw [if_pos hi]; rfl]
  exact sum_dl hi (ra_byt hD i p)
theorem planF_gt {us : List Nat} (hul : us.length = k) (hI : Inj k (useF k us)) (i j : Nat) (hj : j < k) : gt (planF k us i) j = sumx (fun l => gm (fac k i l) (invE (useF k us) k l j)) k := by
  have hs := inv_shp hul hI
  unfold planF
  rw [combF_gt (n := k) (rowF k i) _ _ (by rw [rowF_len, hs.1]) (by simp) (fun r hr => (hs.2 r hr).1), gt_zeros, Nat.zero_xor, rowF_len]
  exact sumx_cong fun l hl => by rw [rowF_at hl, mkF_ra hl, range_gt hj]
theorem planF_len {us : List Nat} (hul : us.length = k) (hI : Inj k (useF k us)) (i : Nat) : (planF k us i).length = k := (combF_ok _ _ _ (by simp) (byt_zeros k)).1
/-- Any k rows of a code, with the plan's factors, make any row of it. -/
theorem made_back {us : List Nat} {ss : Rws} (hD : Shp k n D) (hul : us.length = k) (hI : Inj k (useF k us)) (hss : ∀ u ∈ us, ra ss u = codeRow k n D u) (i : Nat) : madeF (planF k us i) us ss n = codeRow k n D i := by
  have hpl := planF_len hul hI i
  have hrl : ∀ r ∈ us.map (ra ss), r.length = n := fun r hr => by
    obtain ⟨u, hu, rfl⟩ := List.mem_map.1 hr
    rw [hss u hu]; exact (codeRow_ok hD u).1
  unfold madeF
  refine gt_ext (by rw [(combF_ok (m := n) _ _ _ (by simp) (byt_zeros n)).1, (codeRow_ok hD i).1]) fun p _ => ?_
  rw [combF_gt (n := n) _ _ _ (by rw [hpl, List.length_map, hul]) (by simp) hrl, gt_zeros, Nat.zero_xor, hpl, codeRow_gt hD]
  rw [← sum_back (r := fac k i) (d := fun t => gt (ra D t) p) (X := fun l j => invE (useF k us) k l j) (V := fun j t => gt (ra (useF k us) j) t) (fun t => ra_byt hD t p) (fun l t hl ht => inv_left (useF_shp hul) hI hl ht)]
  refine sumx_cong fun j hj => ?_
  rw [planF_gt hul hI i j hj, ra_map (by omega), hss _ (gt_mem (by omega)), codeRow_gt hD]
  congr 1
  refine sumx_cong fun t ht => ?_
  congr 1
  unfold useF
  rw [ra_map (by omega), rowF_at ht]
end
end
end Go.Proofs.YtihnlhfngmbglaaGreat
