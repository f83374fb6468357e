/-
  DriveCopies, walked.
-/
import Derived.Test.YtnceaimhhfjmdaaPlain09
set_option linter.unusedSimpArgs false
set_option linter.unusedVariables false
namespace Go.Proofs.Ytnceaimhhfjmdaa
open Go.RowKit Go.Cib
attribute [local go_sem] cell_set Later.cell Later.frozen Grw.cell Grw.frozen

/-- A drive (p) and two of the document's (x, y), in the midst of the law: all made since w. -/
structure Trio (w : World) (F Gx Gy : Nat → Prop) (wr : World) (p x y n : Nat) (st : DSt) (rx ry : RSt) : Prop where
  two : Two F Gx wr p x n st rx
  ry : RefAt Gy wr y n ry
  yf : ∀ k, Gy k → ¬ F k
  yg : ∀ k, Gy k → ¬ Gx k
  nf : ∀ k, F k → w.heap.size ≤ k
  ng : ∀ k, Gx k → w.heap.size ≤ k
  ny : ∀ k, Gy k → w.heap.size ≤ k
  below : Below w.heap.size w wr
theorem Trio.later {w wr w2 : World} {F Gx Gy : Nat → Prop} {p x y n : Nat} {st : DSt} {rx ry : RSt} (h : Trio w F Gx Gy wr p x y n st rx ry) (hb : Below wr.heap.size wr w2) : Trio w F Gx Gy w2 p x y n st rx ry :=
  ⟨h.two.below hb, h.ry.below hb, h.yf, h.yg, h.nf, h.ng, h.ny, h.below.trans (hb.mono h.below.size)⟩
theorem Trio.both {w wr w2 : World} {F Gx Gy : Nat → Prop} {p x y n : Nat} {st st' : DSt} {rx ry rx' : RSt} (h : Trio w F Gx Gy wr p x y n st rx ry) (hb : Both F Gx wr w2 p x n st' rx') : ∃ F' Gx', Trio w F' Gx' Gy w2 p x y n st' rx' ry ∧ (∀ k, F' k → k < wr.heap.size → F k) ∧ (∀ k, Gx' k → k < wr.heap.size → Gx k) ∧ Keep (fun k => F k ∨ Gx k) wr w2 := by
  obtain ⟨F', G', T, hF, hG, hK⟩ := hb
  have hs := h.below.size
  refine ⟨F', G', ⟨T, h.ry.keep hK (fun k hy hh => hh.elim (h.yf k hy) (h.yg k hy)), fun k hy hf => h.yf k hy (hF k hf (h.ry.lt hy)), fun k hy hf => h.yg k hy (hG k hf (h.ry.lt hy)), fun k hf => ?_, fun k hf => ?_, h.ny, h.below.trans (hK.below hs (fun k hh => hh.elim (h.nf k) (h.ng k)))⟩, hF, hG, hK⟩
  · by_cases hlt : k < wr.heap.size
    · exact h.nf k (hF k hf hlt)
    · omega
  · by_cases hlt : k < wr.heap.size
    · exact h.ng k (hG k hf hlt)
    · omega
theorem Trio.away {w wr : World} {F Gx Gy : Nat → Prop} {p x y n : Nat} {st : DSt} {rx ry : RSt} (h : Trio w F Gx Gy wr p x y n st rx ry) : ∀ b, b < w.heap.size → ¬ F b ∧ ¬ Gx b ∧ b < wr.heap.size := fun b hb =>
  ⟨fun hf => by have := h.nf b hf; omega, fun hf => by have := h.ng b hf; omega, by have := h.below.size; omega⟩
/-- A new drive beside y. -/
theorem Trio.two_y {w wr w1 w2 : World} {F Gx Gy F2 : Nat → Prop} {p x y n p2 : Nat} {st : DSt} {rx ry : RSt} (h : Trio w F Gx Gy wr p x y n st rx ry) (h2 : Below wr.heap.size wr w2) (hD : DrvAt F2 w2 p2 n (DSt.new n)) (hF2 : ∀ b, F2 b → w1.heap.size ≤ b) (h1 : wr.heap.size ≤ w1.heap.size) : Two F2 Gy w2 p2 y n (DSt.new n) ry :=
  ⟨hD, h.ry.below h2, fun k hf hy => by have := hF2 k hf; have := h.ry.lt hy; omega⟩
theorem Trio.away_y {w wr w1 w2 : World} {F Gx Gy F2 : Nat → Prop} {p x y n : Nat} {st : DSt} {rx ry : RSt} (h : Trio w F Gx Gy wr p x y n st rx ry) (h2 : Below wr.heap.size wr w2) (hF2 : ∀ b, F2 b → w1.heap.size ≤ b) (h1 : wr.heap.size ≤ w1.heap.size) : ∀ b, b < w.heap.size → ¬ F2 b ∧ ¬ Gy b ∧ b < w2.heap.size := fun b hb =>
  ⟨fun hf => by have := hF2 b hf; have := h.below.size; omega, fun hy => by have := h.ny b hy; omega, by have := h.below.size; have := h2.size; omega⟩
theorem Trio.both_y {w wr w1 w2 w3 : World} {F Gx Gy F2 : Nat → Prop} {p x y n p2 : Nat} {st st2 : DSt} {rx ry ry' : RSt} (h : Trio w F Gx Gy wr p x y n st rx ry) (h2 : Below wr.heap.size wr w2) (hF2 : ∀ b, F2 b → w1.heap.size ≤ b) (h1 : wr.heap.size ≤ w1.heap.size) (hb : Both F2 Gy w2 w3 p2 y n st2 ry') : ∃ Gy', Trio w F Gx Gy' w3 p x y n st rx ry' ∧ Below w.heap.size wr w3 := by
  obtain ⟨F', G', T, hF, hG, hK⟩ := hb
  have hs := h.below.size
  have hs2 := h2.size
  have hK' : Keep Gy wr w3 := (Keep.of_below (F := Gy) h2).trans (G := fun k => F2 k ∨ Gy k) hK (fun k hh hlt => hh.elim (fun hf => by have := hF2 k hf; omega) id)
  have hdr : ∀ k, F k → k < wr.heap.size := fun k hk => drvAt_lt h.two.d hk
  refine ⟨G', ⟨⟨h.two.d.keep hK' (fun k hf hy => h.yf k hy hf), h.two.r.keep hK' (fun k hg hy => h.yg k hy hg), h.two.fg⟩, T.r, fun k hy hf => ?_, fun k hy hf => ?_, h.nf, h.ng, fun k hy => ?_, h.below.trans (hK'.below hs h.ny)⟩, hK'.below hs h.ny⟩
  · have := hdr k hf; exact h.yf k (hG k hy (by omega)) hf
  · have := h.two.r.lt hf; exact h.yg k (hG k hy (by omega)) hf
  · by_cases hlt : k < w2.heap.size
    · exact h.ny k (hG k hy hlt)
    · omega

/-- Does the drive answer as the document's, whose like it is? -/
theorem alike_any {F G : Nat → Prop} {w : World} {p x n : Nat} {st : DSt} {rs : RSt} (hD : Hid (DrvAt F w p n st)) (hR : Hid (RefAt G w x n rs)) (h : Hid (Sim n st rs)) (z : Nat) (hz : z < n) (hcl : rs.size < 1000000) :
    Calls Try.prog 43 #[.pointer (some ⟨p, 0, none⟩), .pointer (some ⟨x, 0, none⟩), .int .i64 z] w fun e w' => e = .returned (.bool true) ∧ Below w.heap.size w w' := by
  unfold RSt.size at hcl
  cases hd : st.dead with
  | false => exact alike_live hD hR hd (h.out.dead ▸ hd) z hz (by omega) (by omega) (Lib.hid h.out.ok) (Lib.hid fun e he => (h.out.okw e he).2) (Lib.hid (h.out.seen hd hz)) (h.out.stored hd z hz) (h.out.rotten hd z hz)
  | true => exact alike_dead hD hR hd (h.out.dead ▸ hd) z (by omega)

set_option maxRecDepth 100000 in
theorem copies_bad (n : Int) (A0 A1 : Option Addr) (m0 c0 m1 c1 : Nat) (w : World) (h : ¬ (1 ≤ n ∧ n ≤ 20)) :
    Calls Try.prog 11 #[.int .i64 n, .slice A0 m0 c0, .slice A1 m1 c1] w fun e w' => e = .returned (.bool true) ∧ Below w.heap.size w w' := by
  by_cases h0 : n < 1
  · have d0 : decide (n < 1) = true := by simpa using h0
    go_enter Try.func11, Try.ntmps11
    go_wp2_with fail
    refine (stores_any w).mono ?_
    rintro e w' ⟨rfl, hb⟩
    go_wp2_with fail
    go_ret
    exact ⟨rfl, hb⟩
  have d0 : decide (n < 1) = false := by simpa using h0
  have d1 : decide (20 < n) = true := by simp; omega
  go_enter Try.func11, Try.ntmps11
  go_wp2_with fail
  refine (stores_any w).mono ?_
  rintro e w' ⟨rfl, hb⟩
  go_wp2_with fail
  go_ret
  exact ⟨rfl, hb⟩

set_option maxRecDepth 100000 in
set_option maxHeartbeats 8000000 in
theorem copies_good (n : Nat) (A0 A1 : Option Addr) (m0 c0 m1 c1 : Nat) (w : World) (h1 : 1 ≤ n) (h20 : n ≤ 20) {l0 l1 : List ActV}
    (R0 : Hid (RdL ActR 7 (fun _ => True) w A0 m0 l0)) (R1 : Hid (RdL ActR 7 (fun _ => True) w A1 m1 l1)) :
    Calls Try.prog 11 #[.int .i64 n, .slice A0 m0 c0, .slice A1 m1 c1] w fun e w' => e = .returned (.bool true) ∧ Below w.heap.size w w' := by
  replace R0 : Hid (RdL ActR 7 (fun b => b < w.heap.size) w A0 m0 l0) := Lib.hid (R0.out.stable ActR.stable (fun b _ hlt => ⟨hlt, rfl⟩))
  replace R1 : Hid (RdL ActR 7 (fun b => b < w.heap.size) w A1 m1 l1) := Lib.hid (R1.out.stable ActR.stable (fun b _ hlt => ⟨hlt, rfl⟩))
  have hfin : ∀ w', Below w.heap.size w w' → Calls Try.prog 12 #[] w' fun e w'' => e = .returned (.bool true) ∧ Below w.heap.size w w'' := fun w' h => (stores_any w').mono fun e w'' ⟨h1, h2⟩ => ⟨h1, h.trans (h2.mono h.size)⟩
  have HF := Lib.hid hfin
  clear hfin
  have d0 : (1 : Int) ≤ n := by omega
  have d1 : (n : Int) ≤ 20 := by omega
  go_enter Try.func11, Try.ntmps11
  go_wp2_with fail
  refine (few_any R0).mono ?_
  rintro e v1 ⟨⟨r0, rfl, hm0⟩, s1⟩
  cases r0 with
  | false =>
    have S1 := Lib.hid s1
    clear s1 hm0
    go_wp2_with fail
    refine (HF.out v1 S1.out).mono ?_
    rintro e w' ⟨rfl, hb⟩
    go_wp2_with fail
    go_ret
    exact ⟨rfl, hb⟩
  | true =>
  replace hm0 := hm0 rfl
  have S1 := Lib.hid s1
  have R1v := Lib.hid (R1.out.below ActR.stable s1)
  clear s1
  go_wp2_with fail
  refine (few_any R1v).mono ?_
  rintro e v2 ⟨⟨r1, rfl, hm1⟩, s2⟩
  have S2 := Lib.hid (S1.out.trans (s2.mono S1.out.size))
  clear s2 R1v S1
  cases r1 with
  | false =>
    clear hm1
    go_wp2_with fail
    refine (HF.out v2 S2.out).mono ?_
    rintro e w' ⟨rfl, hb⟩
    go_wp2_with fail
    go_ret
    exact ⟨rfl, hb⟩
  | true =>
  replace hm1 := hm1 rfl
  go_wp2_with fail
  refine (new_good n (by omega) (by omega) v2).mono ?_
  rintro e w1 ⟨p, F1, rfl, D1, hF1, t1⟩
  replace D1 := Lib.hid D1
  replace hF1 := Lib.hid hF1
  replace t1 := Lib.hid t1
  go_wp2_with fail
  refine (rnew_good n (by omega) (by omega) w1).mono ?_
  rintro e w2 ⟨x, Gx, rfl, Rx, hGx, t2⟩
  replace Rx := Lib.hid Rx
  replace hGx := Lib.hid hGx
  replace t2 := Lib.hid t2
  go_wp2_with fail
  refine (rnew_good n (by omega) (by omega) w2).mono ?_
  rintro e w3 ⟨y, Gy, rfl, Ry, hGy, t3⟩
  have T : Hid (Trio w F1 Gx Gy w3 p x y n (stD n (DSt.new n) (l0.take 0)) (stR n RSt.new (l0.take 0)) (stR n RSt.new (l0.take 0))) := by
    have q1 := S2.out.size; have q2 := t1.out.size; have q3 := t2.out.size
    have l1 : ∀ k, F1 k → k < w1.heap.size := fun k hk => drvAt_lt D1.out hk
    have l2 : ∀ k, Gx k → k < w2.heap.size := fun k hk => Rx.out.lt hk
    have hF := hF1.out; have hX := hGx.out
    exact Lib.hid ⟨⟨(D1.out.below t2.out).below t3, Rx.out.below t3, fun k hf hg => by have := l1 k hf; have := hX k hg; omega⟩, Ry, fun k hy hf => by have := l1 k hf; have := hGy k hy; omega, fun k hy hf => by have := l2 k hf; have := hGy k hy; omega,
      fun k hf => by have := hF k hf; omega, fun k hf => by have := hX k hf; omega, fun k hf => by have := hGy k hf; omega, S2.out.trans ((t1.out.trans ((t2.out.trans (t3.mono q3)).mono q2)).mono q1)⟩
  clear D1 hF1 t1 Rx hGx t2 Ry hGy t3 S2
  go_wp2_with fail
  go_loopw [10] (fun vi wr => ∃ (i : Nat) (F Gx Gy : Nat → Prop), i ≤ m0 ∧ vi = .int .i64 i ∧ Hid (Trio w F Gx Gy wr p x y n (stD n (DSt.new n) (l0.take i)) (stR n RSt.new (l0.take i)) (stR n RSt.new (l0.take i))) ∧ Hid (Sim n (stD n (DSt.new n) (l0.take i)) (stR n RSt.new (l0.take i))) ∧ Hid ((stR n RSt.new (l0.take i)).size ≤ i)) (fun vi _ => m0 - (intOf vi).toNat)
  case atStart => exact ⟨0, F1, Gx, Gy, Nat.zero_le _, rfl, T, Lib.hid (Sim.new n), Lib.hid (Nat.le_refl _)⟩
  case round =>
    clear T
    obtain ⟨wo, rfl⟩ : ∃ wo, wo = wr := ⟨_, rfl⟩
    obtain ⟨i, F, Gx, Gy, hi, rfl, T, hsim, hsz⟩ := hrel
    by_cases hlt : i < m0
    · obtain ⟨b, o, a, KA, km, kc, BA, bm, bc, rfl, hx, hk, hb, hcells⟩ := act_at R0.out hlt
      have hcache := congrArg List.length hsim.out.cache
      rw [List.length_map] at hcache
      have hsz1 := hsz.out
      unfold RSt.size at hsz1
      have hc1 : (stD n (DSt.new n) (l0.take i)).cache.length < 1000000 := by omega
      have hc2 : (stR n RSt.new (l0.take i)).L.length + (stR n RSt.new (l0.take i)).wait.length < 1000000 := by omega
      obtain ⟨y0, y1, y2, y3, y4, y5, y6⟩ := hcells wo T.out.below
      have HC := Lib.hid hcells
      have h1 : (i : Int) < (m0 : Int) := by omega
      have h2 : (0 : Int) ≤ (i : Int) := Int.natCast_nonneg _
      have HK := Lib.hid hk
      have HB := Lib.hid hb
      have htk : l0.take (i + 1) = l0.take i ++ [a] := by
        have hil : i < l0.length := (List.getElem?_eq_some_iff.1 hx).1
        rw [List.take_succ_eq_append_getElem hil, (List.getElem?_eq_some_iff.1 hx).2]
      have HTK := Lib.hid htk
      have HSZ : Hid ((stR n RSt.new (l0.take (i + 1))).size ≤ i + 1) := Lib.hid (by rw [htk, stR_snoc]; have := actR_size n (stR n RSt.new (l0.take i)) a; have := hsz.out; omega)
      have HSM : Hid (Sim n (stD n (DSt.new n) (l0.take (i + 1))) (stR n RSt.new (l0.take (i + 1)))) := Lib.hid (by rw [htk, stR_snoc, stD_snoc]; exact hsim.out.act T.out.two.d.ok a)
      clear hcells hk hb hcache hsz1 htk hx
      go_wp2_with fail
      refine (act_any (Lib.hid T.out.two) hc1 hc2 a (Lib.hid (HK.out.below BoolR.stable T.out.below)) (Lib.hid (HB.out.below U8R.stable T.out.below)) T.out.away).mono ?_
      rintro e w1 ⟨⟨ra, rfl⟩, u1⟩
      obtain ⟨F', Gx', T1, _, _, _⟩ := T.out.both u1
      replace T1 := Lib.hid T1
      clear y0 y1 y2 y3 y4 y5 y6 u1
      have HC1 := Lib.hid fun w' (h : Below w.heap.size w1 w') => HC.out w' (T1.out.below.trans h)
      have y0 := fun w' h => (HC1.out w' h).1
      have y1 := fun w' h => (HC1.out w' h).2.1
      have y2 := fun w' h => (HC1.out w' h).2.2.1
      have y3 := fun w' h => (HC1.out w' h).2.2.2.1
      have y4 := fun w' h => (HC1.out w' h).2.2.2.2.1
      have y5 := fun w' h => (HC1.out w' h).2.2.2.2.2.1
      have y6 := fun w' h => (HC1.out w' h).2.2.2.2.2.2
      clear HC HC1
      go_wp2_with fail
      refine wp_region_held_drew (S := fun w' => Below w.heap.size w1 w') (by kernel_rfl) (by first | exact (Below.refl _ _).drew | exact Below.refl _ _ | assumption) (fun hHeld => ?_)
      refine wpAnyH_take (i := 0) (v := ?_) rfl (by kernel_rfl) (by kernel_rfl) (by kernel_rfl) (fun _ _ _ h => h) (Or.inl ⟨by rfl, ?_⟩) (by assumption) ?_
      rotate_left
      · (intro wq hSw; (try dsimp only at hSw); (try simp only [List.getElem_toArray, List.getElem_cons_succ, List.getElem_cons_zero]); go_simp); try with_reducible rfl
      try simp only [List.getElem_toArray, List.getElem_cons_succ, List.getElem_cons_zero, Act.put, List.setIfInBounds_toArray, List.set_cons_zero, List.set_cons_succ]
      refine wpAnyH_take (i := 2) (v := ?_) rfl (by kernel_rfl) (by kernel_rfl) (by kernel_rfl) (fun _ _ _ h => h) (Or.inl ⟨by rfl, ?_⟩) (by assumption) ?_
      rotate_left
      · (intro wq hSw; (try dsimp only at hSw); (try simp only [List.getElem_toArray, List.getElem_cons_succ, List.getElem_cons_zero]); go_simp); try with_reducible rfl
      try simp only [List.getElem_toArray, List.getElem_cons_succ, List.getElem_cons_zero, Act.put, List.setIfInBounds_toArray, List.set_cons_zero, List.set_cons_succ]
      refine wpAnyH_take (i := 3) (v := ?_) rfl (by kernel_rfl) (by kernel_rfl) (by kernel_rfl) (fun _ _ _ h => h) (Or.inl ⟨by rfl, ?_⟩) (by assumption) ?_
      rotate_left
      · (intro wq hSw; (try dsimp only at hSw); (try simp only [List.getElem_toArray, List.getElem_cons_succ, List.getElem_cons_zero]); go_simp); try with_reducible rfl
      try simp only [List.getElem_toArray, List.getElem_cons_succ, List.getElem_cons_zero, Act.put, List.setIfInBounds_toArray, List.set_cons_zero, List.set_cons_succ]
      refine wpAnyH_take (i := 4) (v := ?_) rfl (by kernel_rfl) (by kernel_rfl) (by kernel_rfl) (fun _ _ _ h => h) (Or.inl ⟨by rfl, ?_⟩) (by assumption) ?_
      rotate_left
      · (intro wq hSw; (try dsimp only at hSw); (try simp only [List.getElem_toArray, List.getElem_cons_succ, List.getElem_cons_zero]); go_simp); try with_reducible rfl
      try simp only [List.getElem_toArray, List.getElem_cons_succ, List.getElem_cons_zero, Act.put, List.setIfInBounds_toArray, List.set_cons_zero, List.set_cons_succ]
      refine wpAnyH_take (i := 5) (v := ?_) rfl (by kernel_rfl) (by kernel_rfl) (by kernel_rfl) (fun _ _ _ h => h) (Or.inl ⟨by rfl, ?_⟩) (by assumption) ?_
      rotate_left
      · (intro wq hSw; (try dsimp only at hSw); (try simp only [List.getElem_toArray, List.getElem_cons_succ, List.getElem_cons_zero]); go_simp); try with_reducible rfl
      try simp only [List.getElem_toArray, List.getElem_cons_succ, List.getElem_cons_zero, Act.put, List.setIfInBounds_toArray, List.set_cons_zero, List.set_cons_succ]
      refine wpAnyH_take (i := 6) (v := ?_) rfl (by kernel_rfl) (by kernel_rfl) (by kernel_rfl) (fun _ _ _ h => h) (Or.inl ⟨by rfl, ?_⟩) (by assumption) ?_
      rotate_left
      · (intro wq hSw; (try dsimp only at hSw); (try simp only [List.getElem_toArray, List.getElem_cons_succ, List.getElem_cons_zero]); go_simp); try with_reducible rfl
      try simp only [List.getElem_toArray, List.getElem_cons_succ, List.getElem_cons_zero, Act.put, List.setIfInBounds_toArray, List.set_cons_zero, List.set_cons_succ]
      refine wpAnyH_ready (rs := [1]) (by kernel_rfl) (by simp) ?_
      refine AllReadyH.cons rfl (fun K hK => ?_) AllReadyH.nil
      try simp only [List.getElem_toArray, List.getElem_cons_succ, List.getElem_cons_zero]
      go_simp
      refine (new_good n (by omega) (by omega) _).mono ?_
      rintro e w2 ⟨p2, F2, rfl, D2, hF2, t2⟩
      have tq2 : Below w1.heap.size w1 w2 := below_then t2 (Below.refl _ _).drew
      have ts2 := tq2.mono T1.out.below.size
      try (go_wp2_with fail)
      refine hK.out _ _ (by first | exact (Below.refl _ _).drew | exact Below.refl _ _ | assumption) (fun hHeld => ?_)
      clear hK K
      try simp only [List.getElem_toArray, List.getElem_cons_succ, List.getElem_cons_zero, Act.put, List.setIfInBounds_toArray, List.set_cons_zero, List.set_cons_succ]
      refine wpAnyH_ready (rs := [7]) (by kernel_rfl) (by simp) ?_
      refine AllReadyH.cons rfl (fun K hK => ?_) AllReadyH.nil
      try simp only [List.getElem_toArray, List.getElem_cons_succ, List.getElem_cons_zero]
      go_simp
      refine (act_any (Lib.hid (T1.out.two_y tq2 D2 hF2 (Nat.le_refl _))) (by simp [DSt.new]) hc2 a (Lib.hid ((HK.out.below BoolR.stable T1.out.below).below BoolR.stable tq2)) (Lib.hid ((HB.out.below U8R.stable T1.out.below).below U8R.stable tq2)) (T1.out.away_y tq2 hF2 (Nat.le_refl _))).mono ?_
      rintro e w3 ⟨⟨r2, rfl⟩, u3⟩
      obtain ⟨Gy', T3, ts3⟩ := T1.out.both_y tq2 hF2 (Nat.le_refl _) u3
      replace T3 := Lib.hid T3
      try (go_wp2_with fail)
      refine hK.out _ _ (by first | exact (Below.refl _ _).drew | exact Below.refl _ _ | assumption) (fun hHeld => ?_)
      clear hK K
      try simp only [List.getElem_toArray, List.getElem_cons_succ, List.getElem_cons_zero, Act.put, List.setIfInBounds_toArray, List.set_cons_zero, List.set_cons_succ]
      refine wpAnyH_done (by kernel_rfl) ?_ _
      go_wp2_with fail
      refine ⟨⟨i + 1, F', Gx', Gy', by omega, by go_num, ?_, HSM, HSZ⟩, by simp [intOf]; omega⟩
      rw [HTK.out, stD_snoc, stR_snoc]
      exact T3
    · obtain rfl : i = m0 := by omega
      have hl0 : l0.take i = l0 := by rw [List.take_of_length_le]; rw [R0.out.1]; exact Nat.le_refl _
      rw [hl0] at T hsim hsz
      clear hl0
      obtain ⟨st1, hst1⟩ : ∃ s, stD n (DSt.new n) l0 = s := ⟨_, rfl⟩
      obtain ⟨rs1, hrs1⟩ : ∃ s, stR n RSt.new l0 = s := ⟨_, rfl⟩
      rw [hst1, hrs1] at T hsim
      rw [hrs1] at hsz
      clear hst1 hrs1
      have hcache := congrArg List.length hsim.out.cache
      rw [List.length_map] at hcache
      have hsz1 := hsz.out
      unfold RSt.size at hsz1
      have hc1 : st1.cache.length < 1000000 := by omega
      have h1 : ¬ (i : Int) < (i : Int) := by omega
      clear hcache hsz1
      go_wp2_with fail
      refine (copy_any (Lib.hid T.out.two.d) hc1).mono ?_
      rintro e w1 ⟨pc, Fc, rfl, Dc, hFc, t1⟩
      have T0 : Hid (Trio w F Gx Gy w1 p x y n (stD n st1 (l1.take 0)) (stR n rs1 (l1.take 0)) rs1) := Lib.hid (T.out.later t1)
      have C0 := Lib.hid Dc
      have A0 : Hid (∀ k, Fc k → ¬ F k ∧ ¬ Gx k ∧ ¬ Gy k) := Lib.hid fun k hk => ⟨fun hf => by have := hFc k hk; have := drvAt_lt T.out.two.d hf; omega, fun hf => by have := hFc k hk; have := T.out.two.r.lt hf; omega, fun hf => by have := hFc k hk; have := T.out.ry.lt hf; omega⟩
      clear Dc hFc t1 T h1 hc1
      go_wp2_with fail
      go_loopw [12] (fun vi wr => ∃ (j : Nat) (F Gx : Nat → Prop), j ≤ m1 ∧ vi = .int .i64 j ∧ Hid (Trio w F Gx Gy wr p x y n (stD n st1 (l1.take j)) (stR n rs1 (l1.take j)) rs1) ∧ Hid (DrvAt Fc wr pc n st1) ∧ Hid (∀ k, Fc k → ¬ F k ∧ ¬ Gx k ∧ ¬ Gy k) ∧ Hid (Sim n (stD n st1 (l1.take j)) (stR n rs1 (l1.take j))) ∧ Hid ((stR n rs1 (l1.take j)).size ≤ i + j)) (fun vi _ => m1 - (intOf vi).toNat)
      case atStart => exact ⟨0, F, Gx, Nat.zero_le _, rfl, T0, C0, A0, hsim, hsz⟩
      case round =>
        clear T0 C0 A0
        obtain ⟨wo2, rfl⟩ : ∃ wo, wo = wr := ⟨_, rfl⟩
        obtain ⟨j, F, Gx, hj, rfl, T, C, AP, hsim2, hsz2⟩ := hrel
        have hcache := congrArg List.length hsim2.out.cache
        rw [List.length_map] at hcache
        have hsz1 := hsz2.out
        unfold RSt.size at hsz1
        by_cases hlt : j < m1
        · obtain ⟨b, o, a, KA, km, kc, BA, bm, bc, rfl, hx, hk, hb, hcells⟩ := act_at R1.out hlt
          have hc1 : (stD n st1 (l1.take j)).cache.length < 1000000 := by omega
          have hc2 : (stR n rs1 (l1.take j)).L.length + (stR n rs1 (l1.take j)).wait.length < 1000000 := by omega
          obtain ⟨y0, y1, y2, y3, y4, y5, y6⟩ := hcells wo2 T.out.below
          have h1 : (j : Int) < (m1 : Int) := by omega
          have h2 : (0 : Int) ≤ (j : Int) := Int.natCast_nonneg _
          have HK := Lib.hid hk
          have HB := Lib.hid hb
          have htk : l1.take (j + 1) = l1.take j ++ [a] := by
            have hil : j < l1.length := (List.getElem?_eq_some_iff.1 hx).1
            rw [List.take_succ_eq_append_getElem hil, (List.getElem?_eq_some_iff.1 hx).2]
          have HTK := Lib.hid htk
          have HSZ : Hid ((stR n rs1 (l1.take (j + 1))).size ≤ i + (j + 1)) := Lib.hid (by rw [htk, stR_snoc]; have := actR_size n (stR n rs1 (l1.take j)) a; have := hsz2.out; omega)
          have HSM : Hid (Sim n (stD n st1 (l1.take (j + 1))) (stR n rs1 (l1.take (j + 1)))) := Lib.hid (by rw [htk, stR_snoc, stD_snoc]; exact hsim2.out.act T.out.two.d.ok a)
          clear hcells hk hb hcache hsz1 htk hx
          go_wp2_with fail
          refine (act_any (Lib.hid T.out.two) hc1 hc2 a (Lib.hid (HK.out.below BoolR.stable T.out.below)) (Lib.hid (HB.out.below U8R.stable T.out.below)) T.out.away).mono ?_
          rintro e w1 ⟨⟨ra, rfl⟩, u1⟩
          obtain ⟨F', Gx', T1, hF', hG', hK'⟩ := T.out.both u1
          have C1 := Lib.hid (C.out.keep hK' (fun k hc hh => hh.elim (AP.out k hc).1 (AP.out k hc).2.1))
          have A1 : Hid (∀ k, Fc k → ¬ F' k ∧ ¬ Gx' k ∧ ¬ Gy k) := Lib.hid fun k hc => ⟨fun hf => (AP.out k hc).1 (hF' k hf (drvAt_lt C.out hc)), fun hf => (AP.out k hc).2.1 (hG' k hf (drvAt_lt C.out hc)), (AP.out k hc).2.2⟩
          replace T1 := Lib.hid T1
          clear y0 y1 y2 y3 y4 y5 y6 u1 hF' hG' hK'
          go_wp2_with fail
          refine ⟨⟨j + 1, F', Gx', by omega, by go_num, ?_, C1, A1, HSM, HSZ⟩, by simp [intOf]; omega⟩
          rw [HTK.out, stD_snoc, stR_snoc]
          exact T1
        · obtain rfl : j = m1 := by omega
          have hl1 : l1.take j = l1 := by rw [List.take_of_length_le]; rw [R1.out.1]; exact Nat.le_refl _
          rw [hl1] at T hsim2 hsz2 hsz1 hcache
          clear hl1
          obtain ⟨st2, hst2⟩ : ∃ s, stD n st1 l1 = s := ⟨_, rfl⟩
          obtain ⟨rs2, hrs2⟩ : ∃ s, stR n rs1 l1 = s := ⟨_, rfl⟩
          rw [hst2, hrs2] at T hsim2
          rw [hrs2] at hsz2
          clear hst2 hrs2 hsz1 hcache
          have hb1 : rs1.size < 1000000 := by have := hsz.out; omega
          have hb2 : rs2.size < 1000000 := by have := hsz2.out; omega
          have h1 : ¬ (j : Int) < (j : Int) := by omega
          go_wp2_with fail
          clear h1
          go_loopw [13] (fun vi wr => ∃ z : Nat, z ≤ n ∧ vi = .int .i64 z ∧ Hid (Below wo2.heap.size wo2 wr)) (fun vi _ => n - (intOf vi).toNat)
          case atStart => exact ⟨0, Nat.zero_le _, rfl, Lib.hid (Below.refl _ _)⟩
          case round =>
            obtain ⟨z, hz, rfl, hbl⟩ := hrel
            by_cases hlt : z < n
            · have h1 : (z : Int) < (n : Int) := by omega
              go_wp2_with fail
              refine (alike_any (Lib.hid (C.out.below hbl.out)) (Lib.hid (T.out.ry.below hbl.out)) hsim z hlt hb1).mono ?_
              rintro e w1 ⟨rfl, t1⟩
              have t1' := Lib.hid (below_then t1 hbl.out)
              clear t1
              go_wp2_with fail
              refine (alike_any (Lib.hid (T.out.two.d.below t1'.out)) (Lib.hid (T.out.two.r.below t1'.out)) hsim2 z hlt hb2).mono ?_
              rintro e w2 ⟨rfl, t2⟩
              have t2' := Lib.hid (below_then t2 t1'.out)
              clear t2
              go_wp2_with fail
              exact ⟨⟨z + 1, by omega, by go_num, t2'⟩, by simp [intOf]; omega⟩
            · obtain rfl : z = n := by omega
              have h1 : ¬ (z : Int) < (z : Int) := by omega
              go_wp2_with fail
              clear h1
              obtain ⟨sb, sc, rb, rc, A, cc, mb, H⟩ := (C.out.below hbl.out).box
              have hcache := congrArg List.length hsim.out.cache
              rw [List.length_map] at hcache
              rw [hcache] at H
              obtain ⟨Sb, vL, vW, hB, _⟩ := T.out.ry.below hbl.out
              obtain ⟨AW, cW, rfl⟩ := ownL_form hB.oW
              have hyl := hB.box.lt
              have q2 : wr.cell? ⟨y, 2, none⟩ = some (.slice AW rs1.wait.length cW) := hB.box.cell 2
              have q := fun w' (h : Below wr.heap.size wr w') => (h.cell (p := ⟨y, 2, none⟩) hyl).trans q2
              have W0 := Lib.hid (T.out.below.trans (hbl.out.mono T.out.below.size))
              clear hcache hB q2 hyl C T AP hsim hsim2 hbl
              refine wp_region_held_drew (S := fun w' => Below wr.heap.size wr w') (by kernel_rfl) (by first | exact (Below.refl _ _).drew | exact Below.refl _ _ | assumption) (fun hHeld => ?_)
              refine wpAnyH_take (i := 0) (v := ?_) rfl (by kernel_rfl) (by kernel_rfl) (by kernel_rfl) (fun _ _ _ h => h) (Or.inl ⟨by rfl, ?_⟩) (by assumption) ?_
              rotate_left
              · (intro wq hSw; (try dsimp only at hSw); (try simp only [List.getElem_toArray, List.getElem_cons_succ, List.getElem_cons_zero]); go_simp); try with_reducible rfl
              try simp only [List.getElem_toArray, List.getElem_cons_succ, List.getElem_cons_zero, Act.put, List.setIfInBounds_toArray, List.set_cons_zero, List.set_cons_succ]
              refine wpAnyH_take (i := 2) (v := ?_) rfl (by kernel_rfl) (by kernel_rfl) (by kernel_rfl) (fun _ _ _ h => h) (Or.inl ⟨by rfl, ?_⟩) (by assumption) ?_
              rotate_left
              · (intro wq hSw; (try dsimp only at hSw); (try simp only [List.getElem_toArray, List.getElem_cons_succ, List.getElem_cons_zero]); go_simp); try with_reducible rfl
              try simp only [List.getElem_toArray, List.getElem_cons_succ, List.getElem_cons_zero, Act.put, List.setIfInBounds_toArray, List.set_cons_zero, List.set_cons_succ]
              refine wpAnyH_take (i := 3) (v := ?_) rfl (by kernel_rfl) (by kernel_rfl) (by kernel_rfl) (fun _ _ _ h => h) (Or.inl ⟨by rfl, ?_⟩) (by assumption) ?_
              rotate_left
              · (intro wq hSw; (try dsimp only at hSw); (try simp only [List.getElem_toArray, List.getElem_cons_succ, List.getElem_cons_zero]); go_simp); try with_reducible rfl
              try simp only [List.getElem_toArray, List.getElem_cons_succ, List.getElem_cons_zero, Act.put, List.setIfInBounds_toArray, List.set_cons_zero, List.set_cons_succ]
              refine wpAnyH_take (i := 4) (v := ?_) rfl (by kernel_rfl) (by kernel_rfl) (by kernel_rfl) (fun _ _ _ h => h) (Or.inl ⟨by rfl, ?_⟩) (by assumption) ?_
              rotate_left
              · (intro wq hSw; (try dsimp only at hSw); (try simp only [List.getElem_toArray, List.getElem_cons_succ, List.getElem_cons_zero]); go_simp); try with_reducible rfl
              try simp only [List.getElem_toArray, List.getElem_cons_succ, List.getElem_cons_zero, Act.put, List.setIfInBounds_toArray, List.set_cons_zero, List.set_cons_succ]
              refine wpAnyH_take (i := 5) (v := ?_) rfl (by kernel_rfl) (by kernel_rfl) (by kernel_rfl) (fun _ _ _ h => h) (Or.inl ⟨by rfl, ?_⟩) (by assumption) ?_
              rotate_left
              · (intro wq hSw; (try dsimp only at hSw); (try simp only [List.getElem_toArray, List.getElem_cons_succ, List.getElem_cons_zero]); go_simp); try with_reducible rfl
              try simp only [List.getElem_toArray, List.getElem_cons_succ, List.getElem_cons_zero, Act.put, List.setIfInBounds_toArray, List.set_cons_zero, List.set_cons_succ]
              refine wpAnyH_take (i := 6) (v := ?_) rfl (by kernel_rfl) (by kernel_rfl) (by kernel_rfl) (fun _ _ _ h => h) (Or.inl ⟨by rfl, ?_⟩) (by assumption) ?_
              rotate_left
              · (intro wq hSw; (try dsimp only at hSw); (try simp only [List.getElem_toArray, List.getElem_cons_succ, List.getElem_cons_zero]); go_simp); try with_reducible rfl
              try simp only [List.getElem_toArray, List.getElem_cons_succ, List.getElem_cons_zero, Act.put, List.setIfInBounds_toArray, List.set_cons_zero, List.set_cons_succ]
              refine wpAnyH_ready (rs := [1]) (by kernel_rfl) (by simp) ?_
              refine AllReadyH.cons rfl (fun K hK => ?_) AllReadyH.nil
              try simp only [List.getElem_toArray, List.getElem_cons_succ, List.getElem_cons_zero]
              go_simp
              refine (waits_any (Lib.hid (H.out.below hHeld))).mono ?_
              rintro e w1 ⟨rfl, t1⟩
              have tq1 := below_then t1 (by assumption)
              try (go_wp2_with fail)
              refine hK.out _ _ (by first | exact (Below.refl _ _).drew | exact Below.refl _ _ | assumption) (fun hHeld => ?_)
              clear hK K
              try simp only [List.getElem_toArray, List.getElem_cons_succ, List.getElem_cons_zero, Act.put, List.setIfInBounds_toArray, List.set_cons_zero, List.set_cons_succ]
              refine wpAnyH_take (i := 7) (v := ?_) rfl (by kernel_rfl) (by kernel_rfl) (by kernel_rfl) (fun _ _ _ h => h) (Or.inl ⟨by rfl, ?_⟩) (by assumption) ?_
              rotate_left
              · (intro wq hSw; (try dsimp only at hSw); (try simp only [List.getElem_toArray, List.getElem_cons_succ, List.getElem_cons_zero]); go_simp); try with_reducible rfl
              try simp only [List.getElem_toArray, List.getElem_cons_succ, List.getElem_cons_zero, Act.put, List.setIfInBounds_toArray, List.set_cons_zero, List.set_cons_succ]
              refine wpAnyH_take (i := 8) (v := ?_) rfl (by kernel_rfl) (by kernel_rfl) (by kernel_rfl) (fun _ _ _ h => h) (Or.inl ⟨by rfl, ?_⟩) (by assumption) ?_
              rotate_left
              · (intro wq hSw; (try dsimp only at hSw); (try simp only [List.getElem_toArray, List.getElem_cons_succ, List.getElem_cons_zero]); go_simp); try with_reducible rfl
              try simp only [List.getElem_toArray, List.getElem_cons_succ, List.getElem_cons_zero, Act.put, List.setIfInBounds_toArray, List.set_cons_zero, List.set_cons_succ]
              refine wpAnyH_ready (rs := [9]) (by kernel_rfl) (by simp) ?_
              refine AllReadyH.cons rfl (fun K hK => ?_) AllReadyH.nil
              try simp only [List.getElem_toArray, List.getElem_cons_succ, List.getElem_cons_zero]
              go_simp
              refine (stores_any _).mono ?_
              rintro e w2 ⟨rfl, t2⟩
              have tq2 := below_then t2 (by assumption)
              try (go_wp2_with fail)
              refine hK.out _ _ (by first | exact (Below.refl _ _).drew | exact Below.refl _ _ | assumption) (fun hHeld => ?_)
              clear hK K
              try simp only [List.getElem_toArray, List.getElem_cons_succ, List.getElem_cons_zero, Act.put, List.setIfInBounds_toArray, List.set_cons_zero, List.set_cons_succ]
              refine wpAnyH_take (i := 10) (v := ?_) rfl (by kernel_rfl) (by kernel_rfl) (by kernel_rfl) (fun _ _ _ h => h) (Or.inl ⟨by rfl, ?_⟩) (by assumption) ?_
              rotate_left
              · (intro wq hSw; (try dsimp only at hSw); (try simp only [List.getElem_toArray, List.getElem_cons_succ, List.getElem_cons_zero]); go_simp); try with_reducible rfl
              try simp only [List.getElem_toArray, List.getElem_cons_succ, List.getElem_cons_zero, Act.put, List.setIfInBounds_toArray, List.set_cons_zero, List.set_cons_succ]
              refine wpAnyH_take (i := 11) (v := ?_) rfl (by kernel_rfl) (by kernel_rfl) (by kernel_rfl) (fun _ _ _ h => h) (Or.inl ⟨by rfl, ?_⟩) (by assumption) ?_
              rotate_left
              · (intro wq hSw; (try dsimp only at hSw); (try simp only [List.getElem_toArray, List.getElem_cons_succ, List.getElem_cons_zero]); go_simp); try with_reducible rfl
              try simp only [List.getElem_toArray, List.getElem_cons_succ, List.getElem_cons_zero, Act.put, List.setIfInBounds_toArray, List.set_cons_zero, List.set_cons_succ]
              refine wpAnyH_done (by kernel_rfl) ?_ _
              go_wp2_with fail
              go_ret
              exact ⟨rfl, W0.out.trans (tq2.mono W0.out.size)⟩
end Go.Proofs.Ytnceaimhhfjmdaa
