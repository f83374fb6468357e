/-
  A stripe that was put and flushed; drives that lost a place: plain.
  What was put is got, though m shards are lost; with one more it isn't: the walk.
  A geometry among the arguments; bounds of whole numbers.
-/
import Derived.Test.YteialipoedmmmaaGreatSb13
import Derived.Test.YteialipoedmmmaaGreatSb4
import Derived.Test.YteialipoedmmmaaGreatSb2
set_option linter.unusedSimpArgs false
set_option linter.unusedVariables false
namespace Go.Proofs.YteialipoedmmmaaGreat
open Go.RowKit Go.Cib
attribute [local go_sem] cell_set Later.cell Later.frozen Grw.cell Grw.frozen
theorem flush_at {n k N d : Nat} {r : Ref} (hr : r.ok n) {xs : List Nat} (hx : Byt xs) {st : DSt} (h : ((putS n k N r xs).map flushG)[d]? = some st) : HasS k N r xs d st ∧ st.cache = [] ∧ st.ok n := by
  rw [List.getElem?_map] at h
  cases h1 : (putS n k N r xs)[d]? with
  | none => rw [h1] at h; cases h
  | some s1 =>
    rw [h1] at h
    obtain rfl := Option.some.inj h
    obtain ⟨rfl, hd⟩ := putS_at h1
    have hl : (putQ n k N r xs d (DSt.new n)).dead = false := by rw [putQ_live hr hx rfl]; rfl
    have hok : (putQ n k N r xs d (DSt.new n)).ok n := by
      rw [putQ_live hr hx rfl]
      exact (DSt.ok.new n).write (wrI_len (x := putX k N r xs d) (row44 hx k _).1) ⟨by omega, by have := hr.p; omega⟩
    unfold flushG
    rw [if_pos hl]
    refine ⟨⟨hl, ?_⟩, rfl, hok.settle _⟩
    rw [hok.seen_flush hr.p, putQ_live hr hx rfl, DSt.seen_write, if_pos rfl]
theorem cnt_live {sts : List DSt} (h : ∀ st ∈ sts, st.dead = false) : cnt (aliveL sts) = sts.length := by
  induction sts with
  | nil => rfl
  | cons s l ih =>
    have h1 := h s (List.mem_cons_self ..)
    have h2 := ih fun st hst => h st (List.mem_cons_of_mem _ hst)
    unfold aliveL cnt at h2 ⊢
    simp only [List.map_cons, h1, Bool.not_false]
    rw [List.count_cons_self, List.length_cons, h2]
theorem filter_mono {α : Type} {p q : α → Bool} (h : ∀ x, p x = true → q x = true) : ∀ l : List α, (l.filter p).length ≤ (l.filter q).length
  | [] => Nat.le_refl _
  | x :: l => by
    have ih := filter_mono h l
    cases hp : p x with
    | true => rw [List.filter_cons_of_pos hp, List.filter_cons_of_pos (h x hp), List.length_cons, List.length_cons]; omega
    | false =>
      rw [List.filter_cons_of_neg (by rw [hp]; decide)]
      cases hq : q x with
      | true => rw [List.filter_cons_of_pos hq, List.length_cons]; omega
      | false => rw [List.filter_cons_of_neg (by rw [hq]; decide)]; exact ih
theorem put_alive {n k N : Nat} {r : Ref} (hr : r.ok n) {xs : List Nat} (hx : Byt xs) : cnt (aliveL (putS n k N r xs)) = N := by
  rw [cnt_live, putS_len]
  intro st hst
  obtain ⟨d, hd, rfl⟩ := List.mem_iff_getElem.1 hst
  exact putS_live hr hx (List.getElem?_eq_getElem hd)
theorem cell_rot {st : DSt} {n z : Nat} (hc : st.cache = []) (hok : st.ok n) (hz : z < n) (off : Nat) (mask : Int) : (st.rot z off mask).seen z = rotTo (st.seen z) off mask 4 := by
  rw [DSt.seen_nil (st := st.rot z off mask) hc, DSt.seen_nil hc]
  show ((st.stored.set z (rotTo ((st.stored[z]?).getD []) off mask 4))[z]?).getD [] = _
  rw [List.getElem?_set_self (by rw [hok.sl]; exact hz)]; rfl
/-- Behind drives that lost their place. -/
theorem hurt_view {n k N : Nat} {r : Ref} (hr : r.ok n) (hn : n ≤ 600) (hg : Hid (r.gen < 2 ^ 64)) {xs : List Nat} (hx : Byt xs) (hl : xs.length < 65536) (hN : 1 ≤ N) (hN2 : N ≤ 255) {F sts' : List DSt} {D : List Int}
    (hF : ∀ d st, F[d]? = some st → HasS k N r xs d st ∧ st.cache = [] ∧ st.ok n) (h : HurtS n r.place F D sts') :
    ∀ d st, sts'[d]? = some st → (leftB D d = true ∧ HasS k N r xs d st) ∨ (leftB D d = false ∧ LostS k r st) := by
  intro d st' h1
  have hd : d < F.length := by rw [← h.len]; exact (List.getElem?_eq_some_iff.1 h1).1
  obtain ⟨⟨hl1, hs1⟩, hc1, hk1⟩ := hF d _ (List.getElem?_eq_getElem hd)
  rcases h.all d _ _ (List.getElem?_eq_getElem hd) h1 with ⟨hn1, rfl⟩ | ⟨hi, hh⟩
  · exact .inl ⟨leftB_iff.2 hn1, hl1, hs1⟩
  · refine .inr ⟨leftB_no.2 hi, ?_⟩
    rcases hh with rfl | ⟨off, mask, ho, hm0, hm, _, rfl⟩
    · exact lost_gone hr
    · refine lost_rot (putX_ok (k := k) hr hn hg hx hl hN hN2 d) ho hm0 hm ?_
      rw [cell_rot hc1 hk1 hr.p, hs1]
theorem sub_len {n : Nat} {D E : List Int} (hD : D.Nodup) (hE : E.Nodup) (hd : ∀ x ∈ D, 0 ≤ x ∧ x < (n : Int)) (he : ∀ x ∈ E, 0 ≤ x ∧ x < (n : Int)) (h : ∀ x ∈ D, x ∈ E) : D.length ≤ E.length := by
  have h1 := left_cnt hD hd
  have h2 := left_cnt hE he
  have h3 : cntP (leftB E) n ≤ cntP (leftB D) n := filter_mono (fun x hx => leftB_iff.2 fun hin => leftB_iff.1 hx (h _ hin)) _
  omega
end Go.Proofs.YteialipoedmmmaaGreat

set_option linter.unusedSimpArgs false
set_option linter.unusedVariables false
namespace Go.Proofs.YteialipoedmmmaaGreat
open Go.RowKit Go.Cib
attribute [local go_sem] cell_set Later.cell Later.frozen Grw.cell Grw.frozen
/-- A copy of the drives, as of the world at hand. -/
theorem copy_y {X : Nat → Prop} {w0 w : World} {a cb bf k m n : Nat} {sts : List DSt} (h : SMidX X w0 w a cb bf k m n sts) (hcl : ∀ st ∈ sts, st.cache.length < 1000000) :
    Calls Tryz.prog 17 #[.pointer (some ⟨a, 0, none⟩)] w fun e w' => ∃ z, e = .returned (.pointer (some ⟨z, 0, none⟩)) ∧ SMidX (fun j => j < w.heap.size) w w' z cb bf k m n sts ∧ Below w.heap.size w w' := by
  have hp := h.pos
  obtain ⟨h0, ⟨U, C, ⟨v, Fs, ps, hA⟩, hC, hU, hd, hx⟩, hl, h1, h2⟩ := h
  refine (acopy_any (Lib.hid hA) (by omega) (by omega) (Lib.hid hcl)).mono ?_
  rintro e w' ⟨z, U', rfl, hA', hU', hb⟩
  exact ⟨z, rfl, ⟨hb, ⟨U', C, hA', hC.below hb, fun j hj => hU' j hj, fun j hj => ⟨fun hu => by have := hU' j hu; have := (hd j hj).2; omega, Nat.lt_of_lt_of_le (hd j hj).2 hb.size⟩, fun j hj => ⟨fun hu => by have := hU' j hu; omega, Nat.lt_of_lt_of_le hj hb.size⟩⟩, hl, h1, h2⟩, hb⟩
theorem fail_view {n k N : Nat} {r : Ref} (hr : r.ok n) {xs : List Nat} {sts : List DSt} {D : List Int} {d : Nat} (hd : d < sts.length) (hv : ∀ i st, sts[i]? = some st → (leftB D i = true ∧ HasS k N r xs i st) ∨ (leftB D i = false ∧ LostS k r st)) :
    ∀ i st, (failA n sts (d : Int))[i]? = some st → (leftB (D ++ [(d : Int)]) i = true ∧ HasS k N r xs i st) ∨ (leftB (D ++ [(d : Int)]) i = false ∧ LostS k r st) := by
  intro i st h
  unfold failA at h
  rw [if_pos (by omega), Int.toNat_natCast] at h
  by_cases e : d = i
  · subst e
    rw [List.getElem?_set_self hd] at h
    obtain rfl := Option.some.inj h
    exact .inr ⟨leftB_no.2 (by simp), lost_gone hr⟩
  · rw [List.getElem?_set_ne e] at h
    rcases hv i st h with ⟨a, b⟩ | ⟨a, b⟩
    · exact .inl ⟨leftB_iff.2 (fun hin => (List.mem_append.1 hin).elim (leftB_iff.1 a) fun h1 => by simp at h1; omega), b⟩
    · exact .inr ⟨leftB_no.2 (List.mem_append_left _ (leftB_no.1 a)), b⟩
theorem hurt_cache {n z : Nat} {F sts : List DSt} {D : List Int} (hF : ∀ (d : Nat) st, F[d]? = some st → st.cache = []) (h : HurtS n z F D sts) : ∀ st ∈ sts, st.cache.length < 900000 := fun st hst => by
  obtain ⟨d, hd, rfl⟩ := List.mem_iff_getElem.1 hst
  have hdF : d < F.length := by rw [← h.len]; exact hd
  have hc := hF d _ (List.getElem?_eq_getElem hdF)
  rcases h.all d _ _ (List.getElem?_eq_getElem hdF) (List.getElem?_eq_getElem hd) with ⟨_, e⟩ | ⟨_, e | ⟨_, _, _, _, _, _, e⟩⟩
  · rw [e, hc]; decide
  · rw [e]; show ([] : List (Int × List Int)).length < 900000; decide
  · rw [e]; show F[d].cache.length < 900000; rw [hc]; decide
set_option maxRecDepth 100000 in
set_option maxHeartbeats 64000000 in
theorem back_any {w : World} {k m s place gen off mask : Int} {A1 A4 : Option Addr} {n1 c1 n4 c4 : Nat} {b : List Nat} {gone : List Int} (R1 : Hid (RdL ByR 1 (fun _ => True) w A1 n1 b)) (hc1 : n1 ≤ c1) (hgen : Hid (0 ≤ gen ∧ gen < 18446744073709551616)) (R4 : Hid (RdL IntR 1 (fun _ => True) w A4 n4 gone)) (hmask : Hid (0 ≤ mask ∧ mask < 4294967296)) :
    Calls Tryz.prog 5 #[.agg (geoC k m s), .slice A1 n1 c1, .int .i64 place, .int .u64 gen, .slice A4 n4 c4, .int .i64 off, .int .u32 mask] w fun e w' => e = .returned (.bool true) ∧ Below w.heap.size w w' := by
  have hsm := fun w => small_any (w := w) k m s
  have bG := BoxAt.new w (geoC k m s) 23
  have hb0 : Below w.heap.size w (w.alloc (.cells (geoC k m s) 23)) := (Below.refl _ _).alloc (Nat.le_refl _) _
  obtain ⟨q, hq⟩ : ∃ q, w.heap.size = q := ⟨_, rfl⟩
  go_enter Tryz.func5, Tryz.ntmps5
  unfold geoC at hsm bG hb0 ⊢
  go_wp2_with fail
  obtain ⟨wA, hwA⟩ : ∃ wA, w.alloc (.cells #[.int .i64 k, .int .i64 m, .int .i64 s] 23) = wA := ⟨_, rfl⟩
  rw [hwA] at bG hb0 ⊢
  have HQ := Lib.hid hq
  have HB0 := Lib.hid hb0
  rw [hq] at bG
  clear hwA hq hb0
  cases hs : smallB k m s with
  | false =>
    rw [hs] at hsm
    refine (hsm _).mono ?_
    clear hsm
    rintro e w1 ⟨rfl, hb1⟩
    have HB1 := Lib.hid (HB0.out.trans (hb1.mono HB0.out.size))
    go_wp2_with fail
    refine holds_any.mono ?_
    rintro e wz ⟨rfl, hbz⟩
    go_wp2_with fail
    go_ret
    exact ⟨rfl, HB1.out.trans (hbz.mono HB1.out.size)⟩
  | true =>
    rw [hs] at hsm
    refine (hsm _).mono ?_
    clear hsm
    rintro e w1 ⟨rfl, hb1⟩
    obtain ⟨k, m, s, rfl, rfl, rfl, k1, m1, km, s1, s8⟩ := small_nat hs
    clear hs
    have HB1 := Lib.hid (HB0.out.trans (hb1.mono HB0.out.size))
    have bG1 := bG.below hb1
    have c1 : w1.cell? ⟨q, 0, none⟩ = some (.int .i64 (k : Int)) ∧ w1.cell? ⟨q, 1, none⟩ = some (.int .i64 (m : Int)) ∧ w1.cell? ⟨q, 2, none⟩ = some (.int .i64 (s : Int)) := ⟨bG1.cell 0, bG1.cell 1, bG1.cell 2⟩
    clear hb1 bG HB0
    have q0 : (0 : Int) ≤ (k : Int) := Int.natCast_nonneg _
    have q1 : (0 : Int) ≤ (m : Int) := Int.natCast_nonneg _
    have q2 : (k : Int) + (m : Int) ≤ 10 := by omega
    by_cases g1 : place < 0
    · go_wp2_with fail
      refine holds_any.mono ?_
      rintro e wz ⟨rfl, hbz⟩
      go_wp2_with fail
      go_ret
      exact ⟨rfl, HB1.out.trans (hbz.mono HB1.out.size)⟩
    by_cases g2 : place ≥ (s : Int)
    · go_wp2_with fail
      refine holds_any.mono ?_
      rintro e wz ⟨rfl, hbz⟩
      go_wp2_with fail
      go_ret
      exact ⟨rfl, HB1.out.trans (hbz.mono HB1.out.size)⟩
    by_cases g3 : (n1 : Int) > 44 * (k : Int)
    · go_wp2_with fail
      refine holds_any.mono ?_
      rintro e wz ⟨rfl, hbz⟩
      go_wp2_with fail
      go_ret
      exact ⟨rfl, HB1.out.trans (hbz.mono HB1.out.size)⟩
    by_cases g6 : (n4 : Int) > 30
    · go_wp2_with fail
      refine holds_any.mono ?_
      rintro e wz ⟨rfl, hbz⟩
      go_wp2_with fail
      go_ret
      exact ⟨rfl, HB1.out.trans (hbz.mono HB1.out.size)⟩
    obtain ⟨p, rfl⟩ : ∃ p : Nat, place = (p : Int) := ⟨place.toNat, by omega⟩
    obtain ⟨g, rfl⟩ : ∃ g : Nat, gen = (g : Int) := ⟨gen.toNat, by have := hgen.out; omega⟩
    have hg64 : Hid (g < 2 ^ 64) := Lib.hid (by have := hgen.out; omega)
    have hps : p < s := by omega
    have hl1 : n1 ≤ k * 44 := by omega
    have hd30 : n4 ≤ 30 := by omega
    have hmd := made_law (w0 := w1) (w := w1) (k := k) (m := m) (n := s) (Below.refl _ _) k1 m1 (by omega) s1 (by omega)
    unfold geoC at hmd
    have HHL := Lib.hid hgen.out
    go_wp2_with fail
    refine hmd.mono ?_
    clear hmd
    rintro e w2 ⟨a, cb, bf, rfl, hM, hb2⟩
    have hM : SMid w1 w2 a cb bf k m s (newS s (k + m)) := hM
    have bG2 := bG1.below hb2
    have bR := BoxAt.new w2 (refC ⟨3, p, g⟩) 33
    have hbR : Below w2.heap.size w2 (w2.alloc (.cells (refC ⟨3, p, g⟩) 33)) := (Below.refl _ _).alloc (Nat.le_refl _) _
    obtain ⟨wR, hwR⟩ : ∃ wR, w2.alloc (.cells (refC ⟨3, p, g⟩) 33) = wR := ⟨_, rfl⟩
    obtain ⟨qr, hqr⟩ : ∃ qr, w2.heap.size = qr := ⟨_, rfl⟩
    have hszR : wR.heap.size = qr + 1 := by rw [← hwR, ← hqr, World.size_alloc]
    rw [hwR] at bR hbR
    have hMX := (hM.x0.below hbR).sub (Y := fun j => j < w1.heap.size ∨ j = qr) (fun j hj => by
      rcases hj with h | h
      · exact .inl h
      · exact .inr (by omega))
    have bG3 := bG2.below hbR
    have hql : q < w1.heap.size := bG1.lt
    rw [hqr] at bR
    have HM3 := Lib.hid hMX
    have HR1 := Lib.hid (RdL.bound ByR.stable (R1.out.below ByR.stable HB1.out))
    have HR4 := Lib.hid (RdL.bound IntR.stable (R4.out.below IntR.stable HB1.out))
    have hK3 : KpX (fun j => j < w1.heap.size) w1 wR := KpX.of_below (hMX.bel) (fun j h => h)
    have hpu := put_x HM3.out (r := ⟨3, p, g⟩) (ref3_ok hps) hg64 cache_new (hK3.rd ByR.stable HR1.out (fun j hj => hj.2)) hc1 hl1
    have eR : refC ⟨3, p, g⟩ = #[.int .u8 3, .int .i64 (p : Int), .int .u64 (g : Int)] := rfl
    rw [live_new, eR] at hpu
    have HPU := Lib.hid hpu
    have HER := Lib.hid eR
    clear eR
    have HK3 := Lib.hid hK3
    have HQL := Lib.hid hql
    have BG3 := Lib.hid bG3
    have BR3 := Lib.hid bR
    unfold refC at hwR
    push_cast at hwR
    have c3 : wR.cell? ⟨qr, 0, none⟩ = some (.int .u8 3) ∧ wR.cell? ⟨qr, 1, none⟩ = some (.int .i64 (p : Int)) ∧ wR.cell? ⟨qr, 2, none⟩ = some (.int .u64 (g : Int)) := ⟨bR.cell 0, bR.cell 1, bR.cell 2⟩
    have HXB := Lib.hid (show Byt b from by_byt HR1.out)
    have HB44 := Lib.hid (show b.length ≤ k * 44 by rw [HR1.out.1]; exact hl1)
    clear hM hb2 bG2 hbR hMX bG3 hK3 hpu bG1 c1 hszR hql bR
    go_wp2_with fail
    refine HPU.out.mono ?_
    clear HPU c3 hwR HM3 hqr
    rintro e w4 ⟨rfl, hM4, hK4⟩
    have hM4 : SMidX (fun j => j < w1.heap.size ∨ j = qr) w1 w4 a cb bf k m s (putS s k (k + m) ⟨3, p, g⟩ b) := hM4
    have HM4 := Lib.hid hM4
    have BG4 := Lib.hid (hK4.box BG3.out (.inl HQL.out))
    have BR4 := Lib.hid (hK4.box BR3.out (.inr rfl))
    have HK4 := Lib.hid (HK3.out.trans (hK4.mono fun j hj => .inl hj))
    have hfl := flush_x HM4.out (fun st hst => by have := putS_cache (D := []) st (by rw [goneS_nil]; exact hst); omega)
    rw [put_alive (ref3_ok hps) HXB.out] at hfl
    push_cast at hfl
    have c4 : w4.cell? ⟨q, 0, none⟩ = some (.int .i64 (k : Int)) ∧ w4.cell? ⟨q, 1, none⟩ = some (.int .i64 (m : Int)) := ⟨BG4.out.cell 0, BG4.out.cell 1⟩
    have f0 : ((k : Int) + (m : Int) != (k : Int) + (m : Int)) = false := by simp
    clear hM4 hK4 BG3 BR3 HK3
    push_cast
    go_wp2_with fail
    refine hfl.mono ?_
    clear hfl c4
    rintro e w5 ⟨rfl, hM5, hK5⟩
    obtain ⟨F, hF⟩ : ∃ F, (putS s k (k + m) ⟨3, p, g⟩ b).map flushG = F := ⟨_, rfl⟩
    have hFv : ∀ d st, F[d]? = some st → HasS k (k + m) ⟨3, p, g⟩ b d st ∧ st.cache = [] ∧ st.ok s := fun d st h => by rw [← hF] at h; exact flush_at (ref3_ok hps) HXB.out h
    rw [hF] at hM5
    have HFV := Lib.hid hFv
    have HM5 := Lib.hid hM5
    have BG5 := Lib.hid (hK5.box BG4.out (.inl HQL.out))
    have BR5 := Lib.hid (hK5.box BR4.out (.inr rfl))
    have HK5 := Lib.hid (HK4.out.trans (hK5.mono fun j hj => .inl hj))
    have c5 : w5.cell? ⟨q, 0, none⟩ = some (.int .i64 (k : Int)) ∧ w5.cell? ⟨q, 1, none⟩ = some (.int .i64 (m : Int)) := ⟨BG5.out.cell 0, BG5.out.cell 1⟩
    have hdi := distinct_any (n := k + m) (most := m) (cg := c4) (HK5.out.rd IntR.stable HR4.out (fun j hj => hj.2)) (by omega) (by omega) (by omega)
    push_cast at hdi
    clear hM5 hK5 HM4 BG4 BR4 HK4 hFv hF
    go_wp2_with fail
    refine hdi.mono ?_
    clear hdi c5
    rintro e w7 ⟨A7, c7, D, rfl, hc7, hG, hr7, hb7⟩
    obtain ⟨dl, hdl⟩ : ∃ dl, D.length = dl := ⟨_, rfl⟩
    rw [hdl] at hr7 hc7 ⊢
    have hM7 := HM5.out.below hb7
    obtain ⟨XX, hXX⟩ : ∃ XX : Nat → Prop, (fun j => (j < w1.heap.size ∨ j = qr) ∨ (w5.heap.size ≤ j ∧ j < w7.heap.size)) = XX := ⟨_, rfl⟩
    have hX1 : ∀ j, (j < w1.heap.size ∨ j = qr) → XX j := fun j hj => by rw [← hXX]; exact .inl hj
    have hX2 : ∀ j, (w5.heap.size ≤ j ∧ j < w7.heap.size) → XX j := fun j hj => by rw [← hXX]; exact .inr hj
    rw [hXX] at hM7
    have HX1 := Lib.hid hX1
    have HX2 := Lib.hid hX2
    have HR7 := Lib.hid (RdL.bound IntR.stable hr7)
    have hhu := hurt_x (c := c7) (off := off) (mask := mask) hM7 HR7.out HX2.out hG.nd hG.rg hps hmask
    have BG7 := Lib.hid (BG5.out.below hb7)
    have BR7 := Lib.hid (BR5.out.below hb7)
    have HK7 := Lib.hid (HK5.out.trans (KpX.of_below hb7 fun j hj => HM5.out.lt (.inl hj)))
    have HDL := Lib.hid hdl
    have HG := Lib.hid hG
    have hdm : dl ≤ m := by rw [← hdl]; exact hG.ln
    clear hM7 hXX hX1 hX2 hr7 hb7 HM5 BG5 BR5 HK5 hdl hG
    go_wp2_with fail
    refine hhu.mono ?_
    clear hhu
    rintro e w8 ⟨S8, rfl, hM8, hK8, hH8⟩
    have HV8 := Lib.hid (hurt_view (k := k) (N := k + m) (r := ⟨3, p, g⟩) (ref3_ok hps) (by omega) hg64 HXB.out (by have := HB44.out; omega) (by omega) (by omega) HFV.out hH8)
    have HM8 := Lib.hid hM8
    have BG8 := Lib.hid (hK8.box BG7.out (HX1.out _ (.inl HQL.out)))
    have BR8 := Lib.hid (hK8.box BR7.out (HX1.out _ (.inr rfl)))
    have HK8 := Lib.hid (HK7.out.trans (hK8.mono fun j hj => HX1.out _ (.inl hj)))
    have HR8 := Lib.hid (hK8.rd IntR.stable HR7.out HX2.out)
    have hgt := get_view (g := leftB D) (r := ⟨3, p, g⟩) (xs := b) HM8.out.mid (ref3_ok hps) hg64 HXB.out HB44.out HV8.out
    obtain ⟨lc, hlc⟩ : ∃ lc, cntP (leftB D) (k + m) = lc := ⟨_, rfl⟩
    have hlc2 : lc + dl = k + m := by
      have := left_cnt HG.out.nd HG.out.rg
      rw [hlc, HDL.out] at this
      exact this
    rw [hlc, HER.out, HR1.out.1] at hgt
    have HLC := Lib.hid hlc
    have HCA := Lib.hid hH8
    have c8 : w8.cell? ⟨qr, 0, none⟩ = some (.int .u8 3) ∧ w8.cell? ⟨qr, 1, none⟩ = some (.int .i64 (p : Int)) ∧ w8.cell? ⟨qr, 2, none⟩ = some (.int .u64 (g : Int)) := ⟨BR8.out.cell 0, BR8.out.cell 1, BR8.out.cell 2⟩
    clear hM8 hK8 hH8 BG7 BR7 HK7 HR7 hlc
    go_wp2_with fail
    refine hgt.mono ?_
    clear hgt c8
    rintro e w9 ⟨hb9, ⟨hlt, _⟩ | ⟨_, AX, cX, rfl, hcX, hrX⟩⟩
    · exact absurd hlt (by omega)
    have HM9 := Lib.hid (HM8.out.below' hb9)
    have BG9 := Lib.hid (BG8.out.below hb9)
    have BR9 := Lib.hid (BR8.out.below hb9)
    have HK9 := Lib.hid (HK8.out.trans (KpX.of_below hb9 fun j hj => HM8.out.lt (HX1.out _ (.inl hj))))
    have HR9 := Lib.hid (HR8.out.below IntR.stable hb9)
    have HB9 := Lib.hid (HB1.out.trans (HM9.out.bel.mono HB1.out.size))
    have t1 := text_run (c := cX) hrX
    have t2 := text_run (c := c1) (HK9.out.rd ByR.stable HR1.out (fun j hj => hj.2))
    have c9 : w9.cell? ⟨q, 0, none⟩ = some (.int .i64 (k : Int)) ∧ w9.cell? ⟨q, 1, none⟩ = some (.int .i64 (m : Int)) := ⟨BG9.out.cell 0, BG9.out.cell 1⟩
    clear hb9 BG8 BR8 HK8 HR8 HM8 hrX
    by_cases hfew : (dl : Int) < (m : Int)
    · go_wp2_with fail
      refine holds_any.mono ?_
      rintro e wz ⟨rfl, hbz⟩
      go_wp2_with fail
      go_ret
      exact ⟨rfl, HB9.out.trans (hbz.mono HB9.out.size)⟩
    obtain rfl : dl = m := by omega
    go_wp2_with fail
    clear t1 t2 c9 hfew
    have hlr : q < w9.heap.size := BG9.out.lt
    go_loopw [23] (fun vd wr => ∃ (d : Nat), d ≤ k + dl ∧ vd = .int .i64 d ∧ Hid (Below w9.heap.size w9 wr)) (fun vd _ => (k + dl) - (intOf vd).toNat)
    case atStart => exact ⟨0, Nat.zero_le _, rfl, Lib.hid (Below.refl _ _)⟩
    case round =>
      obtain ⟨d, hd, rfl, HB⟩ := hrel
      have p0 : (0 : Int) ≤ (d : Int) := Int.natCast_nonneg _
      have bGr := BG9.out.below HB.out
      by_cases hlt : d < k + dl
      · have p1 : (d : Int) < (k : Int) + (dl : Int) := by omega
        have s0 : wr.drew.cell? ⟨q, 1, none⟩ = some (.int .i64 (dl : Int)) := (bGr.keep (w' := wr.drew) rfl).cell 1
        have hdl7 : dl ≤ 10 := by omega
        have hwd : IntKind.i64.wrap ((dl : Int) + 1) = (dl : Int) + 1 := by rw [IntKind.wrap_i64]; omega
        have HR9r := Lib.hid (HR9.out.below IntR.stable (w' := wr.drew) HB.out.drew)
        have hb0 : Below wr.drew.heap.size wr.drew wr.drew := Below.refl _ _
        have z0 : wr.drew.heap.size ≤ wr.drew.heap.size := Nat.le_refl _
        have hqr : q < wr.drew.heap.size := bGr.lt
        have hB0 := Lib.hid (HB.out.drew)
        clear bGr HB
        go_wp2_with fail
        refine wp_region_held_drew (S := fun w' => w'.cell? ⟨q, 1, none⟩ = some (.int .i64 (dl : Int))) (by kernel_rfl) (by first | exact s0 | exact s1 | exact s2 | exact s3 | exact s4 | exact s5) (fun hHeld => ?_)
        generalize wr.drew = v0 at s0 HR9r hb0 z0 hqr hHeld hB0 ⊢
        refine wpAnyH_take (i := 1) (v := ?_) rfl (by kernel_rfl) (by kernel_rfl) (by kernel_rfl) (fun _ _ _ h => h) (Or.inl ⟨by first | kernel_rfl | rfl, ?_⟩) (by assumption) ?_
        rotate_left
        · (intro wq hSw; (try dsimp only at hSw); (try simp (maxSteps := 2000000) only [List.getElem_toArray, List.getElem_cons_succ, List.getElem_cons_zero]); go_simp); try with_reducible rfl
        try simp (maxSteps := 2000000) only [List.getElem_toArray, List.getElem_cons_succ, List.getElem_cons_zero, Act.put, List.setIfInBounds_toArray, List.set_cons_zero, List.set_cons_succ]
        refine wpAnyH_take (i := 3) (v := ?_) rfl (by kernel_rfl) (by kernel_rfl) (by kernel_rfl) (fun _ _ _ h => h) (Or.inl ⟨by first | kernel_rfl | rfl, ?_⟩) (by assumption) ?_
        rotate_left
        · (intro wq hSw; (try dsimp only at hSw); (try simp (maxSteps := 2000000) only [List.getElem_toArray, List.getElem_cons_succ, List.getElem_cons_zero]); go_simp); try with_reducible rfl
        try simp (maxSteps := 2000000) only [List.getElem_toArray, List.getElem_cons_succ, List.getElem_cons_zero, Act.put, List.setIfInBounds_toArray, List.set_cons_zero, List.set_cons_succ]
        refine wpAnyH_take (i := 6) (v := ?_) rfl (by kernel_rfl) (by kernel_rfl) (by kernel_rfl) (fun _ _ _ h => h) (Or.inl ⟨by first | kernel_rfl | rfl, ?_⟩) (by assumption) ?_
        rotate_left
        · (intro wq hSw; (try dsimp only at hSw); (try simp (maxSteps := 2000000) only [List.getElem_toArray, List.getElem_cons_succ, List.getElem_cons_zero]); go_simp); try with_reducible rfl
        try simp (maxSteps := 2000000) only [List.getElem_toArray, List.getElem_cons_succ, List.getElem_cons_zero, Act.put, List.setIfInBounds_toArray, List.set_cons_zero, List.set_cons_succ]
        refine wpAnyH_take (i := 7) (v := ?_) rfl (by kernel_rfl) (by kernel_rfl) (by kernel_rfl) (fun _ _ _ h => h) (Or.inl ⟨by first | kernel_rfl | rfl, ?_⟩) (by assumption) ?_
        rotate_left
        · (intro wq hSw; (try dsimp only at hSw); (try simp (maxSteps := 2000000) only [List.getElem_toArray, List.getElem_cons_succ, List.getElem_cons_zero]); go_simp); try with_reducible rfl
        try simp (maxSteps := 2000000) only [List.getElem_toArray, List.getElem_cons_succ, List.getElem_cons_zero, Act.put, List.setIfInBounds_toArray, List.set_cons_zero, List.set_cons_succ]
        refine wpAnyH_take (i := 8) (v := ?_) rfl (by kernel_rfl) (by kernel_rfl) (by kernel_rfl) (fun _ _ _ h => h) (Or.inl ⟨by first | kernel_rfl | rfl, ?_⟩) (by assumption) ?_
        rotate_left
        · (intro wq hSw; (try dsimp only at hSw); (try simp (maxSteps := 2000000) only [List.getElem_toArray, List.getElem_cons_succ, List.getElem_cons_zero]); go_simp); try with_reducible rfl
        try simp (maxSteps := 2000000) only [List.getElem_toArray, List.getElem_cons_succ, List.getElem_cons_zero, Act.put, List.setIfInBounds_toArray, List.set_cons_zero, List.set_cons_succ]
        refine wpAnyH_take (i := 9) (v := ?_) rfl (by kernel_rfl) (by kernel_rfl) (by kernel_rfl) (fun _ _ _ h => h) (Or.inl ⟨by first | kernel_rfl | rfl, ?_⟩) (by assumption) ?_
        rotate_left
        · (intro wq hSw; (try dsimp only at hSw); (try simp (maxSteps := 2000000) only [List.getElem_toArray, List.getElem_cons_succ, List.getElem_cons_zero]); go_simp); try with_reducible rfl
        try simp (maxSteps := 2000000) only [List.getElem_toArray, List.getElem_cons_succ, List.getElem_cons_zero, Act.put, List.setIfInBounds_toArray, List.set_cons_zero, List.set_cons_succ]
        refine wpAnyH_take (i := 12) (v := ?_) rfl (by kernel_rfl) (by kernel_rfl) (by kernel_rfl) (fun _ _ _ h => h) (Or.inl ⟨by first | kernel_rfl | rfl, ?_⟩) (by assumption) ?_
        rotate_left
        · (intro wq hSw; (try dsimp only at hSw); (try simp (maxSteps := 2000000) only [List.getElem_toArray, List.getElem_cons_succ, List.getElem_cons_zero]); go_simp); try with_reducible rfl
        try simp (maxSteps := 2000000) only [List.getElem_toArray, List.getElem_cons_succ, List.getElem_cons_zero, Act.put, List.setIfInBounds_toArray, List.set_cons_zero, List.set_cons_succ]
        refine wpAnyH_take (i := 13) (v := ?_) rfl (by kernel_rfl) (by kernel_rfl) (by kernel_rfl) (fun _ _ _ h => h) (Or.inl ⟨by first | kernel_rfl | rfl, ?_⟩) (by assumption) ?_
        rotate_left
        · (intro wq hSw; (try dsimp only at hSw); (try simp (maxSteps := 2000000) only [List.getElem_toArray, List.getElem_cons_succ, List.getElem_cons_zero]); go_simp); try with_reducible rfl
        try simp (maxSteps := 2000000) only [List.getElem_toArray, List.getElem_cons_succ, List.getElem_cons_zero, Act.put, List.setIfInBounds_toArray, List.set_cons_zero, List.set_cons_succ]
        refine wpAnyH_ready (rs := [0, 4]) (by kernel_rfl) (by simp) ?_
        refine AllReadyH.cons rfl (fun K hK => ?_) (AllReadyH.cons rfl (fun K hK => ?_) AllReadyH.nil)
        · try simp (maxSteps := 2000000) only [List.getElem_toArray, List.getElem_cons_succ, List.getElem_cons_zero]
          go_simp
          have o1 : OwnL IntR 3 1 v0.heap.size (fun _ => True) (v0.alloc (.cells #[] 3)) (.slice (some ⟨v0.heap.size, 0, none⟩) 0 0) 0 [] := OwnL.made #[] 0 z0 (by unfold maxLen; omega) rfl
          have hb1 := hb0.alloc z0 (.cells #[] 3)
          have ls1 : v0.heap.size < (v0.alloc (.cells #[] 3)).heap.size := by rw [World.size_alloc]; omega
          obtain ⟨v1, hv1⟩ : ∃ W, v0.alloc (.cells #[] 3) = W := ⟨_, rfl⟩
          rw [hv1] at hb1 ls1 o1
          rw [hv1]
          clear hv1
          have s1 := (hb1.cell (p := ⟨q, 1, none⟩) hqr).trans s0
          have z1 := hb1.size
          refine hK.out _ _ (by first | exact s0 | exact s1 | exact s2 | exact s3 | exact s4 | exact s5) (fun hHeld => ?_)
          clear hK K
          try simp (maxSteps := 2000000) only [List.getElem_toArray, List.getElem_cons_succ, List.getElem_cons_zero, Act.put, List.setIfInBounds_toArray, List.set_cons_zero, List.set_cons_succ]
          refine wpAnyH_ready (rs := [2, 4]) (by kernel_rfl) (by simp) ?_
          refine AllReadyH.cons rfl (fun K hK => ?_) (AllReadyH.cons rfl (fun K hK => ?_) AllReadyH.nil)
          · refine step_law (by rfl) (wpList_appL IntR.stable IntR.one sl_intD (by rfl) (by rfl) (base := v0.heap.size) (S := fun _ => True) (n := 0) (xs := []) (by exact rfl) o1 (by exact rfl) (HR9r.out.below IntR.stable hb1) (fun _ _ h => h) (by unfold maxLen; omega) (by omega) z1 ?_)
            intro A3 c3 v2 hc3 o2 hg3 hat
            refine ⟨rfl, ?_⟩
            rw [Nat.zero_add, List.nil_append] at o2
            have hb2 : Below v0.heap.size v0 v2 := hb1.grown hg3 z1 (fun k hk => (o1.lt k hk).1)
            rw [Nat.zero_add]
            clear hg3 hat
            have s2 := (hb2.cell (p := ⟨q, 1, none⟩) hqr).trans s0
            have z2 := hb2.size
            refine hK.out _ _ (by first | exact s0 | exact s1 | exact s2 | exact s3 | exact s4 | exact s5) (fun hHeld => ?_)
            clear hK K
            try simp (maxSteps := 2000000) only [List.getElem_toArray, List.getElem_cons_succ, List.getElem_cons_zero, Act.put, List.setIfInBounds_toArray, List.set_cons_zero, List.set_cons_succ]
            refine wpAnyH_ready (rs := [4]) (by kernel_rfl) (by simp) ?_
            refine AllReadyH.cons rfl (fun K hK => ?_) AllReadyH.nil
            try simp (maxSteps := 2000000) only [List.getElem_toArray, List.getElem_cons_succ, List.getElem_cons_zero]
            go_simp
            have l3 : OwnL IntR 3 1 v0.heap.size (fun _ => False) (v2.alloc (.cells #[.int .i64 (d : Int)] 3)) (.slice (some ⟨v2.heap.size, 0, none⟩) 1 1) 1 [(d : Int)] := OwnL.lit IntR.stable rfl z2 rfl
            have hb3 := hb2.alloc z2 (.cells #[.int .i64 (d : Int)] 3)
            have ls3 : v2.heap.size < (v2.alloc (.cells #[.int .i64 (d : Int)] 3)).heap.size := by rw [World.size_alloc]; omega
            have o3 := o2.alloc IntR.stable (.cells #[.int .i64 (d : Int)] 3)
            obtain ⟨v3, hv3⟩ : ∃ W, v2.alloc (.cells #[.int .i64 (d : Int)] 3) = W := ⟨_, rfl⟩
            rw [hv3] at hb3 ls3 o3 l3
            rw [hv3]
            clear hv3
            have s3 := (hb3.cell (p := ⟨q, 1, none⟩) hqr).trans s0
            have z3 := hb3.size
            refine hK.out _ _ (by first | exact s0 | exact s1 | exact s2 | exact s3 | exact s4 | exact s5) (fun hHeld => ?_)
            clear hK K
            try simp (maxSteps := 2000000) only [List.getElem_toArray, List.getElem_cons_succ, List.getElem_cons_zero, Act.put, List.setIfInBounds_toArray, List.set_cons_zero, List.set_cons_succ]
            refine wpAnyH_ready (rs := [5]) (by kernel_rfl) (by simp) ?_
            refine AllReadyH.cons rfl (fun K hK => ?_) AllReadyH.nil
            obtain ⟨AL, cL, eL, _, rL⟩ := l3.rd (S' := fun _ => True) (fun _ _ => trivial) (fun cs x h => h)
            injection eL with eL1 _ eL2
            subst eL1; subst eL2
            refine step_law (by rfl) (wpList_appL IntR.stable IntR.one sl_intD (by rfl) (by rfl) (base := v0.heap.size) (S := fun _ => True) (n := dl) (xs := D) (by exact rfl) o3 (by exact rfl) rL (fun _ _ h => h) (by unfold maxLen; omega) (by omega) z3 ?_)
            intro A6 c6 v4 hc6 o4 hg6 hat
            refine ⟨rfl, ?_⟩
            have hb4 : Below v0.heap.size v0 v4 := hb3.grown hg6 z3 (fun k hk => (o3.lt k hk).1)
            obtain ⟨AQ, cQ, eQ, _, rQ⟩ := o4.rd (S' := fun _ => True) (fun _ _ => trivial) (fun cs x h => h)
            injection eQ with eQ1 _ eQ2
            subst eQ1; subst eQ2
            clear hg6 hat
            have s4 := (hb4.cell (p := ⟨q, 1, none⟩) hqr).trans s0
            have z4 := hb4.size
            refine hK.out _ _ (by first | exact s0 | exact s1 | exact s2 | exact s3 | exact s4 | exact s5) (fun hHeld => ?_)
            clear hK K
            try simp (maxSteps := 2000000) only [List.getElem_toArray, List.getElem_cons_succ, List.getElem_cons_zero, Act.put, List.setIfInBounds_toArray, List.set_cons_zero, List.set_cons_succ]
            refine wpAnyH_ready (rs := [10]) (by kernel_rfl) (by simp) ?_
            refine AllReadyH.cons rfl (fun K hK => ?_) AllReadyH.nil
            have hdi := distinct_any (w := v4) (n := k + dl) (most := dl + 1) (cg := c6) rQ (by omega) (by omega) (by omega)
            push_cast at hdi
            try simp (maxSteps := 2000000) only [List.getElem_toArray, List.getElem_cons_succ, List.getElem_cons_zero]
            go_simp
            refine hdi.mono ?_
            clear hdi
            rintro e v5 ⟨A9, c9, D2, rfl, hc9, hG2, hr9, hb95⟩
            obtain ⟨d2, hd2⟩ : ∃ d2, D2.length = d2 := ⟨_, rfl⟩
            rw [hd2] at hr9 hc9 ⊢
            have hb5 := hb4.trans (hb95.mono z4)
            have s5 := (hb5.cell (p := ⟨q, 1, none⟩) hqr).trans s0
            have z5 := hb5.size
            have HG2 := Lib.hid hG2
            have HD2 := Lib.hid hd2
            have hd2m : d2 ≤ dl + 1 := by rw [← hd2]; exact hG2.ln
            clear hG2 hd2 hb95
            try (go_wp2_with fail)
            refine hK.out _ _ (by first | exact s0 | exact s1 | exact s2 | exact s3 | exact s4 | exact s5) (fun hHeld => ?_)
            clear hK K
            try simp (maxSteps := 2000000) only [List.getElem_toArray, List.getElem_cons_succ, List.getElem_cons_zero, Act.put, List.setIfInBounds_toArray, List.set_cons_zero, List.set_cons_succ]
            refine wpAnyH_take (i := 11) (v := ?_) rfl (by kernel_rfl) (by kernel_rfl) (by kernel_rfl) (fun _ _ _ h => h) (Or.inl ⟨by first | kernel_rfl | rfl, ?_⟩) (by assumption) ?_
            rotate_left
            · (intro wq hSw; (try dsimp only at hSw); (try simp (maxSteps := 2000000) only [List.getElem_toArray, List.getElem_cons_succ, List.getElem_cons_zero]); go_simp); try with_reducible rfl
            try simp (maxSteps := 2000000) only [List.getElem_toArray, List.getElem_cons_succ, List.getElem_cons_zero, Act.put, List.setIfInBounds_toArray, List.set_cons_zero, List.set_cons_succ]
            refine wpAnyH_take (i := 14) (v := ?_) rfl (by kernel_rfl) (by kernel_rfl) (by kernel_rfl) (fun _ _ _ h => h) (Or.inl ⟨by first | kernel_rfl | rfl, ?_⟩) (by assumption) ?_
            rotate_left
            · (intro wq hSw; (try dsimp only at hSw); (try simp (maxSteps := 2000000) only [List.getElem_toArray, List.getElem_cons_succ, List.getElem_cons_zero]); go_simp); try with_reducible rfl
            try simp (maxSteps := 2000000) only [List.getElem_toArray, List.getElem_cons_succ, List.getElem_cons_zero, Act.put, List.setIfInBounds_toArray, List.set_cons_zero, List.set_cons_succ]
            refine wpAnyH_done (by kernel_rfl) ?_ _
            have HB5 := Lib.hid (hB0.out.trans (hb5.mono hB0.out.size))
            clear hB0 hb5 hHeld s0 s5 z5
            by_cases hgt : (d2 : Int) > (dl : Int)
            · have hrgE : ∀ x ∈ D ++ [(d : Int)], 0 ≤ x ∧ x < ((k + dl : Nat) : Int) := fun x hx => (List.mem_append.1 hx).elim (fun h => HG.out.rg x h) (fun h => by simp at h; subst h; omega)
              have hnd : (d : Int) ∉ D := fun hin => by
                have h1 := sub_len (n := k + dl) HG2.out.nd HG.out.nd HG2.out.rg HG.out.rg (fun x hx => (List.mem_append.1 (HG2.out.sub x hx)).elim id (fun h => by simp at h; subst h; exact hin))
                rw [HDL.out, HD2.out] at h1
                omega
              have hcn := left_cnt (n := k + dl) (D := D ++ [(d : Int)]) (by rw [List.nodup_append]; exact ⟨HG.out.nd, by simp, fun a ha b hb => by simp at hb; subst hb; exact fun e => hnd (e ▸ ha)⟩) hrgE
              rw [List.length_append, HDL.out] at hcn
              obtain ⟨l2, hl2⟩ : ∃ l2, cntP (leftB (D ++ [(d : Int)])) (k + dl) = l2 := ⟨_, rfl⟩
              rw [hl2] at hcn
              have hcn2 : l2 < k := by have : ([(d : Int)]).length = 1 := rfl; omega
              have hM5 := HM9.out.below' HB5.out
              have hcp := copy_y hM5 (fun st hst => by have := hurt_cache (fun i st h => (HFV.out i st h).2.1) HCA.out st hst; omega)
              have hlS : S8.length = k + dl := hM5.len
              have HL2 := Lib.hid hl2
              have HLS := Lib.hid hlS
              clear hcn hrgE hnd hl2 hM5 hlS
              go_wp2_with fail
              refine hcp.mono ?_
              clear hcp
              rintro e wc ⟨z, rfl, hMz, hbc⟩
              have hfx := fail_x hMz (d : Int)
              rw [if_pos ⟨p0, by rw [HLS.out]; omega⟩] at hfx
              clear hMz hbc
              go_wp2_with fail
              refine hfx.mono ?_
              clear hfx
              rintro e wf ⟨rfl, hMf, hKf⟩
              have hfv := fail_view (k := k) (N := k + dl) (r := ⟨3, p, g⟩) (xs := b) (ref3_ok hps) (d := d) (by rw [HLS.out]; exact hlt) HV8.out
              have hgt2 := get_view (g := leftB (D ++ [(d : Int)])) (r := ⟨3, p, g⟩) (xs := b) hMf.mid (ref3_ok hps) hg64 HXB.out HB44.out hfv
              rw [HL2.out, HER.out] at hgt2
              have hBf := hMf.bel
              have bRf := (BR9.out.below HB5.out).below hBf
              have cf : wf.cell? ⟨qr, 0, none⟩ = some (.int .u8 3) ∧ wf.cell? ⟨qr, 1, none⟩ = some (.int .i64 (p : Int)) ∧ wf.cell? ⟨qr, 2, none⟩ = some (.int .u64 (g : Int)) := ⟨bRf.cell 0, bRf.cell 1, bRf.cell 2⟩
              have HBF := Lib.hid (HB5.out.trans (hBf.mono HB5.out.size))
              clear hMf hKf hfv hBf bRf HB5
              go_wp2_with fail
              refine hgt2.mono ?_
              clear hgt2 cf
              rintro e wg ⟨hbg, ⟨_, rfl⟩ | ⟨hlt2, _⟩⟩
              · have HBG := Lib.hid (HBF.out.trans (hbg.mono HBF.out.size))
                clear hbg HBF
                go_wp2_with fail
                exact ⟨⟨d + 1, by omega, by go_num, HBG⟩, by simp [intOf]; omega⟩
              · exact absurd hlt2 (by omega)
            · go_wp2_with fail
              exact ⟨⟨d + 1, by omega, by go_num, HB5⟩, by simp [intOf]; omega⟩
          · try simp (maxSteps := 2000000) only [List.getElem_toArray, List.getElem_cons_succ, List.getElem_cons_zero]
            go_simp
            have l2 : OwnL IntR 3 1 v0.heap.size (fun _ => False) (v1.alloc (.cells #[.int .i64 (d : Int)] 3)) (.slice (some ⟨v1.heap.size, 0, none⟩) 1 1) 1 [(d : Int)] := OwnL.lit IntR.stable rfl z1 rfl
            have hb2 := hb1.alloc z1 (.cells #[.int .i64 (d : Int)] 3)
            have ls2 : v1.heap.size < (v1.alloc (.cells #[.int .i64 (d : Int)] 3)).heap.size := by rw [World.size_alloc]; omega
            have o2 := o1.alloc IntR.stable (.cells #[.int .i64 (d : Int)] 3)
            obtain ⟨v2, hv2⟩ : ∃ W, v1.alloc (.cells #[.int .i64 (d : Int)] 3) = W := ⟨_, rfl⟩
            rw [hv2] at hb2 ls2 o2 l2
            rw [hv2]
            clear hv2
            have s2 := (hb2.cell (p := ⟨q, 1, none⟩) hqr).trans s0
            have z2 := hb2.size
            refine hK.out _ _ (by first | exact s0 | exact s1 | exact s2 | exact s3 | exact s4 | exact s5) (fun hHeld => ?_)
            clear hK K
            try simp (maxSteps := 2000000) only [List.getElem_toArray, List.getElem_cons_succ, List.getElem_cons_zero, Act.put, List.setIfInBounds_toArray, List.set_cons_zero, List.set_cons_succ]
            refine wpAnyH_ready (rs := [2]) (by kernel_rfl) (by simp) ?_
            refine AllReadyH.cons rfl (fun K hK => ?_) AllReadyH.nil
            refine step_law (by rfl) (wpList_appL IntR.stable IntR.one sl_intD (by rfl) (by rfl) (base := v0.heap.size) (S := fun _ => True) (n := 0) (xs := []) (by exact rfl) o2 (by exact rfl) (HR9r.out.below IntR.stable hb2) (fun _ _ h => h) (by unfold maxLen; omega) (by omega) z2 ?_)
            intro A3 c3 v3 hc3 o3 hg3 hat
            refine ⟨rfl, ?_⟩
            rw [Nat.zero_add, List.nil_append] at o3
            have hb3 : Below v0.heap.size v0 v3 := hb2.grown hg3 z2 (fun k hk => (o2.lt k hk).1)
            have l3 := l2.other IntR.stable (S' := fun _ => False) hg3 (.inr (by simp only [Value.ownBlock, ne_eq, Option.some.injEq]; omega)) (fun _ h => h.elim) (fun _ h => h.elim)
            rw [Nat.zero_add]
            clear hg3 hat
            have s3 := (hb3.cell (p := ⟨q, 1, none⟩) hqr).trans s0
            have z3 := hb3.size
            refine hK.out _ _ (by first | exact s0 | exact s1 | exact s2 | exact s3 | exact s4 | exact s5) (fun hHeld => ?_)
            clear hK K
            try simp (maxSteps := 2000000) only [List.getElem_toArray, List.getElem_cons_succ, List.getElem_cons_zero, Act.put, List.setIfInBounds_toArray, List.set_cons_zero, List.set_cons_succ]
            refine wpAnyH_ready (rs := [5]) (by kernel_rfl) (by simp) ?_
            refine AllReadyH.cons rfl (fun K hK => ?_) AllReadyH.nil
            obtain ⟨AL, cL, eL, _, rL⟩ := l3.rd (S' := fun _ => True) (fun _ _ => trivial) (fun cs x h => h)
            injection eL with eL1 _ eL2
            subst eL1; subst eL2
            refine step_law (by rfl) (wpList_appL IntR.stable IntR.one sl_intD (by rfl) (by rfl) (base := v0.heap.size) (S := fun _ => True) (n := dl) (xs := D) (by exact rfl) o3 (by exact rfl) rL (fun _ _ h => h) (by unfold maxLen; omega) (by omega) z3 ?_)
            intro A6 c6 v4 hc6 o4 hg6 hat
            refine ⟨rfl, ?_⟩
            have hb4 : Below v0.heap.size v0 v4 := hb3.grown hg6 z3 (fun k hk => (o3.lt k hk).1)
            obtain ⟨AQ, cQ, eQ, _, rQ⟩ := o4.rd (S' := fun _ => True) (fun _ _ => trivial) (fun cs x h => h)
            injection eQ with eQ1 _ eQ2
            subst eQ1; subst eQ2
            clear hg6 hat
            have s4 := (hb4.cell (p := ⟨q, 1, none⟩) hqr).trans s0
            have z4 := hb4.size
            refine hK.out _ _ (by first | exact s0 | exact s1 | exact s2 | exact s3 | exact s4 | exact s5) (fun hHeld => ?_)
            clear hK K
            try simp (maxSteps := 2000000) only [List.getElem_toArray, List.getElem_cons_succ, List.getElem_cons_zero, Act.put, List.setIfInBounds_toArray, List.set_cons_zero, List.set_cons_succ]
            refine wpAnyH_ready (rs := [10]) (by kernel_rfl) (by simp) ?_
            refine AllReadyH.cons rfl (fun K hK => ?_) AllReadyH.nil
            have hdi := distinct_any (w := v4) (n := k + dl) (most := dl + 1) (cg := c6) rQ (by omega) (by omega) (by omega)
            push_cast at hdi
            try simp (maxSteps := 2000000) only [List.getElem_toArray, List.getElem_cons_succ, List.getElem_cons_zero]
            go_simp
            refine hdi.mono ?_
            clear hdi
            rintro e v5 ⟨A9, c9, D2, rfl, hc9, hG2, hr9, hb95⟩
            obtain ⟨d2, hd2⟩ : ∃ d2, D2.length = d2 := ⟨_, rfl⟩
            rw [hd2] at hr9 hc9 ⊢
            have hb5 := hb4.trans (hb95.mono z4)
            have s5 := (hb5.cell (p := ⟨q, 1, none⟩) hqr).trans s0
            have z5 := hb5.size
            have HG2 := Lib.hid hG2
            have HD2 := Lib.hid hd2
            have hd2m : d2 ≤ dl + 1 := by rw [← hd2]; exact hG2.ln
            clear hG2 hd2 hb95
            try (go_wp2_with fail)
            refine hK.out _ _ (by first | exact s0 | exact s1 | exact s2 | exact s3 | exact s4 | exact s5) (fun hHeld => ?_)
            clear hK K
            try simp (maxSteps := 2000000) only [List.getElem_toArray, List.getElem_cons_succ, List.getElem_cons_zero, Act.put, List.setIfInBounds_toArray, List.set_cons_zero, List.set_cons_succ]
            refine wpAnyH_take (i := 11) (v := ?_) rfl (by kernel_rfl) (by kernel_rfl) (by kernel_rfl) (fun _ _ _ h => h) (Or.inl ⟨by first | kernel_rfl | rfl, ?_⟩) (by assumption) ?_
            rotate_left
            · (intro wq hSw; (try dsimp only at hSw); (try simp (maxSteps := 2000000) only [List.getElem_toArray, List.getElem_cons_succ, List.getElem_cons_zero]); go_simp); try with_reducible rfl
            try simp (maxSteps := 2000000) only [List.getElem_toArray, List.getElem_cons_succ, List.getElem_cons_zero, Act.put, List.setIfInBounds_toArray, List.set_cons_zero, List.set_cons_succ]
            refine wpAnyH_take (i := 14) (v := ?_) rfl (by kernel_rfl) (by kernel_rfl) (by kernel_rfl) (fun _ _ _ h => h) (Or.inl ⟨by first | kernel_rfl | rfl, ?_⟩) (by assumption) ?_
            rotate_left
            · (intro wq hSw; (try dsimp only at hSw); (try simp (maxSteps := 2000000) only [List.getElem_toArray, List.getElem_cons_succ, List.getElem_cons_zero]); go_simp); try with_reducible rfl
            try simp (maxSteps := 2000000) only [List.getElem_toArray, List.getElem_cons_succ, List.getElem_cons_zero, Act.put, List.setIfInBounds_toArray, List.set_cons_zero, List.set_cons_succ]
            refine wpAnyH_done (by kernel_rfl) ?_ _
            have HB5 := Lib.hid (hB0.out.trans (hb5.mono hB0.out.size))
            clear hB0 hb5 hHeld s0 s5 z5
            by_cases hgt : (d2 : Int) > (dl : Int)
            · have hrgE : ∀ x ∈ D ++ [(d : Int)], 0 ≤ x ∧ x < ((k + dl : Nat) : Int) := fun x hx => (List.mem_append.1 hx).elim (fun h => HG.out.rg x h) (fun h => by simp at h; subst h; omega)
              have hnd : (d : Int) ∉ D := fun hin => by
                have h1 := sub_len (n := k + dl) HG2.out.nd HG.out.nd HG2.out.rg HG.out.rg (fun x hx => (List.mem_append.1 (HG2.out.sub x hx)).elim id (fun h => by simp at h; subst h; exact hin))
                rw [HDL.out, HD2.out] at h1
                omega
              have hcn := left_cnt (n := k + dl) (D := D ++ [(d : Int)]) (by rw [List.nodup_append]; exact ⟨HG.out.nd, by simp, fun a ha b hb => by simp at hb; subst hb; exact fun e => hnd (e ▸ ha)⟩) hrgE
              rw [List.length_append, HDL.out] at hcn
              obtain ⟨l2, hl2⟩ : ∃ l2, cntP (leftB (D ++ [(d : Int)])) (k + dl) = l2 := ⟨_, rfl⟩
              rw [hl2] at hcn
              have hcn2 : l2 < k := by have : ([(d : Int)]).length = 1 := rfl; omega
              have hM5 := HM9.out.below' HB5.out
              have hcp := copy_y hM5 (fun st hst => by have := hurt_cache (fun i st h => (HFV.out i st h).2.1) HCA.out st hst; omega)
              have hlS : S8.length = k + dl := hM5.len
              have HL2 := Lib.hid hl2
              have HLS := Lib.hid hlS
              clear hcn hrgE hnd hl2 hM5 hlS
              go_wp2_with fail
              refine hcp.mono ?_
              clear hcp
              rintro e wc ⟨z, rfl, hMz, hbc⟩
              have hfx := fail_x hMz (d : Int)
              rw [if_pos ⟨p0, by rw [HLS.out]; omega⟩] at hfx
              clear hMz hbc
              go_wp2_with fail
              refine hfx.mono ?_
              clear hfx
              rintro e wf ⟨rfl, hMf, hKf⟩
              have hfv := fail_view (k := k) (N := k + dl) (r := ⟨3, p, g⟩) (xs := b) (ref3_ok hps) (d := d) (by rw [HLS.out]; exact hlt) HV8.out
              have hgt2 := get_view (g := leftB (D ++ [(d : Int)])) (r := ⟨3, p, g⟩) (xs := b) hMf.mid (ref3_ok hps) hg64 HXB.out HB44.out hfv
              rw [HL2.out, HER.out] at hgt2
              have hBf := hMf.bel
              have bRf := (BR9.out.below HB5.out).below hBf
              have cf : wf.cell? ⟨qr, 0, none⟩ = some (.int .u8 3) ∧ wf.cell? ⟨qr, 1, none⟩ = some (.int .i64 (p : Int)) ∧ wf.cell? ⟨qr, 2, none⟩ = some (.int .u64 (g : Int)) := ⟨bRf.cell 0, bRf.cell 1, bRf.cell 2⟩
              have HBF := Lib.hid (HB5.out.trans (hBf.mono HB5.out.size))
              clear hMf hKf hfv hBf bRf HB5
              go_wp2_with fail
              refine hgt2.mono ?_
              clear hgt2 cf
              rintro e wg ⟨hbg, ⟨_, rfl⟩ | ⟨hlt2, _⟩⟩
              · have HBG := Lib.hid (HBF.out.trans (hbg.mono HBF.out.size))
                clear hbg HBF
                go_wp2_with fail
                exact ⟨⟨d + 1, by omega, by go_num, HBG⟩, by simp [intOf]; omega⟩
              · exact absurd hlt2 (by omega)
            · go_wp2_with fail
              exact ⟨⟨d + 1, by omega, by go_num, HB5⟩, by simp [intOf]; omega⟩
        · try simp (maxSteps := 2000000) only [List.getElem_toArray, List.getElem_cons_succ, List.getElem_cons_zero]
          go_simp
          have l1 : OwnL IntR 3 1 v0.heap.size (fun _ => False) (v0.alloc (.cells #[.int .i64 (d : Int)] 3)) (.slice (some ⟨v0.heap.size, 0, none⟩) 1 1) 1 [(d : Int)] := OwnL.lit IntR.stable rfl z0 rfl
          have hb1 := hb0.alloc z0 (.cells #[.int .i64 (d : Int)] 3)
          have ls1 : v0.heap.size < (v0.alloc (.cells #[.int .i64 (d : Int)] 3)).heap.size := by rw [World.size_alloc]; omega
          obtain ⟨v1, hv1⟩ : ∃ W, v0.alloc (.cells #[.int .i64 (d : Int)] 3) = W := ⟨_, rfl⟩
          rw [hv1] at hb1 ls1 l1
          rw [hv1]
          clear hv1
          have s1 := (hb1.cell (p := ⟨q, 1, none⟩) hqr).trans s0
          have z1 := hb1.size
          refine hK.out _ _ (by first | exact s0 | exact s1 | exact s2 | exact s3 | exact s4 | exact s5) (fun hHeld => ?_)
          clear hK K
          try simp (maxSteps := 2000000) only [List.getElem_toArray, List.getElem_cons_succ, List.getElem_cons_zero, Act.put, List.setIfInBounds_toArray, List.set_cons_zero, List.set_cons_succ]
          refine wpAnyH_ready (rs := [0]) (by kernel_rfl) (by simp) ?_
          refine AllReadyH.cons rfl (fun K hK => ?_) AllReadyH.nil
          try simp (maxSteps := 2000000) only [List.getElem_toArray, List.getElem_cons_succ, List.getElem_cons_zero]
          go_simp
          have o2 : OwnL IntR 3 1 v0.heap.size (fun _ => True) (v1.alloc (.cells #[] 3)) (.slice (some ⟨v1.heap.size, 0, none⟩) 0 0) 0 [] := OwnL.made #[] 0 z1 (by unfold maxLen; omega) rfl
          have hb2 := hb1.alloc z1 (.cells #[] 3)
          have ls2 : v1.heap.size < (v1.alloc (.cells #[] 3)).heap.size := by rw [World.size_alloc]; omega
          have l2 := l1.alloc IntR.stable (.cells #[] 3)
          obtain ⟨v2, hv2⟩ : ∃ W, v1.alloc (.cells #[] 3) = W := ⟨_, rfl⟩
          rw [hv2] at hb2 ls2 o2 l2
          rw [hv2]
          clear hv2
          have s2 := (hb2.cell (p := ⟨q, 1, none⟩) hqr).trans s0
          have z2 := hb2.size
          refine hK.out _ _ (by first | exact s0 | exact s1 | exact s2 | exact s3 | exact s4 | exact s5) (fun hHeld => ?_)
          clear hK K
          try simp (maxSteps := 2000000) only [List.getElem_toArray, List.getElem_cons_succ, List.getElem_cons_zero, Act.put, List.setIfInBounds_toArray, List.set_cons_zero, List.set_cons_succ]
          refine wpAnyH_ready (rs := [2]) (by kernel_rfl) (by simp) ?_
          refine AllReadyH.cons rfl (fun K hK => ?_) AllReadyH.nil
          refine step_law (by rfl) (wpList_appL IntR.stable IntR.one sl_intD (by rfl) (by rfl) (base := v0.heap.size) (S := fun _ => True) (n := 0) (xs := []) (by exact rfl) o2 (by exact rfl) (HR9r.out.below IntR.stable hb2) (fun _ _ h => h) (by unfold maxLen; omega) (by omega) z2 ?_)
          intro A3 c3 v3 hc3 o3 hg3 hat
          refine ⟨rfl, ?_⟩
          rw [Nat.zero_add, List.nil_append] at o3
          have hb3 : Below v0.heap.size v0 v3 := hb2.grown hg3 z2 (fun k hk => (o2.lt k hk).1)
          have l3 := l2.other IntR.stable (S' := fun _ => False) hg3 (.inr (by simp only [Value.ownBlock, ne_eq, Option.some.injEq]; omega)) (fun _ h => h.elim) (fun _ h => h.elim)
          rw [Nat.zero_add]
          clear hg3 hat
          have s3 := (hb3.cell (p := ⟨q, 1, none⟩) hqr).trans s0
          have z3 := hb3.size
          refine hK.out _ _ (by first | exact s0 | exact s1 | exact s2 | exact s3 | exact s4 | exact s5) (fun hHeld => ?_)
          clear hK K
          try simp (maxSteps := 2000000) only [List.getElem_toArray, List.getElem_cons_succ, List.getElem_cons_zero, Act.put, List.setIfInBounds_toArray, List.set_cons_zero, List.set_cons_succ]
          refine wpAnyH_ready (rs := [5]) (by kernel_rfl) (by simp) ?_
          refine AllReadyH.cons rfl (fun K hK => ?_) AllReadyH.nil
          obtain ⟨AL, cL, eL, _, rL⟩ := l3.rd (S' := fun _ => True) (fun _ _ => trivial) (fun cs x h => h)
          injection eL with eL1 _ eL2
          subst eL1; subst eL2
          refine step_law (by rfl) (wpList_appL IntR.stable IntR.one sl_intD (by rfl) (by rfl) (base := v0.heap.size) (S := fun _ => True) (n := dl) (xs := D) (by exact rfl) o3 (by exact rfl) rL (fun _ _ h => h) (by unfold maxLen; omega) (by omega) z3 ?_)
          intro A6 c6 v4 hc6 o4 hg6 hat
          refine ⟨rfl, ?_⟩
          have hb4 : Below v0.heap.size v0 v4 := hb3.grown hg6 z3 (fun k hk => (o3.lt k hk).1)
          obtain ⟨AQ, cQ, eQ, _, rQ⟩ := o4.rd (S' := fun _ => True) (fun _ _ => trivial) (fun cs x h => h)
          injection eQ with eQ1 _ eQ2
          subst eQ1; subst eQ2
          clear hg6 hat
          have s4 := (hb4.cell (p := ⟨q, 1, none⟩) hqr).trans s0
          have z4 := hb4.size
          refine hK.out _ _ (by first | exact s0 | exact s1 | exact s2 | exact s3 | exact s4 | exact s5) (fun hHeld => ?_)
          clear hK K
          try simp (maxSteps := 2000000) only [List.getElem_toArray, List.getElem_cons_succ, List.getElem_cons_zero, Act.put, List.setIfInBounds_toArray, List.set_cons_zero, List.set_cons_succ]
          refine wpAnyH_ready (rs := [10]) (by kernel_rfl) (by simp) ?_
          refine AllReadyH.cons rfl (fun K hK => ?_) AllReadyH.nil
          have hdi := distinct_any (w := v4) (n := k + dl) (most := dl + 1) (cg := c6) rQ (by omega) (by omega) (by omega)
          push_cast at hdi
          try simp (maxSteps := 2000000) only [List.getElem_toArray, List.getElem_cons_succ, List.getElem_cons_zero]
          go_simp
          refine hdi.mono ?_
          clear hdi
          rintro e v5 ⟨A9, c9, D2, rfl, hc9, hG2, hr9, hb95⟩
          obtain ⟨d2, hd2⟩ : ∃ d2, D2.length = d2 := ⟨_, rfl⟩
          rw [hd2] at hr9 hc9 ⊢
          have hb5 := hb4.trans (hb95.mono z4)
          have s5 := (hb5.cell (p := ⟨q, 1, none⟩) hqr).trans s0
          have z5 := hb5.size
          have HG2 := Lib.hid hG2
          have HD2 := Lib.hid hd2
          have hd2m : d2 ≤ dl + 1 := by rw [← hd2]; exact hG2.ln
          clear hG2 hd2 hb95
          try (go_wp2_with fail)
          refine hK.out _ _ (by first | exact s0 | exact s1 | exact s2 | exact s3 | exact s4 | exact s5) (fun hHeld => ?_)
          clear hK K
          try simp (maxSteps := 2000000) only [List.getElem_toArray, List.getElem_cons_succ, List.getElem_cons_zero, Act.put, List.setIfInBounds_toArray, List.set_cons_zero, List.set_cons_succ]
          refine wpAnyH_take (i := 11) (v := ?_) rfl (by kernel_rfl) (by kernel_rfl) (by kernel_rfl) (fun _ _ _ h => h) (Or.inl ⟨by first | kernel_rfl | rfl, ?_⟩) (by assumption) ?_
          rotate_left
          · (intro wq hSw; (try dsimp only at hSw); (try simp (maxSteps := 2000000) only [List.getElem_toArray, List.getElem_cons_succ, List.getElem_cons_zero]); go_simp); try with_reducible rfl
          try simp (maxSteps := 2000000) only [List.getElem_toArray, List.getElem_cons_succ, List.getElem_cons_zero, Act.put, List.setIfInBounds_toArray, List.set_cons_zero, List.set_cons_succ]
          refine wpAnyH_take (i := 14) (v := ?_) rfl (by kernel_rfl) (by kernel_rfl) (by kernel_rfl) (fun _ _ _ h => h) (Or.inl ⟨by first | kernel_rfl | rfl, ?_⟩) (by assumption) ?_
          rotate_left
          · (intro wq hSw; (try dsimp only at hSw); (try simp (maxSteps := 2000000) only [List.getElem_toArray, List.getElem_cons_succ, List.getElem_cons_zero]); go_simp); try with_reducible rfl
          try simp (maxSteps := 2000000) only [List.getElem_toArray, List.getElem_cons_succ, List.getElem_cons_zero, Act.put, List.setIfInBounds_toArray, List.set_cons_zero, List.set_cons_succ]
          refine wpAnyH_done (by kernel_rfl) ?_ _
          have HB5 := Lib.hid (hB0.out.trans (hb5.mono hB0.out.size))
          clear hB0 hb5 hHeld s0 s5 z5
          by_cases hgt : (d2 : Int) > (dl : Int)
          · have hrgE : ∀ x ∈ D ++ [(d : Int)], 0 ≤ x ∧ x < ((k + dl : Nat) : Int) := fun x hx => (List.mem_append.1 hx).elim (fun h => HG.out.rg x h) (fun h => by simp at h; subst h; omega)
            have hnd : (d : Int) ∉ D := fun hin => by
              have h1 := sub_len (n := k + dl) HG2.out.nd HG.out.nd HG2.out.rg HG.out.rg (fun x hx => (List.mem_append.1 (HG2.out.sub x hx)).elim id (fun h => by simp at h; subst h; exact hin))
              rw [HDL.out, HD2.out] at h1
              omega
            have hcn := left_cnt (n := k + dl) (D := D ++ [(d : Int)]) (by rw [List.nodup_append]; exact ⟨HG.out.nd, by simp, fun a ha b hb => by simp at hb; subst hb; exact fun e => hnd (e ▸ ha)⟩) hrgE
            rw [List.length_append, HDL.out] at hcn
            obtain ⟨l2, hl2⟩ : ∃ l2, cntP (leftB (D ++ [(d : Int)])) (k + dl) = l2 := ⟨_, rfl⟩
            rw [hl2] at hcn
            have hcn2 : l2 < k := by have : ([(d : Int)]).length = 1 := rfl; omega
            have hM5 := HM9.out.below' HB5.out
            have hcp := copy_y hM5 (fun st hst => by have := hurt_cache (fun i st h => (HFV.out i st h).2.1) HCA.out st hst; omega)
            have hlS : S8.length = k + dl := hM5.len
            have HL2 := Lib.hid hl2
            have HLS := Lib.hid hlS
            clear hcn hrgE hnd hl2 hM5 hlS
            go_wp2_with fail
            refine hcp.mono ?_
            clear hcp
            rintro e wc ⟨z, rfl, hMz, hbc⟩
            have hfx := fail_x hMz (d : Int)
            rw [if_pos ⟨p0, by rw [HLS.out]; omega⟩] at hfx
            clear hMz hbc
            go_wp2_with fail
            refine hfx.mono ?_
            clear hfx
            rintro e wf ⟨rfl, hMf, hKf⟩
            have hfv := fail_view (k := k) (N := k + dl) (r := ⟨3, p, g⟩) (xs := b) (ref3_ok hps) (d := d) (by rw [HLS.out]; exact hlt) HV8.out
            have hgt2 := get_view (g := leftB (D ++ [(d : Int)])) (r := ⟨3, p, g⟩) (xs := b) hMf.mid (ref3_ok hps) hg64 HXB.out HB44.out hfv
            rw [HL2.out, HER.out] at hgt2
            have hBf := hMf.bel
            have bRf := (BR9.out.below HB5.out).below hBf
            have cf : wf.cell? ⟨qr, 0, none⟩ = some (.int .u8 3) ∧ wf.cell? ⟨qr, 1, none⟩ = some (.int .i64 (p : Int)) ∧ wf.cell? ⟨qr, 2, none⟩ = some (.int .u64 (g : Int)) := ⟨bRf.cell 0, bRf.cell 1, bRf.cell 2⟩
            have HBF := Lib.hid (HB5.out.trans (hBf.mono HB5.out.size))
            clear hMf hKf hfv hBf bRf HB5
            go_wp2_with fail
            refine hgt2.mono ?_
            clear hgt2 cf
            rintro e wg ⟨hbg, ⟨_, rfl⟩ | ⟨hlt2, _⟩⟩
            · have HBG := Lib.hid (HBF.out.trans (hbg.mono HBF.out.size))
              clear hbg HBF
              go_wp2_with fail
              exact ⟨⟨d + 1, by omega, by go_num, HBG⟩, by simp [intOf]; omega⟩
            · exact absurd hlt2 (by omega)
          · go_wp2_with fail
            exact ⟨⟨d + 1, by omega, by go_num, HB5⟩, by simp [intOf]; omega⟩
      · have p1 : ¬ (d : Int) < (k : Int) + (dl : Int) := by omega
        have HBE := Lib.hid (HB9.out.trans (HB.out.mono HB9.out.size))
        go_wp2_with fail
        refine holds_any.mono ?_
        rintro e wz ⟨rfl, hbz⟩
        go_wp2_with fail
        go_ret
        exact ⟨rfl, HBE.out.trans (hbz.mono HBE.out.size)⟩
end Go.Proofs.YteialipoedmmmaaGreat

set_option linter.unusedSimpArgs false
set_option linter.unusedVariables false
namespace Go.Proofs.YteialipoedmmmaaGreat
open Go.RowKit Go.Cib
attribute [local go_sem] cell_set Later.cell Later.frozen Grw.cell Grw.frozen
open Go.ChangeShapes Go.WideShapes Go.ChangeAt Go.Deep
theorem opens_by : Opens Tryz.prog 5 ByR 1 :=
  ⟨by kernel_rfl, by omega, fun H enc w base spare held fuel cs x _ hx => by
    obtain ⟨n, rfl, _, hw⟩ := DataW.trod_int Tryz.underlying5 hx
    have h2 : 0 ≤ n ∧ n ≤ 255 := by
      simp [Lit.wf, IntKind.min, IntKind.max, IntKind.signed, IntKind.bits] at hw
      omega
    exact ⟨n.toNat, by omega, by rw [show ((n.toNat : Nat) : Int) = n by omega]⟩⟩
theorem u64_bounds {z : Int} (h : (Lit.int .u64 z).wf = true) : 0 ≤ z ∧ z < 18446744073709551616 := by
  simp [Lit.wf, IntKind.min, IntKind.max, IntKind.bits, IntKind.signed] at h
  omega
theorem u32_bounds {z : Int} (h : (Lit.int .u32 z).wf = true) : 0 ≤ z ∧ z < 4294967296 := by
  simp [Lit.wf, IntKind.min, IntKind.max, IntKind.bits, IntKind.signed] at h
  omega
set_option maxRecDepth 100000 in
theorem open_geo {H : Type} {enc : TypeId × Value → H} {w : World} {base b0 : Nat} {spare : Nat → Bool} {held : Bool} {r : Reach} {v : Value} {d : DataW H} {ps : List MemPlace}
    (hval : Value.okWide Tryz.prog w r b0 23 v) (h : DataW.Trod enc Tryz.prog w base spare held 23 v d ps) : ∃ k m s : Int, v = .agg #[.int .i64 k, .int .i64 m, .int .i64 s] := by
  obtain ⟨cs, rfl, hsz⟩ := okWide_struct Tryz.underlying23 hval
  obtain ⟨fuel, hx⟩ := h
  have h5 : cs.size = 3 := hsz.trans (by kernel_rfl)
  have hl : (Value.agg cs).cells.toList.length = 3 := by simpa [Value.cells] using h5
  obtain ⟨xs, n, _, _, hlen, hxl, hf⟩ := DataW.trod_struct Tryz.underlying23 hx
  have e0 : (Value.agg cs).cells.toList = cs.toList := rfl
  rw [e0] at hf hl
  match hc : cs.toList, hl with
  | [c0, c1, c2], _ =>
    rw [hc] at hf
    have f0 := hf 0 _ rfl
    have f1 := hf 1 _ rfl
    have f2 := hf 2 _ rfl
    have k1 : Tryz.prog.cellsOf 3 = 1 := by kernel_rfl
    have hx3 : xs.length = 3 := hxl
    simp only [List.getElem_toArray, List.getElem_cons_zero, List.getElem_cons_succ, k1, List.drop_zero, List.drop_succ_cons, List.take_succ_cons, List.take_zero] at f0 f1 f2
    rw [List.getElem?_eq_getElem (by omega)] at f0 f1 f2
    obtain ⟨s, e1, _, _⟩ := DataW.trod_int Tryz.underlying3 f0
    obtain ⟨t, e2, _, _⟩ := DataW.trod_int Tryz.underlying3 f1
    obtain ⟨u, e3, _, _⟩ := DataW.trod_int Tryz.underlying3 f2
    simp only [List.cons.injEq, and_true] at e1 e2 e3
    subst e1; subst e2; subst e3
    refine ⟨s, t, u, ?_⟩
    rw [show cs = cs.toList.toArray by simp, hc]
end Go.Proofs.YteialipoedmmmaaGreat
