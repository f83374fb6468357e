/-
  The page's example: a stripe with a dead drive.
  A stripe is gone when another one was put at its place: the walk.
  A geometry among the arguments; bounds of whole numbers.
-/
import Derived.Test.YteialipoedmmmaaGreatSs11
import Derived.Test.YteialipoedmmmaaGreatSs3
import Derived.Test.YteialipoedmmmaaGreatSs2
set_option linter.unusedSimpArgs false
set_option linter.unusedVariables false
namespace Go.Proofs.YteialipoedmmmaaGreat
open Go.RowKit Go.Cib
attribute [local go_sem] cell_set Later.cell Later.frozen Grw.cell Grw.frozen
def rH : Ref := ⟨3, 1, 5⟩
theorem rH_ok : rH.ok 3 := ⟨by decide, by decide, by decide⟩
theorem rH_gen : Hid (rH.gen < 2 ^ 64) := Lib.hid (by decide)
def xH : List Nat := [97, 98, 99]
theorem xH_byt : Byt xH := by unfold xH; intro x hx; simp at hx; omega
def hRef : Array Value := #[.int .u8 3, .int .i64 1, .int .u64 5]
theorem hRef_eq : refC rH = hRef := rfl
def g1 (d : Nat) : Bool := decide (d ≠ 1)
def g2 (d : Nat) : Bool := decide (d ≠ 1) && decide (d ≠ 2)
theorem cnt_g1 : cntP g1 3 = 2 := by decide
theorem cnt_g2 : cntP g2 3 = 1 := by decide
theorem whl_g1 : (List.range 3).map (fun i => g1 (homeN 3 rH.place i)) = [false, true, true] := by decide
theorem home_574 : homeN 5 7 4 = 1 := by decide
theorem hole_view {l : List Int} {g : Nat → Bool} (hg : ∀ d, d < 3 → (g d = true ↔ (d : Int) ∉ l)) : ∀ d st, ((putS 3 2 3 rH xH).mapIdx (goneS 3 l))[d]? = some st → (g d = true ∧ HasS 2 3 rH xH d st) ∨ (g d = false ∧ LostS 2 rH st) := by
  intro d st h
  obtain ⟨s1, h1, rfl⟩ := mapIdx_at h
  obtain ⟨rfl, hd⟩ := putS_at h1
  by_cases hin : (d : Int) ∈ l
  · refine .inr ⟨?_, ?_⟩
    · cases hgd : g d with
      | false => rfl
      | true => exact absurd hin ((hg d hd).1 hgd)
    · unfold goneS
      rw [if_pos hin]
      exact lost_zero (gone_seen (by decide))
  · refine .inl ⟨(hg d hd).2 hin, ?_⟩
    unfold goneS
    rw [if_neg hin]
    exact has_put rH_ok xH_byt rfl
theorem marked_rd {w : World} {t : TypeId} {m : Nat × Nat} {xs : List Nat} (hx : Byt xs) (hn : 0 < xs.length) : RdL ByR 1 (fun j => w.heap.size ≤ j) (w.alloc (.cells (xs.map fun b : Nat => Value.int .u8 (b : Int)).toArray t m)) (some ⟨w.heap.size, 0, none⟩) xs.length xs := by
  refine ⟨rfl, fun _ => ⟨w.heap.size, 0, rfl, Nat.le_refl _, by rw [World.size_alloc]; omega, fun i x hi => ⟨[.int .u8 (x : Int)], rfl, ⟨hx x (List.mem_of_getElem? hi), rfl⟩, fun j v hj => ?_⟩⟩⟩
  rcases j with _ | j
  · simp at hj; subst hj
    have hb : (w.alloc (.cells (xs.map fun b : Nat => Value.int .u8 (b : Int)).toArray t m)).heap[w.heap.size]? = some (.cells (xs.map fun b : Nat => Value.int .u8 (b : Int)).toArray t m) := by
      show (w.heap.push _)[w.heap.size]? = _
      simp
    unfold World.cell?
    dsimp only
    rw [hb]
    simp [hi]
  · simp at hj
theorem RdL.bound {X : Type} {R : (Nat → Prop) → World → List Value → X → Prop} (hR : Stable R) {s : Nat} {S : Nat → Prop} {w : World} {A : Option Addr} {n : Nat} {xs : List X} (h : RdL R s S w A n xs) : RdL R s (fun j => S j ∧ j < w.heap.size) w A n xs := h.stable hR fun j hj hl => ⟨⟨hj, hl⟩, rfl⟩
theorem fail1 (n : Nat) (sts : List DSt) (d : Int) : failA n sts d = sts.mapIdx (goneS n [d]) := by
  have h := failA_gone n sts [] d
  rw [goneS_nil] at h
  exact h
theorem cache_new {n N : Nat} : ∀ st ∈ newS n N, st.cache.length < 900000 := fun st hst => by
  obtain ⟨d, hd, rfl⟩ := List.mem_iff_getElem.1 hst
  rw [(newS_at (List.getElem?_eq_getElem hd)).1]
  show ([] : List (Int × List Int)).length < 900000
  decide
theorem bools3 {w : World} {g : Nat} {b0 b1 b2 : Bool} {S : Nat → Prop} (h : RdL BoolR 1 S w (some ⟨g, 0, none⟩) 3 [b0, b1, b2]) : w.cell? ⟨g, 0, none⟩ = some (.bool b0) ∧ w.cell? ⟨g, 1, none⟩ = some (.bool b1) ∧ w.cell? ⟨g, 2, none⟩ = some (.bool b2) := by
  obtain ⟨_, c0, _, h0, e0⟩ := h.at (k := 0) (by omega)
  obtain ⟨_, c1, _, h1, e1⟩ := h.at (k := 1) (by omega)
  obtain ⟨_, c2, _, h2, e2⟩ := h.at (k := 2) (by omega)
  have f0 := e0 0 _ (by rw [h0]; rfl)
  have f1 := e1 0 _ (by rw [h1]; rfl)
  have f2 := e2 0 _ (by rw [h2]; rfl)
  exact ⟨f0, f1, f2⟩
set_option maxRecDepth 100000 in
set_option maxHeartbeats 16000000 in
theorem holds_any {w : World} : Calls Tryz.prog 8 #[] w fun e w' => e = .returned (.bool true) ∧ Below w.heap.size w w' := by
  have hmd := made_law (w0 := w) (w := w) (k := 2) (m := 1) (n := 3) (Below.refl _ _) (by omega) (by omega) (by omega) (by omega) (by omega)
  have e0 : geoC ((2 : Nat) : Int) ((1 : Nat) : Int) ((3 : Nat) : Int) = #[.int .i64 2, .int .i64 1, .int .i64 3] := rfl
  rw [e0] at hmd
  clear e0
  go_enter Tryz.func8, Tryz.ntmps8
  go_wp2_with fail
  refine hmd.mono ?_
  clear hmd
  rintro e w1 ⟨a, cb, bf, rfl, hM, hb1⟩
  have hM1 := Lib.hid (show SMid w w1 a cb bf 2 1 3 (newS 3 3) from hM)
  clear hM hb1
  have bR := BoxAt.new w1 hRef 33
  have hbR : Below w1.heap.size w1 (w1.alloc (.cells hRef 33)) := (Below.refl _ _).alloc (Nat.le_refl _) _
  have hX0 := (hM1.out.x0.below hbR)
  obtain ⟨wA, hwA⟩ : ∃ wA, w1.alloc (.cells hRef 33) = wA := ⟨_, rfl⟩
  obtain ⟨q, hq⟩ : ∃ q, w1.heap.size = q := ⟨_, rfl⟩
  have hqA : q < wA.heap.size := by rw [← hwA, ← hq, World.size_alloc]; omega
  rw [hwA] at bR hX0
  rw [hq] at bR hX0
  have cA : wA.cell? ⟨q, 0, none⟩ = some (.int .u8 3) ∧ wA.cell? ⟨q, 1, none⟩ = some (.int .i64 1) ∧ wA.cell? ⟨q, 2, none⟩ = some (.int .u64 5) := ⟨bR.cell 0, bR.cell 1, bR.cell 2⟩
  have hkc := Lib.run_convert_bytes_const (P := Tryz.prog) wA 24 5 #[.int .u8 97, .int .u8 98, .int .u8 99] 3 3 (by kernel_rfl) (by kernel_rfl)
  have hr2 : RdL ByR 1 (fun j => wA.heap.size ≤ j) (wA.alloc (.cells #[.int .u8 97, .int .u8 98, .int .u8 99] 5 (3, 4))) (some ⟨wA.heap.size, 0, none⟩) 3 xH := marked_rd (w := wA) (t := 5) (m := (3, 4)) xH_byt (by decide)
  have hb2 : Below wA.heap.size wA (wA.alloc (.cells #[.int .u8 97, .int .u8 98, .int .u8 99] 5 (3, 4))) := (Below.refl _ _).alloc (Nat.le_refl _) _
  have hkc2 : (convert 24 24 (.slice (some ⟨wA.heap.size, 0, none⟩) 3 3)).run Tryz.prog (wA.alloc (.cells #[.int .u8 97, .int .u8 98, .int .u8 99] 5)) = .ok (.slice (some ⟨wA.heap.size, 0, none⟩) 3 3) (wA.alloc (.cells #[.int .u8 97, .int .u8 98, .int .u8 99] 5 (3, 4))) := hkc
  obtain ⟨w2, hw2⟩ : ∃ w2, wA.alloc (.cells #[.int .u8 97, .int .u8 98, .int .u8 99] 5 (3, 4)) = w2 := ⟨_, rfl⟩
  rw [hw2] at hr2 hb2 hkc2
  have HM2 := Lib.hid ((hX0.below' hb2).sub (Y := fun j => j = q) fun j hj => .inr (by omega))
  have bR2 := bR.below hb2
  have hpu := put_x HM2.out rH_ok rH_gen cache_new (c := 3) hr2 (Nat.le_refl _) (by decide)
  rw [live_new, hRef_eq] at hpu
  have HPU := Lib.hid hpu
  clear hkc hr2 hb2 hM1 hbR bR hw2 hpu hX0 hqA
  unfold hRef at hwA
  have c0 : w2.cell? ⟨q, 0, none⟩ = some (.int .u8 3) ∧ w2.cell? ⟨q, 1, none⟩ = some (.int .i64 1) ∧ w2.cell? ⟨q, 2, none⟩ = some (.int .u64 5) := ⟨bR2.cell 0, bR2.cell 1, bR2.cell 2⟩
  go_wp2_with fail
  refine HPU.out.mono ?_
  clear HPU c0 cA hkc2 hwA hq HM2
  rintro e w3 ⟨rfl, hM3, hK3⟩
  have HM3 := Lib.hid (show SMidX (fun j => j = q) w w3 a cb bf 2 1 3 (putS 3 2 3 rH xH) from hM3)
  have bR3 := hK3.box bR2 rfl
  clear hM3 hK3 bR2
  have hf := fail_x HM3.out 1
  rw [fail1, if_pos (by constructor <;> decide)] at hf
  go_wp2_with fail
  refine hf.mono ?_
  clear hf HM3
  rintro e w4 ⟨rfl, hM4, hK4⟩
  have bR4 := hK4.box bR3 rfl
  have HM4 := Lib.hid hM4
  clear hM4 hK4 bR3
  have hg := get_view HM4.out.mid rH_ok rH_gen xH_byt (by decide) (hole_view (g := g1) (l := [1]) (by intro d hd; unfold g1; simp; omega))
  have hx3 : xH.length = 3 := rfl
  rw [show (2 + 1 : Nat) = 3 from rfl, cnt_g1, hRef_eq] at hg
  unfold hRef at hg
  have c4 : w4.cell? ⟨q, 0, none⟩ = some (.int .u8 3) ∧ w4.cell? ⟨q, 1, none⟩ = some (.int .i64 1) ∧ w4.cell? ⟨q, 2, none⟩ = some (.int .u64 5) := ⟨bR4.cell 0, bR4.cell 1, bR4.cell 2⟩
  go_wp2_with fail
  refine hg.mono ?_
  clear hg c4
  rintro e w5 ⟨hb5, ⟨hlt, _⟩ | ⟨_, A5, c5, rfl, hc5, hr5⟩⟩
  · omega
  have bR5 := bR4.below hb5
  have HM5 := Lib.hid (HM4.out.below hb5)
  have HR5 := Lib.hid (RdL.bound ByR.stable hr5)
  clear HM4 bR4 hb5 hr5
  have hw := whole_view HM5.out.mid rH_ok rH_gen xH_byt (by decide) (hole_view (g := g1) (l := [1]) (by intro d hd; unfold g1; simp; omega))
  rw [show (2 + 1 : Nat) = 3 from rfl, whl_g1, hRef_eq] at hw
  unfold hRef at hw
  have c5 : w5.cell? ⟨q, 0, none⟩ = some (.int .u8 3) ∧ w5.cell? ⟨q, 1, none⟩ = some (.int .i64 1) ∧ w5.cell? ⟨q, 2, none⟩ = some (.int .u64 5) := ⟨bR5.cell 0, bR5.cell 1, bR5.cell 2⟩
  go_wp2_with fail
  refine hw.mono ?_
  clear hw c5
  rintro e w6 ⟨g, rfl, hr6, hb6⟩
  have bR6 := bR5.below hb6
  have HM6 := Lib.hid (HM5.out.below hb6)
  have HR56 := Lib.hid (HR5.out.below ByR.stable hb6)
  have HR6 := Lib.hid (RdL.bound BoolR.stable hr6)
  clear HM5 HR5 bR5 hb6 hr6
  have hf := fail_x HM6.out 2
  rw [failA_gone, if_pos (by constructor <;> decide)] at hf
  go_wp2_with fail
  refine hf.mono ?_
  clear hf
  rintro e w7 ⟨rfl, hM7, hK7⟩
  have bR7 := hK7.box bR6 (.inl (.inl rfl))
  have HR57 := Lib.hid (hK7.rd ByR.stable HR56.out (fun j hj => .inl (.inr hj)))
  have HR67 := Lib.hid (hK7.rd BoolR.stable HR6.out (fun j hj => .inr hj))
  have HM7 := Lib.hid hM7
  clear hM7 hK7 bR6 HM6 HR56 HR6
  have hg := get_view HM7.out.mid rH_ok rH_gen xH_byt (by decide) (hole_view (g := g2) (l := [1] ++ [2]) (by intro d hd; unfold g2; simp; omega))
  rw [show (2 + 1 : Nat) = 3 from rfl, cnt_g2, hRef_eq] at hg
  unfold hRef at hg
  have c7 : w7.cell? ⟨q, 0, none⟩ = some (.int .u8 3) ∧ w7.cell? ⟨q, 1, none⟩ = some (.int .i64 1) ∧ w7.cell? ⟨q, 2, none⟩ = some (.int .u64 5) := ⟨bR7.cell 0, bR7.cell 1, bR7.cell 2⟩
  go_wp2_with fail
  refine hg.mono ?_
  clear hg c7
  rintro e w8 ⟨hb8, ⟨_, rfl⟩ | ⟨hlt, _⟩⟩
  · have HR58 := Lib.hid (HR57.out.below ByR.stable hb8)
    have HR68 := Lib.hid (HR67.out.below BoolR.stable hb8)
    have HC8 := Lib.hid (HM7.out.below' hb8).cod
    have hB8 := (HM7.out.below' hb8).bel
    have HB8 := Lib.hid hB8
    clear HM7 HR57 HR67 bR7 hB8 hb8
    have t1 : (convert 24 9 (.slice A5 3 c5)).run Tryz.prog w8 = .ok (.string (textB xH)) w8 := text_run (c := c5) HR58.out
    have et : textB xH = ⟨#[97, 98, 99]⟩ := by decide +kernel
    rw [et] at t1
    have c8 := bools3 HR68.out
    have hho := fun w => home_any (w := w) (n := 5) (place := 7) (i := 4) (by omega) (by omega)
    rw [home_574] at hho
    go_wp2_with fail
    refine (hho _).mono ?_
    clear hho
    rintro e w9 ⟨rfl, hb9⟩
    have hrm9 := room_any (HC8.out.below hb9)
    have HB9 := Lib.hid (HB8.out.trans (hb9.mono HB8.out.size))
    clear c8 t1 hb9
    go_wp2_with fail
    refine hrm9.mono ?_
    rintro e wB ⟨rfl, hwB⟩
    rw [hwB]
    clear hwB
    go_wp2_with fail
    go_ret
    exact ⟨rfl, HB9.out⟩
  · omega
end Go.Proofs.YteialipoedmmmaaGreat

set_option linter.unusedSimpArgs false
set_option linter.unusedVariables false
namespace Go.Proofs.YteialipoedmmmaaGreat
open Go.RowKit Go.Cib
attribute [local go_sem] cell_set Later.cell Later.frozen Grw.cell Grw.frozen
theorem small_nat {k m s : Int} (h : smallB k m s = true) : ∃ k' m' s' : Nat, k = k' ∧ m = m' ∧ s = s' ∧ 1 ≤ k' ∧ 1 ≤ m' ∧ k' + m' ≤ 10 ∧ 1 ≤ s' ∧ s' ≤ 8 := by
  have := of_decide_eq_true h
  exact ⟨k.toNat, m.toNat, s.toNat, by omega, by omega, by omega, by omega, by omega, by omega, by omega, by omega⟩
/-- Another stripe lies there. -/
theorem stale_1 {n k N : Nat} {r q : Ref} {xs : List Nat} (hr : r.ok n) (hn : n ≤ 600) (hg : Hid (r.gen < 2 ^ 64)) (hx : Byt xs) (hl : xs.length < 65536) (hN : 1 ≤ N) (hN2 : N ≤ 255) (hp : q.place = r.place) (hne : r.kind ≠ q.kind ∨ r.gen ≠ q.gen) {ys : List Nat} :
    ∀ d st, (putS n k N r xs)[d]? = some st → ((fun _ => false) d = true ∧ HasS k N q ys d st) ∨ ((fun _ : Nat => false) d = false ∧ LostS k q st) := fun d st h => by
  obtain ⟨rfl, hd⟩ := putS_at h
  refine .inr ⟨rfl, lost_other (putX_ok hr hn hg hx hl hN hN2 d) (putX_kind (k := k) (N := N) hr xs d) hne ?_⟩
  rw [putQ_live hr hx rfl, DSt.seen_write, if_pos (by rw [hp])]
theorem ref3_ok {p g n : Nat} (h : p < n) : Ref.ok ⟨3, p, g⟩ n := ⟨(by decide : 1 ≤ 3), (by decide : 3 ≤ 4), h⟩
theorem ref4_ok {p g n : Nat} (h : p < n) : Ref.ok ⟨4, p, g⟩ n := ⟨(by decide : 1 ≤ 4), (by decide : 4 ≤ 4), h⟩
theorem putS_live {n k N d : Nat} {r : Ref} (hr : r.ok n) {xs : List Nat} (hx : Byt xs) {st : DSt} (h : (putS n k N r xs)[d]? = some st) : st.dead = false := by
  obtain ⟨rfl, hd⟩ := putS_at h
  rw [putQ_live hr hx rfl]; rfl
theorem putS_len (n k N : Nat) (r : Ref) (xs : List Nat) : (putS n k N r xs).length = N := by unfold putS newS; simp
theorem live_put {n k N : Nat} {r : Ref} (hr : r.ok n) {xs : List Nat} (hx : Byt xs) {D : List Int} : liveC ((putS n k N r xs).mapIdx (goneS n D)) = cntP (leftB D) N := by
  rw [live_cnt (g := leftB D), List.length_mapIdx, putS_len]
  intro d st h
  rcases goneS_at h with ⟨hd, rfl⟩ | ⟨hd, h1⟩
  · rw [leftB_no.2 hd]; rfl
  · rw [leftB_iff.2 hd, putS_live hr hx h1]; rfl
/-- Behind drives that died another stripe was put. -/
theorem stale_2 {n k N : Nat} {r q : Ref} {xs ys : List Nat} {D : List Int} (hr : r.ok n) (hq : q.ok n) (hn : n ≤ 600) (hg : Hid (q.gen < 2 ^ 64)) (hx : Byt xs) (hy : Byt ys) (hl : ys.length < 65536) (hN : 1 ≤ N) (hN2 : N ≤ 255) (hp : q.place = r.place) (hne : q.kind ≠ r.kind ∨ q.gen ≠ r.gen) {zs : List Nat} :
    (∀ d st, (((putS n k N r xs).mapIdx (goneS n D)).mapIdx (putQ n k N q ys))[d]? = some st → ((fun _ => false) d = true ∧ HasS k N r zs d st) ∨ ((fun _ : Nat => false) d = false ∧ LostS k r st)) ∧
    (∀ d st, (((putS n k N r xs).mapIdx (goneS n D)).mapIdx (putQ n k N q ys))[d]? = some st → (leftB D d = true ∧ HasS k N q ys d st) ∨ (leftB D d = false ∧ LostS k q st)) := by
  constructor
  · intro d st h
    obtain ⟨s1, h1, rfl⟩ := mapIdx_at h
    refine .inr ⟨rfl, ?_⟩
    rcases goneS_at h1 with ⟨hd, rfl⟩ | ⟨hd, h2⟩
    · rw [putQ_dead rfl]; exact lost_gone hr
    · refine lost_other (putX_ok hq hn hg hy hl hN hN2 d) (putX_kind (k := k) (N := N) hq ys d) hne ?_
      rw [putQ_live hq hy (putS_live hr hx h2), DSt.seen_write, if_pos (by rw [hp])]
  · intro d st h
    obtain ⟨s1, h1, rfl⟩ := mapIdx_at h
    rcases goneS_at h1 with ⟨hd, rfl⟩ | ⟨hd, h2⟩
    · refine .inr ⟨leftB_no.2 hd, ?_⟩
      rw [putQ_dead rfl]; exact lost_gone hq
    · exact .inl ⟨leftB_iff.2 hd, has_put hq hy (putS_live hr hx h2)⟩
theorem putS_cache {n k N : Nat} {r : Ref} {xs : List Nat} {D : List Int} : ∀ st ∈ (putS n k N r xs).mapIdx (goneS n D), st.cache.length < 900000 := fun st hst => by
  obtain ⟨d, hd, rfl⟩ := List.mem_iff_getElem.1 hst
  rcases goneS_at (List.getElem?_eq_getElem hd) with ⟨_, e⟩ | ⟨_, h2⟩
  · rw [e]; show ([] : List (Int × List Int)).length < 900000; decide
  · have h3 := (putS_at h2).1
    have h4 : ((((putS n k N r xs).mapIdx (goneS n D))[d]).cache).length ≤ 0 + 1 := by rw [h3]; exact putQ_cache
    omega
set_option maxRecDepth 100000 in
set_option maxHeartbeats 32000000 in
theorem stale_any {w : World} {k m s place gen : Int} {A1 A2 A5 : Option Addr} {n1 c1 n2 c2 n5 c5 : Nat} {b now : List Nat} {dead : List Int} (R1 : Hid (RdL ByR 1 (fun _ => True) w A1 n1 b)) (hc1 : n1 ≤ c1) (R2 : Hid (RdL ByR 1 (fun _ => True) w A2 n2 now)) (hc2 : n2 ≤ c2) (hgen : Hid (0 ≤ gen ∧ gen < 18446744073709551616)) (R5 : Hid (RdL IntR 1 (fun _ => True) w A5 n5 dead)) :
    Calls Tryz.prog 3 #[.agg (geoC k m s), .slice A1 n1 c1, .slice A2 n2 c2, .int .i64 place, .int .u64 gen, .slice A5 n5 c5] w fun e w' => e = .returned (.bool true) ∧ Below w.heap.size w w' := by
  have hsm := fun w => small_any (w := w) k m s
  have bG := BoxAt.new w (geoC k m s) 23
  have hb0 : Below w.heap.size w (w.alloc (.cells (geoC k m s) 23)) := (Below.refl _ _).alloc (Nat.le_refl _) _
  obtain ⟨q, hq⟩ : ∃ q, w.heap.size = q := ⟨_, rfl⟩
  go_enter Tryz.func3, Tryz.ntmps3
  unfold geoC at hsm bG hb0 ⊢
  go_wp2_with fail
  obtain ⟨wA, hwA⟩ : ∃ wA, w.alloc (.cells #[.int .i64 k, .int .i64 m, .int .i64 s] 23) = wA := ⟨_, rfl⟩
  rw [hwA] at bG hb0 ⊢
  have HQ := Lib.hid hq
  have HB0 := Lib.hid hb0
  rw [hq] at bG
  clear hwA hq hb0
  cases hs : smallB k m s with
  | false =>
    rw [hs] at hsm
    refine (hsm _).mono ?_
    clear hsm
    rintro e w1 ⟨rfl, hb1⟩
    have HB1 := Lib.hid (HB0.out.trans (hb1.mono HB0.out.size))
    go_wp2_with fail
    refine holds_any.mono ?_
    rintro e wz ⟨rfl, hbz⟩
    go_wp2_with fail
    go_ret
    exact ⟨rfl, HB1.out.trans (hbz.mono HB1.out.size)⟩
  | true =>
    rw [hs] at hsm
    refine (hsm _).mono ?_
    clear hsm
    rintro e w1 ⟨rfl, hb1⟩
    obtain ⟨k, m, s, rfl, rfl, rfl, k1, m1, km, s1, s8⟩ := small_nat hs
    clear hs
    have HB1 := Lib.hid (HB0.out.trans (hb1.mono HB0.out.size))
    have bG1 := bG.below hb1
    have c1 : w1.cell? ⟨q, 0, none⟩ = some (.int .i64 (k : Int)) ∧ w1.cell? ⟨q, 1, none⟩ = some (.int .i64 (m : Int)) ∧ w1.cell? ⟨q, 2, none⟩ = some (.int .i64 (s : Int)) := ⟨bG1.cell 0, bG1.cell 1, bG1.cell 2⟩
    clear hb1 bG HB0
    have q0 : (0 : Int) ≤ (k : Int) := Int.natCast_nonneg _
    have q1 : (0 : Int) ≤ (m : Int) := Int.natCast_nonneg _
    have q2 : (k : Int) + (m : Int) ≤ 10 := by omega
    by_cases g1 : place < 0
    · go_wp2_with fail
      refine holds_any.mono ?_
      rintro e wz ⟨rfl, hbz⟩
      go_wp2_with fail
      go_ret
      exact ⟨rfl, HB1.out.trans (hbz.mono HB1.out.size)⟩
    by_cases g2 : place ≥ (s : Int)
    · go_wp2_with fail
      refine holds_any.mono ?_
      rintro e wz ⟨rfl, hbz⟩
      go_wp2_with fail
      go_ret
      exact ⟨rfl, HB1.out.trans (hbz.mono HB1.out.size)⟩
    by_cases g3 : (n1 : Int) > 44 * (k : Int)
    · go_wp2_with fail
      refine holds_any.mono ?_
      rintro e wz ⟨rfl, hbz⟩
      go_wp2_with fail
      go_ret
      exact ⟨rfl, HB1.out.trans (hbz.mono HB1.out.size)⟩
    by_cases g4 : (n2 : Int) > 44 * (k : Int)
    · go_wp2_with fail
      refine holds_any.mono ?_
      rintro e wz ⟨rfl, hbz⟩
      go_wp2_with fail
      go_ret
      exact ⟨rfl, HB1.out.trans (hbz.mono HB1.out.size)⟩
    by_cases g5 : gen = 0
    · have g5' : (gen == 0) = true := by simp [g5]
      go_wp2_with fail
      refine holds_any.mono ?_
      rintro e wz ⟨rfl, hbz⟩
      go_wp2_with fail
      go_ret
      exact ⟨rfl, HB1.out.trans (hbz.mono HB1.out.size)⟩
    have g5' : (gen == 0) = false := by simp [g5]
    by_cases g6 : (n5 : Int) > 30
    · go_wp2_with fail
      refine holds_any.mono ?_
      rintro e wz ⟨rfl, hbz⟩
      go_wp2_with fail
      go_ret
      exact ⟨rfl, HB1.out.trans (hbz.mono HB1.out.size)⟩
    obtain ⟨p, rfl⟩ : ∃ p : Nat, place = (p : Int) := ⟨place.toNat, by omega⟩
    obtain ⟨g, rfl⟩ : ∃ g : Nat, gen = (g : Int) + 1 := ⟨(gen - 1).toNat, by have := hgen.out; omega⟩
    have hg64 : Hid (g + 1 < 2 ^ 64) := Lib.hid (by have := hgen.out; omega)
    have hg63 : Hid (g < 2 ^ 64) := Lib.hid (by have := hgen.out; omega)
    have hps : p < s := by omega
    have hl1 : n1 ≤ k * 44 := by omega
    have hl2 : n2 ≤ k * 44 := by omega
    have hd30 : n5 ≤ 30 := by omega
    have hmd := made_law (w0 := w1) (w := w1) (k := k) (m := m) (n := s) (Below.refl _ _) k1 m1 (by omega) s1 (by omega)
    unfold geoC at hmd
    have HHL := Lib.hid hgen.out
    have z1 : ((g : Int) + 1 == 0) = false := g5'
    go_wp2_with fail
    refine hmd.mono ?_
    clear hmd
    rintro e w2 ⟨a, cb, bf, rfl, hM, hb2⟩
    have hM : SMid w1 w2 a cb bf k m s (newS s (k + m)) := hM
    have bG2 := bG1.below hb2
    have bR := BoxAt.new w2 (refC ⟨3, p, g + 1⟩) 33
    have hbR : Below w2.heap.size w2 (w2.alloc (.cells (refC ⟨3, p, g + 1⟩) 33)) := (Below.refl _ _).alloc (Nat.le_refl _) _
    obtain ⟨wR, hwR⟩ : ∃ wR, w2.alloc (.cells (refC ⟨3, p, g + 1⟩) 33) = wR := ⟨_, rfl⟩
    obtain ⟨qr, hqr⟩ : ∃ qr, w2.heap.size = qr := ⟨_, rfl⟩
    have hszR : wR.heap.size = qr + 1 := by rw [← hwR, ← hqr, World.size_alloc]
    rw [hwR] at bR hbR
    have bS := BoxAt.new wR (refC ⟨3, p, g⟩) 33
    have hbS : Below wR.heap.size wR (wR.alloc (.cells (refC ⟨3, p, g⟩) 33)) := (Below.refl _ _).alloc (Nat.le_refl _) _
    obtain ⟨wS, hwS⟩ : ∃ wS, wR.alloc (.cells (refC ⟨3, p, g⟩) 33) = wS := ⟨_, rfl⟩
    obtain ⟨qs, hqs⟩ : ∃ qs, wR.heap.size = qs := ⟨_, rfl⟩
    have hszS : wS.heap.size = qs + 1 := by rw [← hwS, ← hqs, World.size_alloc]
    rw [hwS] at bS hbS
    have hMX := ((hM.x0.below hbR).below hbS).sub (Y := fun j => j < w1.heap.size ∨ j = qr ∨ j = qs) (fun j hj => by
      rcases hj with h | h | h
      · exact .inl (.inl h)
      · exact .inl (.inr (by omega))
      · exact .inr (by omega))
    have bG3 := (bG2.below hbR).below hbS
    have bR3 := bR.below hbS
    have hql : q < w1.heap.size := bG1.lt
    rw [hqr] at bR3
    rw [hqs] at bS
    have HM3 := Lib.hid hMX
    have hR1 := (R1.out.below ByR.stable HB1.out)
    have hR2 := (R2.out.below ByR.stable HB1.out)
    have hR5 := (R5.out.below IntR.stable HB1.out)
    have HR1 := Lib.hid (RdL.bound ByR.stable hR1)
    have HR2 := Lib.hid (RdL.bound ByR.stable hR2)
    have HR5 := Lib.hid (RdL.bound IntR.stable hR5)
    have hK3 : KpX (fun j => j < w1.heap.size) w1 wS := KpX.of_below (hMX.bel) (fun j h => h)
    have hpu := put_x HM3.out (r := ⟨3, p, g + 1⟩) (ref3_ok hps) hg64 cache_new (hK3.rd ByR.stable HR1.out (fun j hj => hj.2)) hc1 hl1
    have eR : refC ⟨3, p, g + 1⟩ = #[.int .u8 3, .int .i64 (p : Int), .int .u64 ((g : Int) + 1)] := by unfold refC; push_cast; rfl
    have eR4 : refC ⟨4, p, g + 1⟩ = #[.int .u8 4, .int .i64 (p : Int), .int .u64 ((g : Int) + 1)] := by unfold refC; push_cast; rfl
    have eS : refC ⟨3, p, g⟩ = #[.int .u8 3, .int .i64 (p : Int), .int .u64 (g : Int)] := rfl
    rw [live_new, eR] at hpu
    have HPU := Lib.hid hpu
    have HER := Lib.hid eR
    have HER4 := Lib.hid eR4
    have HES := Lib.hid eS
    clear eR eR4 eS
    have HK3 := Lib.hid hK3
    have HQL := Lib.hid hql
    have BG3 := Lib.hid bG3
    have BR3 := Lib.hid bR3
    have BS3 := Lib.hid bS
    have hwg : IntKind.u64.wrap (g : Int) = (g : Int) := by rw [IntKind.wrap_u64]; have := HHL.out; omega
    unfold refC at hwR hwS
    push_cast at hwR hwS
    have c3 : wS.cell? ⟨qr, 0, none⟩ = some (.int .u8 3) ∧ wS.cell? ⟨qr, 1, none⟩ = some (.int .i64 (p : Int)) ∧ wS.cell? ⟨qr, 2, none⟩ = some (.int .u64 ((g : Int) + 1)) := ⟨bR3.cell 0, bR3.cell 1, bR3.cell 2⟩
    clear hM hb2 bG2 hbR hbS bR hMX bG3 bR3 bS hR1 hR2 hR5 hK3 hpu bG1 c1 hszR hszS hql
    have hxb : Byt b := by_byt HR1.out
    have hxn : Byt now := by_byt HR2.out
    have hb44 : b.length ≤ k * 44 := by rw [HR1.out.1]; exact hl1
    have hn44 : now.length ≤ k * 44 := by rw [HR2.out.1]; exact hl2
    have HXB := Lib.hid hxb
    have HXN := Lib.hid hxn
    have HB44 := Lib.hid hb44
    have HN44 := Lib.hid hn44
    clear hxb hxn hb44 hn44
    go_wp2_with fail
    refine HPU.out.mono ?_
    clear HPU c3 hwR hwS HM3 hqr hqs
    rintro e w4 ⟨rfl, hM4, hK4⟩
    have hM4 : SMidX (fun j => j < w1.heap.size ∨ j = qr ∨ j = qs) w1 w4 a cb bf k m s (putS s k (k + m) ⟨3, p, g + 1⟩ b) := hM4
    have HM4 := Lib.hid hM4
    have bG4 := hK4.box BG3.out (.inl HQL.out)
    have bR4 := hK4.box BR3.out (.inr (.inl rfl))
    have bS4 := hK4.box BS3.out (.inr (.inr rfl))
    have c4 : w4.cell? ⟨qs, 0, none⟩ = some (.int .u8 3) ∧ w4.cell? ⟨qs, 1, none⟩ = some (.int .i64 (p : Int)) ∧ w4.cell? ⟨qs, 2, none⟩ = some (.int .u64 (g : Int)) := ⟨bS4.cell 0, bS4.cell 1, bS4.cell 2⟩
    have BG4 := Lib.hid bG4
    have BR4 := Lib.hid bR4
    have BS4 := Lib.hid bS4
    have HK4 := Lib.hid (HK3.out.trans (hK4.mono fun j hj => .inl hj))
    clear hM4 bG4 bR4 bS4 hK4 BG3 BR3 BS3 HK3
    have hst := stale_1 (n := s) (k := k) (N := k + m) (r := ⟨3, p, g + 1⟩) (q := ⟨3, p, g⟩) (xs := b) (ys := now) (ref3_ok hps) (by omega) hg64 HXB.out (by have := HB44.out; omega) (by omega) (by omega) rfl (.inr (Nat.succ_ne_self g))
    have hgt := get_view (g := fun _ => false) (r := ⟨3, p, g⟩) (xs := now) HM4.out.mid (ref3_ok hps) hg63 HXN.out HN44.out hst
    clear hst
    rw [cntP_none, HES.out] at hgt
    go_wp2_with fail
    refine hgt.mono ?_
    clear hgt c4
    rintro e w5 ⟨hb5, ⟨_, rfl⟩ | ⟨hlt, _⟩⟩
    · have HM5 := Lib.hid (HM4.out.below' hb5)
      have BG5 := Lib.hid (BG4.out.below hb5)
      have BR5 := Lib.hid (BR4.out.below hb5)
      have BS5 := Lib.hid (BS4.out.below hb5)
      have HK5 := Lib.hid (HK4.out.trans (KpX.of_below hb5 fun j hj => HM4.out.lt (.inl hj)))
      clear hb5 BG4 BR4 BS4 HK4 HM4
      have hst := stale_1 (n := s) (k := k) (N := k + m) (r := ⟨3, p, g + 1⟩) (q := ⟨4, p, g + 1⟩) (xs := b) (ys := now) (ref3_ok hps) (by omega) hg64 HXB.out (by have := HB44.out; omega) (by omega) (by omega) rfl (.inl (by decide : 3 ≠ 4))
      have hgt := get_view (g := fun _ => false) (r := ⟨4, p, g + 1⟩) (xs := now) HM5.out.mid (ref4_ok hps) hg64 HXN.out HN44.out hst
      clear hst
      rw [cntP_none, HER4.out] at hgt
      go_wp2_with fail
      refine hgt.mono ?_
      clear hgt
      rintro e w6 ⟨hb6, ⟨_, rfl⟩ | ⟨hlt, _⟩⟩
      · have HM6 := Lib.hid (HM5.out.below' hb6)
        have BG6 := Lib.hid (BG5.out.below hb6)
        have BR6 := Lib.hid (BR5.out.below hb6)
        have BS6 := Lib.hid (BS5.out.below hb6)
        have HK6 := Lib.hid (HK5.out.trans (KpX.of_below hb6 fun j hj => HM5.out.lt (.inl hj)))
        have c6 : w6.cell? ⟨q, 0, none⟩ = some (.int .i64 (k : Int)) ∧ w6.cell? ⟨q, 1, none⟩ = some (.int .i64 (m : Int)) := ⟨BG6.out.cell 0, BG6.out.cell 1⟩
        clear hb6 BG5 BR5 BS5 HK5 HM5
        have hdi := distinct_any (n := k + m) (most := m) (cg := c5) (HK6.out.rd IntR.stable HR5.out (fun j hj => hj.2)) (by omega) (by omega) (by omega)
        push_cast at hdi
        go_wp2_with fail
        refine hdi.mono ?_
        clear hdi c6
        rintro e w7 ⟨A7, c7, D, rfl, hc7, hG, hr7, hb7⟩
        obtain ⟨dl, hdl⟩ : ∃ dl, D.length = dl := ⟨_, rfl⟩
        rw [hdl] at hr7 hc7 ⊢
        have hM7 := HM6.out.below hb7
        obtain ⟨XX, hXX⟩ : ∃ XX : Nat → Prop, (fun j => (j < w1.heap.size ∨ j = qr ∨ j = qs) ∨ (w6.heap.size ≤ j ∧ j < w7.heap.size)) = XX := ⟨_, rfl⟩
        have hX1 : ∀ j, (j < w1.heap.size ∨ j = qr ∨ j = qs) → XX j := fun j hj => by rw [← hXX]; exact .inl hj
        have hX2 : ∀ j, (w6.heap.size ≤ j ∧ j < w7.heap.size) → XX j := fun j hj => by rw [← hXX]; exact .inr hj
        rw [hXX] at hM7
        have HX1 := Lib.hid hX1
        have HX2 := Lib.hid hX2
        have HM7 := Lib.hid hM7
        have HR7 := Lib.hid (RdL.bound IntR.stable hr7)
        have BG7 := Lib.hid (BG6.out.below hb7)
        have BR7 := Lib.hid (BR6.out.below hb7)
        have BS7 := Lib.hid (BS6.out.below hb7)
        have HK7 := Lib.hid (HK6.out.trans (KpX.of_below hb7 fun j hj => HM6.out.lt (.inl hj)))
        have HDL := Lib.hid hdl
        have HG := Lib.hid hG
        have hdm : dl ≤ m := by rw [← hdl]; exact hG.ln
        clear hM7 hXX hX1 hX2 hr7 hb7 HM6 BG6 BR6 BS6 HK6 hdl hG
        go_wp2_with fail
        go_loopw [24] (fun vi wr => ∃ (i : Nat), i ≤ dl ∧ vi = .int .i64 i ∧ Hid (SMidX XX w1 wr a cb bf k m s ((putS s k (k + m) ⟨3, p, g + 1⟩ b).mapIdx (goneS s (D.take i)))) ∧ Hid (KpX XX w7 wr)) (fun vi _ => dl - (intOf vi).toNat)
        case atStart => exact ⟨0, Nat.zero_le _, rfl, by rw [List.take_zero, goneS_nil]; exact HM7, Lib.hid KpX.refl⟩
        case round =>
          clear HM7
          obtain ⟨i, hi, rfl, HM8, HK8⟩ := hrel
          have p0 : (0 : Int) ≤ (i : Int) := Int.natCast_nonneg _
          have p9 : (dl : Int) ≤ (m : Int) := by omega
          by_cases hlt : i < dl
          · have p1 : (i : Int) < (dl : Int) := by omega
            have hrd := HK8.out.rd IntR.stable HR7.out HX2.out
            obtain ⟨ba, oa, rfl, hSb, hba⟩ := hrd.addr hlt
            obtain ⟨x, hx, v1⟩ := int_at hrd hlt
            have hfx := fail_x HM8.out x
            rw [goneS_next hx] at hfx
            clear hrd hx
            go_wp2_with fail
            refine hfx.mono ?_
            clear hfx
            rintro e w9 ⟨rfl, hM9, hK9⟩
            have HM9 := Lib.hid hM9
            have HK9 := Lib.hid (HK8.out.trans hK9)
            clear hM9 hK9
            go_wp2_with fail
            exact ⟨⟨i + 1, by omega, by go_num, HM9, HK9⟩, by simp [intOf]; omega⟩
          · have p1 : ¬ (i : Int) < (dl : Int) := by omega
            obtain rfl : i = dl := by omega
            have bG8 := HK8.out.box BG7.out (HX1.out _ (.inl HQL.out))
            have bR8 := HK8.out.box BR7.out (HX1.out _ (.inr (.inl rfl)))
            have bS8 := HK8.out.box BS7.out (HX1.out _ (.inr (.inr rfl)))
            have hK8 := HK7.out.trans (HK8.out.mono fun j hj => HX1.out _ (.inl hj))
            have hM8 := HM8.out
            rw [List.take_of_length_le (by rw [HDL.out]; exact Nat.le_refl _)] at hM8
            have hpu := put_x hM8 (r := ⟨3, p, g⟩) (ref3_ok hps) hg63 putS_cache (hK8.rd ByR.stable HR2.out (fun j hj => hj.2)) hc2 hl2
            rw [live_put (ref3_ok hps) HXB.out, HES.out] at hpu
            obtain ⟨lc, hlc⟩ : ∃ lc, cntP (leftB D) (k + m) = lc := ⟨_, rfl⟩
            have hlc2 : lc + i = k + m := by
              have := left_cnt HG.out.nd HG.out.rg
              rw [hlc, HDL.out] at this
              exact this
            rw [hlc] at hpu
            have HPU := Lib.hid hpu
            have HLC := Lib.hid hlc
            have BG8 := Lib.hid bG8
            have BR8 := Lib.hid bR8
            have BS8 := Lib.hid bS8
            have HKA := Lib.hid hK8
            have c8 : wr.cell? ⟨qs, 0, none⟩ = some (.int .u8 3) ∧ wr.cell? ⟨qs, 1, none⟩ = some (.int .i64 (p : Int)) ∧ wr.cell? ⟨qs, 2, none⟩ = some (.int .u64 (g : Int)) := ⟨bS8.cell 0, bS8.cell 1, bS8.cell 2⟩
            clear bG8 bR8 bS8 hK8 hM8 hpu hlc BG7 BR7 BS7 HK7 HR7 HK8 HM8
            go_wp2_with fail
            refine HPU.out.mono ?_
            clear HPU c8
            rintro e w9 ⟨rfl, hM9, hK9⟩
            have HM9 := Lib.hid hM9
            have hs2 := stale_2 (n := s) (k := k) (N := k + m) (r := ⟨3, p, g + 1⟩) (q := ⟨3, p, g⟩) (xs := b) (ys := now) (zs := b) (D := D) (ref3_ok hps) (ref3_ok hps) (by omega) hg63 HXB.out HXN.out (by have := HN44.out; omega) (by omega) (by omega) rfl (.inr (fun e => Nat.succ_ne_self g e.symm))
            have BG9 := Lib.hid (hK9.box BG8.out (HX1.out _ (.inl HQL.out)))
            have bR9 := hK9.box BR8.out (HX1.out _ (.inr (.inl rfl)))
            have BS9 := Lib.hid (hK9.box BS8.out (HX1.out _ (.inr (.inr rfl))))
            have HK9 := Lib.hid (HKA.out.trans (hK9.mono fun j hj => HX1.out _ (.inl hj)))
            have hgt := get_view (g := fun _ => false) (r := ⟨3, p, g + 1⟩) (xs := b) HM9.out.mid (ref3_ok hps) hg64 HXB.out HB44.out hs2.1
            rw [cntP_none, HER.out] at hgt
            have HS2 := Lib.hid hs2.2
            have c9 : w9.cell? ⟨qr, 0, none⟩ = some (.int .u8 3) ∧ w9.cell? ⟨qr, 1, none⟩ = some (.int .i64 (p : Int)) ∧ w9.cell? ⟨qr, 2, none⟩ = some (.int .u64 ((g : Int) + 1)) := ⟨bR9.cell 0, bR9.cell 1, bR9.cell 2⟩
            clear hM9 hK9 bR9 BG8 BR8 BS8 HKA hs2
            go_wp2_with fail
            refine hgt.mono ?_
            clear hgt c9
            rintro e wB ⟨hb10, ⟨_, rfl⟩ | ⟨hlt, _⟩⟩
            · have hgt := get_view (g := leftB D) (r := ⟨3, p, g⟩) (xs := now) (HM9.out.below' hb10).mid (ref3_ok hps) hg63 HXN.out HN44.out HS2.out
              rw [HLC.out, HES.out, HR2.out.1] at hgt
              have HM10 := Lib.hid (HM9.out.below' hb10)
              have BG10 := Lib.hid (BG9.out.below hb10)
              have bS10 := BS9.out.below hb10
              have HK10 := Lib.hid (HK9.out.trans (KpX.of_below hb10 fun j hj => HM9.out.lt (HX1.out _ (.inl hj))))
              have c10 : wB.cell? ⟨qs, 0, none⟩ = some (.int .u8 3) ∧ wB.cell? ⟨qs, 1, none⟩ = some (.int .i64 (p : Int)) ∧ wB.cell? ⟨qs, 2, none⟩ = some (.int .u64 (g : Int)) := ⟨bS10.cell 0, bS10.cell 1, bS10.cell 2⟩
              clear bS10 hb10 BG9 BS9 HK9 HM9 HS2
              go_wp2_with fail
              refine hgt.mono ?_
              clear hgt c10
              rintro e wC ⟨hb11, ⟨hlt, _⟩ | ⟨_, AX, cX, rfl, hcX, hrX⟩⟩
              · exact absurd hlt (by omega)
              · have BG11 := Lib.hid (BG10.out.below hb11)
                have HB11 := Lib.hid (HB1.out.trans ((HM10.out.below' hb11).bel.mono HB1.out.size))
                have HK11 := Lib.hid (HK10.out.trans (KpX.of_below hb11 fun j hj => HM10.out.lt (HX1.out _ (.inl hj))))
                have t1 := text_run (c := cX) hrX
                have t2 := text_run (c := c2) (HK11.out.rd ByR.stable HR2.out (fun j hj => hj.2))
                have c11 : wC.cell? ⟨q, 0, none⟩ = some (.int .i64 (k : Int)) ∧ wC.cell? ⟨q, 1, none⟩ = some (.int .i64 (m : Int)) := ⟨BG11.out.cell 0, BG11.out.cell 1⟩
                have hlc3 : (lc : Int) = (k : Int) + (m : Int) - (i : Int) := by omega
                have f1 : ((lc : Int) == (k : Int) + (m : Int) - (i : Int)) = true := by simp [hlc3]
                clear hlc3 hlc2 hrX hb11
                go_wp2_with fail
                refine holds_any.mono ?_
                rintro e wz ⟨rfl, hbz⟩
                go_wp2_with fail
                go_ret
                exact ⟨rfl, HB11.out.trans (hbz.mono HB11.out.size)⟩
            · exact absurd hlt (by omega)
      · exact absurd hlt (by omega)
    · exact absurd hlt (by omega)
end Go.Proofs.YteialipoedmmmaaGreat

set_option linter.unusedSimpArgs false
set_option linter.unusedVariables false
namespace Go.Proofs.YteialipoedmmmaaGreat
open Go.RowKit Go.Cib
attribute [local go_sem] cell_set Later.cell Later.frozen Grw.cell Grw.frozen
open Go.ChangeShapes Go.WideShapes Go.ChangeAt Go.Deep
theorem opens_by : Opens Tryz.prog 5 ByR 1 :=
  ⟨by kernel_rfl, by omega, fun H enc w base spare held fuel cs x _ hx => by
    obtain ⟨n, rfl, _, hw⟩ := DataW.trod_int Tryz.underlying5 hx
    have h2 : 0 ≤ n ∧ n ≤ 255 := by
      simp [Lit.wf, IntKind.min, IntKind.max, IntKind.signed, IntKind.bits] at hw
      omega
    exact ⟨n.toNat, by omega, by rw [show ((n.toNat : Nat) : Int) = n by omega]⟩⟩
theorem u64_bounds {z : Int} (h : (Lit.int .u64 z).wf = true) : 0 ≤ z ∧ z < 18446744073709551616 := by
  simp [Lit.wf, IntKind.min, IntKind.max, IntKind.bits, IntKind.signed] at h
  omega
set_option maxRecDepth 100000 in
theorem open_geo {H : Type} {enc : TypeId × Value → H} {w : World} {base b0 : Nat} {spare : Nat → Bool} {held : Bool} {r : Reach} {v : Value} {d : DataW H} {ps : List MemPlace}
    (hval : Value.okWide Tryz.prog w r b0 23 v) (h : DataW.Trod enc Tryz.prog w base spare held 23 v d ps) : ∃ k m s : Int, v = .agg #[.int .i64 k, .int .i64 m, .int .i64 s] := by
  obtain ⟨cs, rfl, hsz⟩ := okWide_struct Tryz.underlying23 hval
  obtain ⟨fuel, hx⟩ := h
  have h5 : cs.size = 3 := hsz.trans (by kernel_rfl)
  have hl : (Value.agg cs).cells.toList.length = 3 := by simpa [Value.cells] using h5
  obtain ⟨xs, n, _, _, hlen, hxl, hf⟩ := DataW.trod_struct Tryz.underlying23 hx
  have e0 : (Value.agg cs).cells.toList = cs.toList := rfl
  rw [e0] at hf hl
  match hc : cs.toList, hl with
  | [c0, c1, c2], _ =>
    rw [hc] at hf
    have f0 := hf 0 _ rfl
    have f1 := hf 1 _ rfl
    have f2 := hf 2 _ rfl
    have k1 : Tryz.prog.cellsOf 3 = 1 := by kernel_rfl
    have hx3 : xs.length = 3 := hxl
    simp only [List.getElem_toArray, List.getElem_cons_zero, List.getElem_cons_succ, k1, List.drop_zero, List.drop_succ_cons, List.take_succ_cons, List.take_zero] at f0 f1 f2
    rw [List.getElem?_eq_getElem (by omega)] at f0 f1 f2
    obtain ⟨s, e1, _, _⟩ := DataW.trod_int Tryz.underlying3 f0
    obtain ⟨t, e2, _, _⟩ := DataW.trod_int Tryz.underlying3 f1
    obtain ⟨u, e3, _, _⟩ := DataW.trod_int Tryz.underlying3 f2
    simp only [List.cons.injEq, and_true] at e1 e2 e3
    subst e1; subst e2; subst e3
    refine ⟨s, t, u, ?_⟩
    rw [show cs = cs.toList.toArray by simp, hc]
end Go.Proofs.YteialipoedmmmaaGreat
