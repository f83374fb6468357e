/-
  Drives lose a place: some rot there, the others die.
  The page's example: a stripe with a dead drive.
  A stripe is gone when another one was put at its place: the walk.
  A stripe that was put and flushed; drives that lost a place: plain.
  Mend, by which drives have their shard.
  Behind Mend all shards are whole: the walk.
  A geometry among the arguments; bounds of whole numbers.
-/
import Derived.Test.YteialipoedmmmaaGreatSm12
import Derived.Test.YteialipoedmmmaaGreatSm3
import Derived.Test.YteialipoedmmmaaGreatSm2
set_option linter.unusedSimpArgs false
set_option linter.unusedVariables false
namespace Go.Proofs.YteialipoedmmmaaGreat
open Go.RowKit Go.Cib
attribute [local go_sem] cell_set Later.cell Later.frozen Grw.cell Grw.frozen
theorem run_max_i (ts : Array TypeId) (t : TypeId) (x y : Int) (w : World) : (Builtin.max_ ts t #[.int .i64 x, .int .i64 y]).run Tryz.prog w = .ok (.int .i64 (max x y)) w := by
  rw [run_max_int2, show (if x < y then y else x) = max x y by omega]
theorem run_max_u (ts : Array TypeId) (t : TypeId) (x y : Int) (w : World) : (Builtin.max_ ts t #[.int .u32 x, .int .u32 y]).run Tryz.prog w = .ok (.int .u32 (max x y)) w := by
  rw [run_max_int2, show (if x < y then y else x) = max x y by omega]
attribute [local go_sem ↓] run_min_b run_max_i run_max_u
/-- What became of a drive. -/
def HurtD (n z : Nat) (st st' : DSt) : Prop := st' = DSt.gone n ∨ ∃ off mask : Nat, off ≤ 60 ∧ mask ≠ 0 ∧ mask < 4294967296 ∧ st.dead = false ∧ st' = st.rot z off (mask : Int)
structure HurtS (n z : Nat) (sts : List DSt) (D : List Int) (sts' : List DSt) : Prop where
  len : sts'.length = sts.length
  all : ∀ (d : Nat) st st', sts[d]? = some st → sts'[d]? = some st' → ((d : Int) ∉ D ∧ st' = st) ∨ ((d : Int) ∈ D ∧ HurtD n z st st')
theorem HurtS.none (n z : Nat) (sts : List DSt) : HurtS n z sts [] sts := ⟨rfl, fun d st st' h h' => .inl ⟨by simp, (Option.some.inj (h.symm.trans h')).symm⟩⟩
theorem HurtS.at {n z : Nat} {sts sts' : List DSt} {D : List Int} (h : HurtS n z sts D sts') {x : Int} (hx : 0 ≤ x ∧ x < (sts.length : Int)) (hn : x ∉ D) : ∃ st, sts[x.toNat]? = some st ∧ sts'[x.toNat]? = some st := by
  have h1 : x.toNat < sts.length := by omega
  refine ⟨sts[x.toNat], List.getElem?_eq_getElem h1, ?_⟩
  have h2 : x.toNat < sts'.length := by rw [h.len]; exact h1
  rw [List.getElem?_eq_getElem h2]
  rcases h.all x.toNat _ _ (List.getElem?_eq_getElem h1) (List.getElem?_eq_getElem h2) with ⟨_, e⟩ | ⟨hd, _⟩
  · rw [e]
  · rw [show ((x.toNat : Nat) : Int) = x by omega] at hd
    exact absurd hd hn
theorem HurtS.next {n z : Nat} {sts sts' : List DSt} {D : List Int} (h : HurtS n z sts D sts') {x : Int} (hx : 0 ≤ x ∧ x < (sts.length : Int)) (hn : x ∉ D) {st st' : DSt} (hst : sts[x.toNat]? = some st) (hd : HurtD n z st st') : HurtS n z sts (D ++ [x]) (sts'.set x.toNat st') := by
  refine ⟨by rw [List.length_set, h.len], fun d s s' h1 h2 => ?_⟩
  by_cases e : x.toNat = d
  · subst e
    rw [List.getElem?_set_self (by rw [h.len]; omega)] at h2
    cases h2
    have : s = st := Option.some.inj (h1.symm.trans hst)
    subst this
    exact .inr ⟨by rw [show ((x.toNat : Nat) : Int) = x by omega]; simp, hd⟩
  · rw [List.getElem?_set_ne e] at h2
    rcases h.all d s s' h1 h2 with ⟨a, b⟩ | ⟨a, b⟩
    · exact .inl ⟨by simp [a]; omega, b⟩
    · exact .inr ⟨by simp [a], b⟩
theorem rotC_zero {st : DSt} {n z : Nat} {off mask : Int} (hok : st.ok n) (hz : z < n) (h : rotC st.dead n z off mask ((st.rotten[z]?).getD false) = 0) : rotDOk st n z off mask := by
  unfold rotC at h
  by_cases h1 : readyE st.dead n z = 0
  · rw [if_neg (fun e => e h1)] at h
    by_cases h2 : ¬ ((0 ≤ off ∧ off ≤ 60) ∧ ¬ mask = 0)
    · rw [if_pos h2] at h; omega
    · rw [if_neg h2] at h
      have h2' := Classical.not_not.1 h2
      have hlt : z < st.rotten.length := by rw [hok.rl]; exact hz
      rw [List.getElem?_eq_getElem hlt] at h
      cases hb : st.rotten[z] with
      | true => rw [hb] at h; simp at h
      | false => exact ⟨(ready_iff st n z).1 h1, h2', by rw [Int.toNat_natCast, List.getElem?_eq_getElem hlt, hb]⟩
  · rw [if_pos h1] at h; exact absurd h h1
theorem rotC_nz {st : DSt} {n z : Nat} {off mask : Int} (h : rotC st.dead n z off mask ((st.rotten[z]?).getD false) ≠ 0) : ¬ rotDOk st n z off mask := fun hok => h (by
  have h3 := hok.2.2
  rw [Int.toNat_natCast] at h3
  exact rotC_ok ((ready_iff st n z).2 hok.1) hok.2.1 (by rw [h3]; rfl))
set_option maxRecDepth 100000 in
set_option maxHeartbeats 8000000 in
theorem hurt_x {X S : Nat → Prop} {w0 w : World} {a cb bf k m n z g c : Nat} {sts : List DSt} {A : Option Addr} {D : List Int} {off mask : Int} (h : SMidX X w0 w a cb bf k m n sts) (R : RdL IntR 1 S w A g D) (hS : ∀ j, S j → X j) (hnd : D.Nodup) (hrg : ∀ x ∈ D, 0 ≤ x ∧ x < ((k + m : Nat) : Int)) (hz : z < n) (hm : Hid (0 ≤ mask ∧ mask < 4294967296)) :
    Calls Tryz.prog 16 #[.pointer (some ⟨a, 0, none⟩), .slice A g c, .int .i64 (z : Int), .int .i64 off, .int .u32 mask] w fun e w' => ∃ sts', e = .returned (.tuple #[]) ∧ SMidX X w0 w' a cb bf k m n sts' ∧ KpX X w w' ∧ HurtS n z sts D sts' := by
  have H := Lib.hid h
  have HR := Lib.hid R
  have hgl := R.1
  have hg2 : g ≤ 1000 := by
    have h1 := left_cnt hnd hrg
    have h2 := h.pos
    omega
  have q2 : (g : Int) ≤ 1000 := by omega
  have hlen := h.len
  have HL := Lib.hid hlen
  have HGL := Lib.hid hgl
  have HRG := Lib.hid hrg
  have HND := Lib.hid hnd
  have HZ := Lib.hid hz
  clear h R hlen hgl hrg hnd hz
  go_enter Tryz.func16, Tryz.ntmps16
  go_wp2_with fail
  go_loopw [10] (fun vi wr => ∃ (i : Nat) (s1 : List DSt), i ≤ g ∧ vi = .int .i64 i ∧ Hid (SMidX X w0 wr a cb bf k m n s1) ∧ Hid (KpX X w wr) ∧ Hid (HurtS n z sts (D.take i) s1)) (fun vi _ => g - (intOf vi).toNat)
  case atStart => exact ⟨0, sts, Nat.zero_le _, rfl, H, Lib.hid KpX.refl, Lib.hid (by rw [List.take_zero]; exact HurtS.none ..)⟩
  case round =>
    obtain ⟨i, s1, hi, rfl, HM, HK, HH⟩ := hrel
    have p0 : (0 : Int) ≤ (i : Int) := Int.natCast_nonneg _
    by_cases hlt : i < g
    · have p1 : (i : Int) < (g : Int) := by omega
      have hrd := HK.out.rd IntR.stable HR.out hS
      obtain ⟨ba, oa, rfl, hSb, hba⟩ := hrd.addr hlt
      obtain ⟨x, hx, v1⟩ := int_at hrd hlt
      have HX := Lib.hid hx
      clear hrd hx
      have hfx := fail_x HM.out x
      have hrx := rot_x HM.out x (z : Int) (max 0 (min off 60)) (max 1 mask)
      have HXR := Lib.hid (HRG.out x (List.mem_of_getElem? HX.out))
      have htk : D.take (i + 1) = D.take i ++ [x] := by rw [List.take_add_one, HX.out]; rfl
      have hni : x ∉ D.take i := fun hin => by
        obtain ⟨j, hj, e⟩ := List.mem_iff_getElem.1 hin
        rw [List.length_take] at hj
        rw [List.getElem_take] at e
        have h1 := List.getElem?_eq_some_iff.1 HX.out
        obtain ⟨h2, h3⟩ := h1
        exact (List.pairwise_iff_getElem.1 HND.out) j i (by omega) h2 (by omega) (e.trans h3.symm)
      have HTK := Lib.hid htk
      have hat := HH.out.at (x := x) (by rw [HL.out]; exact HXR.out) hni
      have hfl : failA n s1 x = s1.set x.toNat (DSt.gone n) := by
        unfold failA
        rw [if_pos]
        rw [HH.out.len, HL.out]
        exact HXR.out
      have hnx := fun st st' (hst : sts[x.toNat]? = some st) hd => HH.out.next (x := x) (st := st) (st' := st') (by rw [HL.out]; exact HXR.out) hni hst hd
      rw [← HTK.out] at hnx
      have HNX := Lib.hid hnx
      have HAT := Lib.hid hat
      have HFL := Lib.hid hfl
      have HNI := Lib.hid hni
      have HXR2 := HXR
      have HOK := Lib.hid HM.out.mid.ok
      clear htk hni hat hfl hnx HXR HX HTK HH
      by_cases hev : (i : Int) % 2 = 0
      · have e0 : ((i : Int) % 2 == 0) = true := by simp [hev]
        clear hrx
        go_wp2_with fail
        refine hfx.mono ?_
        clear hfx
        rintro e w1 ⟨rfl, hM1, hK1⟩
        rw [HFL.out] at hM1
        have HM1 := Lib.hid hM1
        have HK1 := Lib.hid (HK.out.trans hK1)
        clear hM1 hK1
        obtain ⟨st, a1, a2⟩ := HAT.out
        have HH1 := Lib.hid (HNX.out st _ a1 (.inl rfl))
        clear HNX a1 a2 HAT
        go_wp2_with fail
        exact ⟨⟨i + 1, _, by omega, by go_num, HM1, HK1, HH1⟩, by simp [intOf]; omega⟩
      · have e0 : ((i : Int) % 2 == 0) = false := by simp [hev]
        clear hfx
        go_wp2_with fail
        refine hrx.mono ?_
        clear hrx
        rintro e w1 ⟨rfl, hM1, hK1⟩
        obtain ⟨st, a1, a2⟩ := HAT.out
        have hxr : 0 ≤ x ∧ x < (s1.length : Int) := by
          have h1 := (List.getElem?_eq_some_iff.1 a2).1
          have h2 := HXR2.out
          omega
        have hre : rotE n s1 x (z : Int) (max 0 (min off 60)) (max 1 mask) = rotC st.dead n (z : Int) (max 0 (min off 60)) (max 1 mask) ((st.rotten[z]?).getD false) := by
          unfold rotE
          rw [if_pos hxr, a2]; rfl
        have hra : rotA n s1 x (z : Int) (max 0 (min off 60)) (max 1 mask) = s1.set x.toNat (rtDA n st (z : Int) (max 0 (min off 60)) (max 1 mask)) := by
          unfold rotA
          rw [if_pos hxr, a2]
        have hok : st.ok n := HOK.out st (List.mem_of_getElem? a2)
        rw [hra] at hM1
        have hnz := HNX.out st
        have hhd : rotDOk st n (z : Int) (max 0 (min off 60)) (max 1 mask) → HurtD n z st (rtDA n st (z : Int) (max 0 (min off 60)) (max 1 mask)) := fun hk => .inr ⟨(max 0 (min off 60)).toNat, (max 1 mask).toNat, by omega, by omega, by have := hm.out; omega, hk.1.1, by
          unfold rtDA
          rw [if_pos hk, Int.toNat_natCast]
          congr 1
          have := hm.out
          omega⟩
        obtain ⟨E, hE⟩ : ∃ E, rotC st.dead n (z : Int) (max 0 (min off 60)) (max 1 mask) ((st.rotten[z]?).getD false) = E := ⟨_, rfl⟩
        rw [hre, hE]
        by_cases hE0 : E = 0
        · have hk := rotC_zero hok HZ.out (hE.trans hE0)
          have HH1 := Lib.hid (HNX.out st _ a1 (hhd hk))
          have HM1 := Lib.hid hM1
          have HK1 := Lib.hid (HK.out.trans hK1)
          have f0 : (E != 0) = false := by simp [hE0]
          clear hk hM1 hK1 hhd hnz hra hre hok hxr a1 a2 HNX HAT hE hE0 HFL
          go_wp2_with fail
          exact ⟨⟨i + 1, _, by omega, by go_num, HM1, HK1, HH1⟩, by simp [intOf]; omega⟩
        · have hk : ¬ rotDOk st n (z : Int) (max 0 (min off 60)) (max 1 mask) := rotC_nz (by rw [hE]; exact hE0)
          have hsm : s1.set x.toNat (rtDA n st (z : Int) (max 0 (min off 60)) (max 1 mask)) = s1 := by
            unfold rtDA
            rw [if_neg hk]
            obtain ⟨a3, a4⟩ := List.getElem?_eq_some_iff.1 a2
            rw [← a4]
            exact List.set_getElem_self a3
          rw [hsm] at hM1
          have hfx := fail_x hM1 x
          rw [HFL.out] at hfx
          have HH1 := Lib.hid (HNX.out st _ a1 (.inl rfl))
          have HK1 := Lib.hid (HK.out.trans hK1)
          have v2 := (hM1.bel)
          have HSB := Lib.hid hSb
          have v3 : w1.cell? ⟨ba, oa + i, none⟩ = some (.int .i64 x) := by
            rw [← v1]
            exact World.cell?_of_block (hK1.1 ba (hS _ hSb))
          have f0 : (E != 0) = true := by simp [hE0]
          clear hk hsm v2 hhd hnz hra hre hok hxr a1 a2 HNX HAT hE hE0 HFL hM1 hK1 v1
          go_wp2_with fail
          refine hfx.mono ?_
          clear hfx
          rintro e w2 ⟨rfl, hM2, hK2⟩
          have HM2 := Lib.hid hM2
          have HK2 := Lib.hid (HK1.out.trans hK2)
          clear hM2 hK2
          go_wp2_with fail
          exact ⟨⟨i + 1, _, by omega, by go_num, HM2, HK2, HH1⟩, by simp [intOf]; omega⟩
    · have p1 : ¬ (i : Int) < (g : Int) := by omega
      obtain rfl : i = g := by omega
      go_wp2_with fail
      go_end0
      exact ⟨rfl, s1, HM.out, HK.out, by have := HH.out; rwa [List.take_of_length_le (by have := HGL.out; omega)] at this⟩
end Go.Proofs.YteialipoedmmmaaGreat

set_option linter.unusedSimpArgs false
set_option linter.unusedVariables false
namespace Go.Proofs.YteialipoedmmmaaGreat
open Go.RowKit Go.Cib
attribute [local go_sem] cell_set Later.cell Later.frozen Grw.cell Grw.frozen
def rH : Ref := ⟨3, 1, 5⟩
theorem rH_ok : rH.ok 3 := ⟨by decide, by decide, by decide⟩
theorem rH_gen : Hid (rH.gen < 2 ^ 64) := Lib.hid (by decide)
def xH : List Nat := [97, 98, 99]
theorem xH_byt : Byt xH := by unfold xH; intro x hx; simp at hx; omega
def hRef : Array Value := #[.int .u8 3, .int .i64 1, .int .u64 5]
theorem hRef_eq : refC rH = hRef := rfl
def g1 (d : Nat) : Bool := decide (d ≠ 1)
def g2 (d : Nat) : Bool := decide (d ≠ 1) && decide (d ≠ 2)
theorem cnt_g1 : cntP g1 3 = 2 := by decide
theorem cnt_g2 : cntP g2 3 = 1 := by decide
theorem whl_g1 : (List.range 3).map (fun i => g1 (homeN 3 rH.place i)) = [false, true, true] := by decide
theorem home_574 : homeN 5 7 4 = 1 := by decide
theorem hole_view {l : List Int} {g : Nat → Bool} (hg : ∀ d, d < 3 → (g d = true ↔ (d : Int) ∉ l)) : ∀ d st, ((putS 3 2 3 rH xH).mapIdx (goneS 3 l))[d]? = some st → (g d = true ∧ HasS 2 3 rH xH d st) ∨ (g d = false ∧ LostS 2 rH st) := by
  intro d st h
  obtain ⟨s1, h1, rfl⟩ := mapIdx_at h
  obtain ⟨rfl, hd⟩ := putS_at h1
  by_cases hin : (d : Int) ∈ l
  · refine .inr ⟨?_, ?_⟩
    · cases hgd : g d with
      | false => rfl
      | true => exact absurd hin ((hg d hd).1 hgd)
    · unfold goneS
      rw [if_pos hin]
      exact lost_zero (gone_seen (by decide))
  · refine .inl ⟨(hg d hd).2 hin, ?_⟩
    unfold goneS
    rw [if_neg hin]
    exact has_put rH_ok xH_byt rfl
theorem marked_rd {w : World} {t : TypeId} {m : Nat × Nat} {xs : List Nat} (hx : Byt xs) (hn : 0 < xs.length) : RdL ByR 1 (fun j => w.heap.size ≤ j) (w.alloc (.cells (xs.map fun b : Nat => Value.int .u8 (b : Int)).toArray t m)) (some ⟨w.heap.size, 0, none⟩) xs.length xs := by
  refine ⟨rfl, fun _ => ⟨w.heap.size, 0, rfl, Nat.le_refl _, by rw [World.size_alloc]; omega, fun i x hi => ⟨[.int .u8 (x : Int)], rfl, ⟨hx x (List.mem_of_getElem? hi), rfl⟩, fun j v hj => ?_⟩⟩⟩
  rcases j with _ | j
  · simp at hj; subst hj
    have hb : (w.alloc (.cells (xs.map fun b : Nat => Value.int .u8 (b : Int)).toArray t m)).heap[w.heap.size]? = some (.cells (xs.map fun b : Nat => Value.int .u8 (b : Int)).toArray t m) := by
      show (w.heap.push _)[w.heap.size]? = _
      simp
    unfold World.cell?
    dsimp only
    rw [hb]
    simp [hi]
  · simp at hj
theorem RdL.bound {X : Type} {R : (Nat → Prop) → World → List Value → X → Prop} (hR : Stable R) {s : Nat} {S : Nat → Prop} {w : World} {A : Option Addr} {n : Nat} {xs : List X} (h : RdL R s S w A n xs) : RdL R s (fun j => S j ∧ j < w.heap.size) w A n xs := h.stable hR fun j hj hl => ⟨⟨hj, hl⟩, rfl⟩
theorem fail1 (n : Nat) (sts : List DSt) (d : Int) : failA n sts d = sts.mapIdx (goneS n [d]) := by
  have h := failA_gone n sts [] d
  rw [goneS_nil] at h
  exact h
theorem cache_new {n N : Nat} : ∀ st ∈ newS n N, st.cache.length < 900000 := fun st hst => by
  obtain ⟨d, hd, rfl⟩ := List.mem_iff_getElem.1 hst
  rw [(newS_at (List.getElem?_eq_getElem hd)).1]
  show ([] : List (Int × List Int)).length < 900000
  decide
theorem bools3 {w : World} {g : Nat} {b0 b1 b2 : Bool} {S : Nat → Prop} (h : RdL BoolR 1 S w (some ⟨g, 0, none⟩) 3 [b0, b1, b2]) : w.cell? ⟨g, 0, none⟩ = some (.bool b0) ∧ w.cell? ⟨g, 1, none⟩ = some (.bool b1) ∧ w.cell? ⟨g, 2, none⟩ = some (.bool b2) := by
  obtain ⟨_, c0, _, h0, e0⟩ := h.at (k := 0) (by omega)
  obtain ⟨_, c1, _, h1, e1⟩ := h.at (k := 1) (by omega)
  obtain ⟨_, c2, _, h2, e2⟩ := h.at (k := 2) (by omega)
  have f0 := e0 0 _ (by rw [h0]; rfl)
  have f1 := e1 0 _ (by rw [h1]; rfl)
  have f2 := e2 0 _ (by rw [h2]; rfl)
  exact ⟨f0, f1, f2⟩
set_option maxRecDepth 100000 in
set_option maxHeartbeats 16000000 in
theorem holds_any {w : World} : Calls Tryz.prog 8 #[] w fun e w' => e = .returned (.bool true) ∧ Below w.heap.size w w' := by
  have hmd := made_law (w0 := w) (w := w) (k := 2) (m := 1) (n := 3) (Below.refl _ _) (by omega) (by omega) (by omega) (by omega) (by omega)
  have e0 : geoC ((2 : Nat) : Int) ((1 : Nat) : Int) ((3 : Nat) : Int) = #[.int .i64 2, .int .i64 1, .int .i64 3] := rfl
  rw [e0] at hmd
  clear e0
  go_enter Tryz.func8, Tryz.ntmps8
  go_wp2_with fail
  refine hmd.mono ?_
  clear hmd
  rintro e w1 ⟨a, cb, bf, rfl, hM, hb1⟩
  have hM1 := Lib.hid (show SMid w w1 a cb bf 2 1 3 (newS 3 3) from hM)
  clear hM hb1
  have bR := BoxAt.new w1 hRef 33
  have hbR : Below w1.heap.size w1 (w1.alloc (.cells hRef 33)) := (Below.refl _ _).alloc (Nat.le_refl _) _
  have hX0 := (hM1.out.x0.below hbR)
  obtain ⟨wA, hwA⟩ : ∃ wA, w1.alloc (.cells hRef 33) = wA := ⟨_, rfl⟩
  obtain ⟨q, hq⟩ : ∃ q, w1.heap.size = q := ⟨_, rfl⟩
  have hqA : q < wA.heap.size := by rw [← hwA, ← hq, World.size_alloc]; omega
  rw [hwA] at bR hX0
  rw [hq] at bR hX0
  have cA : wA.cell? ⟨q, 0, none⟩ = some (.int .u8 3) ∧ wA.cell? ⟨q, 1, none⟩ = some (.int .i64 1) ∧ wA.cell? ⟨q, 2, none⟩ = some (.int .u64 5) := ⟨bR.cell 0, bR.cell 1, bR.cell 2⟩
  have hkc := Lib.run_convert_bytes_const (P := Tryz.prog) wA 24 5 #[.int .u8 97, .int .u8 98, .int .u8 99] 3 3 (by kernel_rfl) (by kernel_rfl)
  have hr2 : RdL ByR 1 (fun j => wA.heap.size ≤ j) (wA.alloc (.cells #[.int .u8 97, .int .u8 98, .int .u8 99] 5 (3, 4))) (some ⟨wA.heap.size, 0, none⟩) 3 xH := marked_rd (w := wA) (t := 5) (m := (3, 4)) xH_byt (by decide)
  have hb2 : Below wA.heap.size wA (wA.alloc (.cells #[.int .u8 97, .int .u8 98, .int .u8 99] 5 (3, 4))) := (Below.refl _ _).alloc (Nat.le_refl _) _
  have hkc2 : (convert 24 24 (.slice (some ⟨wA.heap.size, 0, none⟩) 3 3)).run Tryz.prog (wA.alloc (.cells #[.int .u8 97, .int .u8 98, .int .u8 99] 5)) = .ok (.slice (some ⟨wA.heap.size, 0, none⟩) 3 3) (wA.alloc (.cells #[.int .u8 97, .int .u8 98, .int .u8 99] 5 (3, 4))) := hkc
  obtain ⟨w2, hw2⟩ : ∃ w2, wA.alloc (.cells #[.int .u8 97, .int .u8 98, .int .u8 99] 5 (3, 4)) = w2 := ⟨_, rfl⟩
  rw [hw2] at hr2 hb2 hkc2
  have HM2 := Lib.hid ((hX0.below' hb2).sub (Y := fun j => j = q) fun j hj => .inr (by omega))
  have bR2 := bR.below hb2
  have hpu := put_x HM2.out rH_ok rH_gen cache_new (c := 3) hr2 (Nat.le_refl _) (by decide)
  rw [live_new, hRef_eq] at hpu
  have HPU := Lib.hid hpu
  clear hkc hr2 hb2 hM1 hbR bR hw2 hpu hX0 hqA
  unfold hRef at hwA
  have c0 : w2.cell? ⟨q, 0, none⟩ = some (.int .u8 3) ∧ w2.cell? ⟨q, 1, none⟩ = some (.int .i64 1) ∧ w2.cell? ⟨q, 2, none⟩ = some (.int .u64 5) := ⟨bR2.cell 0, bR2.cell 1, bR2.cell 2⟩
  go_wp2_with fail
  refine HPU.out.mono ?_
  clear HPU c0 cA hkc2 hwA hq HM2
  rintro e w3 ⟨rfl, hM3, hK3⟩
  have HM3 := Lib.hid (show SMidX (fun j => j = q) w w3 a cb bf 2 1 3 (putS 3 2 3 rH xH) from hM3)
  have bR3 := hK3.box bR2 rfl
  clear hM3 hK3 bR2
  have hf := fail_x HM3.out 1
  rw [fail1, if_pos (by constructor <;> decide)] at hf
  go_wp2_with fail
  refine hf.mono ?_
  clear hf HM3
  rintro e w4 ⟨rfl, hM4, hK4⟩
  have bR4 := hK4.box bR3 rfl
  have HM4 := Lib.hid hM4
  clear hM4 hK4 bR3
  have hg := get_view HM4.out.mid rH_ok rH_gen xH_byt (by decide) (hole_view (g := g1) (l := [1]) (by intro d hd; unfold g1; simp; omega))
  have hx3 : xH.length = 3 := rfl
  rw [show (2 + 1 : Nat) = 3 from rfl, cnt_g1, hRef_eq] at hg
  unfold hRef at hg
  have c4 : w4.cell? ⟨q, 0, none⟩ = some (.int .u8 3) ∧ w4.cell? ⟨q, 1, none⟩ = some (.int .i64 1) ∧ w4.cell? ⟨q, 2, none⟩ = some (.int .u64 5) := ⟨bR4.cell 0, bR4.cell 1, bR4.cell 2⟩
  go_wp2_with fail
  refine hg.mono ?_
  clear hg c4
  rintro e w5 ⟨hb5, ⟨hlt, _⟩ | ⟨_, A5, c5, rfl, hc5, hr5⟩⟩
  · omega
  have bR5 := bR4.below hb5
  have HM5 := Lib.hid (HM4.out.below hb5)
  have HR5 := Lib.hid (RdL.bound ByR.stable hr5)
  clear HM4 bR4 hb5 hr5
  have hw := whole_view HM5.out.mid rH_ok rH_gen xH_byt (by decide) (hole_view (g := g1) (l := [1]) (by intro d hd; unfold g1; simp; omega))
  rw [show (2 + 1 : Nat) = 3 from rfl, whl_g1, hRef_eq] at hw
  unfold hRef at hw
  have c5 : w5.cell? ⟨q, 0, none⟩ = some (.int .u8 3) ∧ w5.cell? ⟨q, 1, none⟩ = some (.int .i64 1) ∧ w5.cell? ⟨q, 2, none⟩ = some (.int .u64 5) := ⟨bR5.cell 0, bR5.cell 1, bR5.cell 2⟩
  go_wp2_with fail
  refine hw.mono ?_
  clear hw c5
  rintro e w6 ⟨g, rfl, hr6, hb6⟩
  have bR6 := bR5.below hb6
  have HM6 := Lib.hid (HM5.out.below hb6)
  have HR56 := Lib.hid (HR5.out.below ByR.stable hb6)
  have HR6 := Lib.hid (RdL.bound BoolR.stable hr6)
  clear HM5 HR5 bR5 hb6 hr6
  have hf := fail_x HM6.out 2
  rw [failA_gone, if_pos (by constructor <;> decide)] at hf
  go_wp2_with fail
  refine hf.mono ?_
  clear hf
  rintro e w7 ⟨rfl, hM7, hK7⟩
  have bR7 := hK7.box bR6 (.inl (.inl rfl))
  have HR57 := Lib.hid (hK7.rd ByR.stable HR56.out (fun j hj => .inl (.inr hj)))
  have HR67 := Lib.hid (hK7.rd BoolR.stable HR6.out (fun j hj => .inr hj))
  have HM7 := Lib.hid hM7
  clear hM7 hK7 bR6 HM6 HR56 HR6
  have hg := get_view HM7.out.mid rH_ok rH_gen xH_byt (by decide) (hole_view (g := g2) (l := [1] ++ [2]) (by intro d hd; unfold g2; simp; omega))
  rw [show (2 + 1 : Nat) = 3 from rfl, cnt_g2, hRef_eq] at hg
  unfold hRef at hg
  have c7 : w7.cell? ⟨q, 0, none⟩ = some (.int .u8 3) ∧ w7.cell? ⟨q, 1, none⟩ = some (.int .i64 1) ∧ w7.cell? ⟨q, 2, none⟩ = some (.int .u64 5) := ⟨bR7.cell 0, bR7.cell 1, bR7.cell 2⟩
  go_wp2_with fail
  refine hg.mono ?_
  clear hg c7
  rintro e w8 ⟨hb8, ⟨_, rfl⟩ | ⟨hlt, _⟩⟩
  · have HR58 := Lib.hid (HR57.out.below ByR.stable hb8)
    have HR68 := Lib.hid (HR67.out.below BoolR.stable hb8)
    have HC8 := Lib.hid (HM7.out.below' hb8).cod
    have hB8 := (HM7.out.below' hb8).bel
    have HB8 := Lib.hid hB8
    clear HM7 HR57 HR67 bR7 hB8 hb8
    have t1 : (convert 24 9 (.slice A5 3 c5)).run Tryz.prog w8 = .ok (.string (textB xH)) w8 := text_run (c := c5) HR58.out
    have et : textB xH = ⟨#[97, 98, 99]⟩ := by decide +kernel
    rw [et] at t1
    have c8 := bools3 HR68.out
    have hho := fun w => home_any (w := w) (n := 5) (place := 7) (i := 4) (by omega) (by omega)
    rw [home_574] at hho
    go_wp2_with fail
    refine (hho _).mono ?_
    clear hho
    rintro e w9 ⟨rfl, hb9⟩
    have hrm9 := room_any (HC8.out.below hb9)
    have HB9 := Lib.hid (HB8.out.trans (hb9.mono HB8.out.size))
    clear c8 t1 hb9
    go_wp2_with fail
    refine hrm9.mono ?_
    rintro e wB ⟨rfl, hwB⟩
    rw [hwB]
    clear hwB
    go_wp2_with fail
    go_ret
    exact ⟨rfl, HB9.out⟩
  · omega
end Go.Proofs.YteialipoedmmmaaGreat

set_option linter.unusedSimpArgs false
set_option linter.unusedVariables false
namespace Go.Proofs.YteialipoedmmmaaGreat
open Go.RowKit Go.Cib
attribute [local go_sem] cell_set Later.cell Later.frozen Grw.cell Grw.frozen
theorem small_nat {k m s : Int} (h : smallB k m s = true) : ∃ k' m' s' : Nat, k = k' ∧ m = m' ∧ s = s' ∧ 1 ≤ k' ∧ 1 ≤ m' ∧ k' + m' ≤ 10 ∧ 1 ≤ s' ∧ s' ≤ 8 := by
  have := of_decide_eq_true h
  exact ⟨k.toNat, m.toNat, s.toNat, by omega, by omega, by omega, by omega, by omega, by omega, by omega, by omega⟩
theorem ref3_ok {p g n : Nat} (h : p < n) : Ref.ok ⟨3, p, g⟩ n := ⟨(by decide : 1 ≤ 3), (by decide : 3 ≤ 4), h⟩
theorem putS_live {n k N d : Nat} {r : Ref} (hr : r.ok n) {xs : List Nat} (hx : Byt xs) {st : DSt} (h : (putS n k N r xs)[d]? = some st) : st.dead = false := by
  obtain ⟨rfl, hd⟩ := putS_at h
  rw [putQ_live hr hx rfl]; rfl
theorem putS_len (n k N : Nat) (r : Ref) (xs : List Nat) : (putS n k N r xs).length = N := by unfold putS newS; simp
theorem putS_cache {n k N : Nat} {r : Ref} {xs : List Nat} {D : List Int} : ∀ st ∈ (putS n k N r xs).mapIdx (goneS n D), st.cache.length < 900000 := fun st hst => by
  obtain ⟨d, hd, rfl⟩ := List.mem_iff_getElem.1 hst
  rcases goneS_at (List.getElem?_eq_getElem hd) with ⟨_, e⟩ | ⟨_, h2⟩
  · rw [e]; show ([] : List (Int × List Int)).length < 900000; decide
  · have h3 := (putS_at h2).1
    have h4 : ((((putS n k N r xs).mapIdx (goneS n D))[d]).cache).length ≤ 0 + 1 := by rw [h3]; exact putQ_cache
    omega
end Go.Proofs.YteialipoedmmmaaGreat

set_option linter.unusedSimpArgs false
set_option linter.unusedVariables false
namespace Go.Proofs.YteialipoedmmmaaGreat
open Go.RowKit Go.Cib
attribute [local go_sem] cell_set Later.cell Later.frozen Grw.cell Grw.frozen
theorem flush_at {n k N d : Nat} {r : Ref} (hr : r.ok n) {xs : List Nat} (hx : Byt xs) {st : DSt} (h : ((putS n k N r xs).map flushG)[d]? = some st) : HasS k N r xs d st ∧ st.cache = [] ∧ st.ok n := by
  rw [List.getElem?_map] at h
  cases h1 : (putS n k N r xs)[d]? with
  | none => rw [h1] at h; cases h
  | some s1 =>
    rw [h1] at h
    obtain rfl := Option.some.inj h
    obtain ⟨rfl, hd⟩ := putS_at h1
    have hl : (putQ n k N r xs d (DSt.new n)).dead = false := by rw [putQ_live hr hx rfl]; rfl
    have hok : (putQ n k N r xs d (DSt.new n)).ok n := by
      rw [putQ_live hr hx rfl]
      exact (DSt.ok.new n).write (wrI_len (x := putX k N r xs d) (row44 hx k _).1) ⟨by omega, by have := hr.p; omega⟩
    unfold flushG
    rw [if_pos hl]
    refine ⟨⟨hl, ?_⟩, rfl, hok.settle _⟩
    rw [hok.seen_flush hr.p, putQ_live hr hx rfl, DSt.seen_write, if_pos rfl]
theorem cnt_live {sts : List DSt} (h : ∀ st ∈ sts, st.dead = false) : cnt (aliveL sts) = sts.length := by
  induction sts with
  | nil => rfl
  | cons s l ih =>
    have h1 := h s (List.mem_cons_self ..)
    have h2 := ih fun st hst => h st (List.mem_cons_of_mem _ hst)
    unfold aliveL cnt at h2 ⊢
    simp only [List.map_cons, h1, Bool.not_false]
    rw [List.count_cons_self, List.length_cons, h2]
theorem put_alive {n k N : Nat} {r : Ref} (hr : r.ok n) {xs : List Nat} (hx : Byt xs) : cnt (aliveL (putS n k N r xs)) = N := by
  rw [cnt_live, putS_len]
  intro st hst
  obtain ⟨d, hd, rfl⟩ := List.mem_iff_getElem.1 hst
  exact putS_live hr hx (List.getElem?_eq_getElem hd)
theorem cell_rot {st : DSt} {n z : Nat} (hc : st.cache = []) (hok : st.ok n) (hz : z < n) (off : Nat) (mask : Int) : (st.rot z off mask).seen z = rotTo (st.seen z) off mask 4 := by
  rw [DSt.seen_nil (st := st.rot z off mask) hc, DSt.seen_nil hc]
  show ((st.stored.set z (rotTo ((st.stored[z]?).getD []) off mask 4))[z]?).getD [] = _
  rw [List.getElem?_set_self (by rw [hok.sl]; exact hz)]; rfl
/-- Behind drives that lost their place. -/
theorem hurt_view {n k N : Nat} {r : Ref} (hr : r.ok n) (hn : n ≤ 600) (hg : Hid (r.gen < 2 ^ 64)) {xs : List Nat} (hx : Byt xs) (hl : xs.length < 65536) (hN : 1 ≤ N) (hN2 : N ≤ 255) {F sts' : List DSt} {D : List Int}
    (hF : ∀ d st, F[d]? = some st → HasS k N r xs d st ∧ st.cache = [] ∧ st.ok n) (h : HurtS n r.place F D sts') :
    ∀ d st, sts'[d]? = some st → (leftB D d = true ∧ HasS k N r xs d st) ∨ (leftB D d = false ∧ LostS k r st) := by
  intro d st' h1
  have hd : d < F.length := by rw [← h.len]; exact (List.getElem?_eq_some_iff.1 h1).1
  obtain ⟨⟨hl1, hs1⟩, hc1, hk1⟩ := hF d _ (List.getElem?_eq_getElem hd)
  rcases h.all d _ _ (List.getElem?_eq_getElem hd) h1 with ⟨hn1, rfl⟩ | ⟨hi, hh⟩
  · exact .inl ⟨leftB_iff.2 hn1, hl1, hs1⟩
  · refine .inr ⟨leftB_no.2 hi, ?_⟩
    rcases hh with rfl | ⟨off, mask, ho, hm0, hm, _, rfl⟩
    · exact lost_gone hr
    · refine lost_rot (putX_ok (k := k) hr hn hg hx hl hN hN2 d) ho hm0 hm ?_
      rw [cell_rot hc1 hk1 hr.p, hs1]
end Go.Proofs.YteialipoedmmmaaGreat

set_option linter.unusedSimpArgs false
set_option linter.unusedVariables false
namespace Go.Proofs.YteialipoedmmmaaGreat
open Go.RowKit Go.Cib
attribute [local go_sem] cell_set Later.cell Later.frozen Grw.cell Grw.frozen
theorem wrS_congr {n size : Nat} {r : Ref} {wh wh2 : Nat → Bool} {rw rw2 : Nat → List Nat} {sts : List DSt} : ∀ i, (∀ j, j < i → wh j = wh2 j ∧ rw j = rw2 j) → wrS n r size wh rw sts i = wrS n r size wh2 rw2 sts i
  | 0, _ => rfl
  | i + 1, h => by
    have ih := wrS_congr (n := n) (size := size) (r := r) (sts := sts) i (fun j hj => h j (by omega))
    obtain ⟨h1, h2⟩ := h i (by omega)
    rw [wrS, wrS, ih, h1, h2]
def mendQ (g : Nat → Bool) (n k N : Nat) (r : Ref) (xs : List Nat) (d : Nat) (st : DSt) : DSt := if g d = true then st else putQ n k N r xs d st
theorem mend_x {X : Nat → Prop} {w0 w : World} {a cb bf k m n : Nat} {sts : List DSt} {r : Ref} {g : Nat → Bool} {xs : List Nat} (h : SMidX X w0 w a cb bf k m n sts) (hr : r.ok n) (hg : Hid (r.gen < 2 ^ 64)) (hx : Byt xs) (hl : xs.length ≤ k * 44)
    (hcl : ∀ st ∈ sts, st.cache.length < 900000) (hen : k ≤ cntP g (k + m))
    (hc : ∀ d st, sts[d]? = some st → (g d = true ∧ HasS k (k + m) r xs d st) ∨ (g d = false ∧ LostS k r st)) :
    Calls Tryz.prog 20 #[.pointer (some ⟨a, 0, none⟩), .pointer (some ⟨cb, 0, none⟩), .agg (refC r)] w fun e w' => e = .returned (.tuple #[.int .i64 (cntP (fun d => !g d && !deadL sts d) (k + m) : Nat), .int .i64 0]) ∧ SMidX X w0 w' a cb bf k m n (sts.mapIdx (mendQ g n k (k + m) r xs)) ∧ KpX X w w' := by
  have hp := h.pos
  have hlen := h.len
  obtain ⟨v1, v2⟩ := view_of (N := k + m) hr (by omega) hg hx (by omega) hl (by omega) (by omega) hlen hc
  obtain ⟨e1, e2⟩ := std_whole (P := fun i => g (homeN (k + m) r.place i)) v2
  have hcn : cntP (fun i => g (homeN (k + m) r.place i)) (k + m) = cntP g (k + m) := home_count (by omega) g
  have hcl2 : (wholeF (stR sts k r) (k + m)).1.length = cntP g (k + m) := by rw [e1, stdL_len]; exact hcn
  have e3 := e2 (by rw [hcn]; omega)
  have hD := splF_shp (width := 44) hx k
  refine h.step (Q := fun e _ => e = .returned (.tuple #[.int .i64 (cntP (fun d => !g d && !deadL sts d) (k + m) : Nat), .int .i64 0])) (by simp) fun U hA _ _ => ?_
  refine (smend_any hA h.cod hlen hr (by omega) hg hcl (rdOk_of v1)).mono ?_
  rintro e w' (⟨hlt, _⟩ | ⟨_, he, hu⟩)
  · omega
  have hcg : wrS n r (wholeF (stR sts k r) (k + m)).2 (mendW (stR sts k r) (k + m)) (mendR (stR sts k r) k (k + m)) sts (k + m) = wrS n r xs.length (fun i => !g (homeN (k + m) r.place i)) (codeRow k 44 (splF 44 xs k k)) sts (k + m) := by
    rw [e3]
    refine wrS_congr (k + m) fun j hj => ⟨?_, ?_⟩
    · unfold mendW
      rw [e1, stdL_look]
      cases hgj : g (homeN (k + m) r.place j) with
      | true => rw [if_pos ⟨hj, rfl⟩]; rfl
      | false => rw [if_neg (by simp)]; rfl
    · unfold mendR
      rw [e1, stdL_rows, out_std (m := m) hD (by omega) hp.1 hp.2.2.1 (by unfold cntP at hen hcn; omega) (Nat.le_refl _), allR_ra hj]
  rw [hcg] at he hu
  have hN : 1 ≤ sts.length := by omega
  rw [← hlen, wrS_taken hN] at he
  rw [← hlen, wrS_map hN] at hu
  rw [← hlen] at *
  constructor
  · rw [he]
    have h1 := home_count (n := sts.length) (p := r.place) hN (fun d => !g d && !deadL sts d)
    unfold cntP
    rw [← h1]
  · have e4 : sts.mapIdx (wrG n r xs.length (fun i => !g (homeN sts.length r.place i)) (codeRow k 44 (splF 44 xs k k)) sts.length) = sts.mapIdx (mendQ g n k sts.length r xs) := by
      apply List.ext_getElem?
      intro d
      rw [List.getElem?_mapIdx, List.getElem?_mapIdx]
      cases hd : sts[d]? with
      | none => rfl
      | some st =>
        have hdl := (List.getElem?_eq_some_iff.1 hd).1
        show some _ = some _
        congr 1
        unfold wrG mendQ putQ wrG
        dsimp only
        simp only [home_ix hN hdl]
        cases hgd : g d with
        | true => rfl
        | false => rfl
    rw [e4] at hu
    exact hu
/-! ### Drives that are flushed, replaced, mended -/
theorem flush_has {n k N : Nat} {r : Ref} (hr : r.ok n) {xs : List Nat} {sts : List DSt} (hok : ∀ st ∈ sts, st.ok n) (h : ∀ d st, sts[d]? = some st → HasS k N r xs d st) : ∀ d st, (sts.map flushG)[d]? = some st → HasS k N r xs d st ∧ st.cache = [] ∧ st.ok n := by
  intro d st hd
  rw [List.getElem?_map] at hd
  cases h1 : sts[d]? with
  | none => rw [h1] at hd; cases hd
  | some s1 =>
    rw [h1] at hd
    obtain rfl := Option.some.inj hd
    obtain ⟨hl, hs⟩ := h d s1 h1
    have ho := hok s1 (List.mem_of_getElem? h1)
    unfold flushG
    rw [if_pos hl]
    exact ⟨⟨hl, by rw [ho.seen_flush hr.p, hs]⟩, rfl, ho.settle _⟩
def repQ (n i : Nat) (j : Nat) (st : DSt) : DSt := if j < i ∧ st.dead = true then DSt.new n else st
theorem rep_zero (n : Nat) (sts : List DSt) : sts.mapIdx (repQ n 0) = sts := by
  apply List.ext_getElem?
  intro d
  rw [List.getElem?_mapIdx]
  cases sts[d]? with
  | none => rfl
  | some st => show some _ = _; unfold repQ; rw [if_neg (by omega)]
theorem rep_at {n i : Nat} {sts : List DSt} {st : DSt} (h : sts[i]? = some st) : (sts.mapIdx (repQ n i))[i]? = some st := by
  rw [List.getElem?_mapIdx, h]
  show some _ = _
  unfold repQ
  rw [if_neg (by omega)]
theorem rep_live {n i : Nat} {sts : List DSt} {st : DSt} (h : sts[i]? = some st) (hd : st.dead = false) : sts.mapIdx (repQ n i) = sts.mapIdx (repQ n (i + 1)) := by
  apply List.ext_getElem?
  intro d
  rw [List.getElem?_mapIdx, List.getElem?_mapIdx]
  cases h1 : sts[d]? with
  | none => rfl
  | some s1 =>
    show some _ = some _
    congr 1
    unfold repQ
    by_cases e : d = i
    · subst e
      obtain rfl : st = s1 := Option.some.inj (h.symm.trans h1)
      rw [if_neg (by omega), if_neg (by rw [hd]; simp)]
    · by_cases h2 : d < i ∧ s1.dead = true
      · rw [if_pos h2, if_pos ⟨by omega, h2.2⟩]
      · rw [if_neg h2, if_neg (fun h3 => h2 ⟨by omega, h3.2⟩)]
theorem rep_dead {n i : Nat} {sts : List DSt} {st : DSt} (h : sts[i]? = some st) (hd : st.dead = true) : replA n (sts.mapIdx (repQ n i)) (i : Int) = sts.mapIdx (repQ n (i + 1)) := by
  have hi := (List.getElem?_eq_some_iff.1 h).1
  unfold replA
  rw [if_pos (by rw [List.length_mapIdx]; omega), Int.toNat_natCast]
  apply List.ext_getElem?
  intro d
  by_cases e : i = d
  · subst e
    rw [List.getElem?_set_self (by rw [List.length_mapIdx]; exact hi), List.getElem?_mapIdx, h]
    show _ = some _
    unfold repQ
    rw [if_pos ⟨by omega, hd⟩]
  · rw [List.getElem?_set_ne e, List.getElem?_mapIdx, List.getElem?_mapIdx]
    cases h1 : sts[d]? with
    | none => rfl
    | some s1 =>
      show some _ = some _
      congr 1
      unfold repQ
      by_cases h2 : d < i ∧ s1.dead = true
      · rw [if_pos h2, if_pos ⟨by omega, h2.2⟩]
      · rw [if_neg h2, if_neg (fun h3 => h2 ⟨by omega, h3.2⟩)]
theorem rep_view {n k N : Nat} {r : Ref} (hr : r.ok n) {xs : List Nat} {g : Nat → Bool} {sts : List DSt} (h : ∀ d st, sts[d]? = some st → (g d = true ∧ HasS k N r xs d st) ∨ (g d = false ∧ LostS k r st)) {L : Nat} (hL : sts.length = L) :
    ∀ d st, (sts.mapIdx (repQ n L))[d]? = some st → st.dead = false ∧ ((g d = true ∧ HasS k N r xs d st) ∨ (g d = false ∧ LostS k r st)) := by
  intro d st hd
  obtain ⟨s1, h1, rfl⟩ := mapIdx_at hd
  have hdl := (List.getElem?_eq_some_iff.1 h1).1
  unfold repQ
  cases hdd : s1.dead with
  | true =>
    rw [if_pos ⟨by omega, rfl⟩]
    refine ⟨rfl, ?_⟩
    rcases h d s1 h1 with ⟨_, b, _⟩ | ⟨a, b⟩
    · rw [hdd] at b; cases b
    · exact .inr ⟨a, lost_zero (DSt.seen_new hr.p)⟩
  | false =>
    rw [if_neg (by simp)]
    exact ⟨hdd, h d s1 h1⟩
theorem mend_all {n k N : Nat} {r : Ref} (hr : r.ok n) {xs : List Nat} (hx : Byt xs) {g : Nat → Bool} {sts : List DSt} (h : ∀ d st, sts[d]? = some st → st.dead = false ∧ ((g d = true ∧ HasS k N r xs d st) ∨ (g d = false ∧ LostS k r st))) :
    ∀ d st, (sts.mapIdx (mendQ g n k N r xs))[d]? = some st → HasS k N r xs d st := by
  intro d st hd
  obtain ⟨s1, h1, rfl⟩ := mapIdx_at hd
  obtain ⟨hl, h2⟩ := h d s1 h1
  unfold mendQ
  rcases h2 with ⟨a, b⟩ | ⟨a, b⟩
  · rw [if_pos a]; exact b
  · rw [if_neg (by rw [a]; decide)]; exact has_put hr hx hl
theorem mend_none {n k N : Nat} {r : Ref} {xs : List Nat} (sts : List DSt) : sts.mapIdx (mendQ (fun _ => true) n k N r xs) = sts := by
  apply List.ext_getElem?
  intro d
  rw [List.getElem?_mapIdx]
  cases sts[d]? with
  | none => rfl
  | some st => rfl
theorem rep_cache {n i : Nat} {sts : List DSt} {c : Nat} (hc : 0 < c) (h : ∀ st ∈ sts, st.cache.length < c) : ∀ st ∈ sts.mapIdx (repQ n i), st.cache.length < c := fun st hst => by
  obtain ⟨d, hd, rfl⟩ := List.mem_iff_getElem.1 hst
  obtain ⟨s1, h1, e⟩ := mapIdx_at (List.getElem?_eq_getElem hd)
  rw [e]
  unfold repQ
  split
  · exact hc
  · exact h s1 (List.mem_of_getElem? h1)
theorem mend_cache {g : Nat → Bool} {n k N : Nat} {r : Ref} {xs : List Nat} {sts : List DSt} {c : Nat} (h : ∀ st ∈ sts, st.cache.length < c) : ∀ st ∈ sts.mapIdx (mendQ g n k N r xs), st.cache.length < c + 1 := fun st hst => by
  obtain ⟨d, hd, rfl⟩ := List.mem_iff_getElem.1 hst
  obtain ⟨s1, h1, e⟩ := mapIdx_at (List.getElem?_eq_getElem hd)
  rw [e]
  have h2 := h s1 (List.mem_of_getElem? h1)
  unfold mendQ
  split
  · omega
  · have := putQ_cache (n := n) (k := k) (N := N) (d := d) (r := r) (xs := xs) (st := s1); omega
end Go.Proofs.YteialipoedmmmaaGreat

set_option linter.unusedSimpArgs false
set_option linter.unusedVariables false
namespace Go.Proofs.YteialipoedmmmaaGreat
open Go.RowKit Go.Cib
attribute [local go_sem] cell_set Later.cell Later.frozen Grw.cell Grw.frozen
theorem hurt_cache2 {n z : Nat} {F sts : List DSt} {D : List Int} (hF : ∀ (d : Nat) st, F[d]? = some st → st.cache = []) (h : HurtS n z F D sts) : ∀ st ∈ sts, st.cache.length < 1 := fun st hst => by
  obtain ⟨d, hd, rfl⟩ := List.mem_iff_getElem.1 hst
  have hdF : d < F.length := by rw [← h.len]; exact hd
  have hc := hF d _ (List.getElem?_eq_getElem hdF)
  rcases h.all d _ _ (List.getElem?_eq_getElem hdF) (List.getElem?_eq_getElem hd) with ⟨_, e⟩ | ⟨_, e | ⟨_, _, _, _, _, _, e⟩⟩
  · rw [e, hc]; decide
  · rw [e]; show ([] : List (Int × List Int)).length < 1; decide
  · rw [e]; show F[d].cache.length < 1; rw [hc]; decide
set_option maxRecDepth 100000 in
set_option maxHeartbeats 64000000 in
theorem mends_any {w : World} {k m s place off mask : Int} {A1 A4 A5 : Option Addr} {n1 c1 n4 c4 n5 c5 : Nat} {b : List Nat} {gone again : List Int} (R1 : Hid (RdL ByR 1 (fun _ => True) w A1 n1 b)) (hc1 : n1 ≤ c1) (R4 : Hid (RdL IntR 1 (fun _ => True) w A4 n4 gone)) (R5 : Hid (RdL IntR 1 (fun _ => True) w A5 n5 again)) (hmask : Hid (0 ≤ mask ∧ mask < 4294967296)) :
    Calls Tryz.prog 6 #[.agg (geoC k m s), .slice A1 n1 c1, .int .i64 place, .slice A4 n4 c4, .slice A5 n5 c5, .int .i64 off, .int .u32 mask] w fun e w' => e = .returned (.bool true) ∧ Below w.heap.size w w' := by
  have hsm := fun w => small_any (w := w) k m s
  have bG := BoxAt.new w (geoC k m s) 23
  have hb0 : Below w.heap.size w (w.alloc (.cells (geoC k m s) 23)) := (Below.refl _ _).alloc (Nat.le_refl _) _
  obtain ⟨q, hq⟩ : ∃ q, w.heap.size = q := ⟨_, rfl⟩
  go_enter Tryz.func6, Tryz.ntmps6
  unfold geoC at hsm bG hb0 ⊢
  go_wp2_with fail
  obtain ⟨wA, hwA⟩ : ∃ wA, w.alloc (.cells #[.int .i64 k, .int .i64 m, .int .i64 s] 23) = wA := ⟨_, rfl⟩
  rw [hwA] at bG hb0 ⊢
  have HQ := Lib.hid hq
  have HB0 := Lib.hid hb0
  rw [hq] at bG
  clear hwA hq hb0
  cases hs : smallB k m s with
  | false =>
    rw [hs] at hsm
    refine (hsm _).mono ?_
    clear hsm
    rintro e w1 ⟨rfl, hb1⟩
    have HB1 := Lib.hid (HB0.out.trans (hb1.mono HB0.out.size))
    go_wp2_with fail
    refine holds_any.mono ?_
    rintro e wz ⟨rfl, hbz⟩
    go_wp2_with fail
    go_ret
    exact ⟨rfl, HB1.out.trans (hbz.mono HB1.out.size)⟩
  | true =>
    rw [hs] at hsm
    refine (hsm _).mono ?_
    clear hsm
    rintro e w1 ⟨rfl, hb1⟩
    obtain ⟨k, m, s, rfl, rfl, rfl, k1, m1, km, s1, s8⟩ := small_nat hs
    clear hs
    have HB1 := Lib.hid (HB0.out.trans (hb1.mono HB0.out.size))
    have bG1 := bG.below hb1
    have c1 : w1.cell? ⟨q, 0, none⟩ = some (.int .i64 (k : Int)) ∧ w1.cell? ⟨q, 1, none⟩ = some (.int .i64 (m : Int)) ∧ w1.cell? ⟨q, 2, none⟩ = some (.int .i64 (s : Int)) := ⟨bG1.cell 0, bG1.cell 1, bG1.cell 2⟩
    clear hb1 bG HB0
    have q0 : (0 : Int) ≤ (k : Int) := Int.natCast_nonneg _
    have q1 : (0 : Int) ≤ (m : Int) := Int.natCast_nonneg _
    have q2 : (k : Int) + (m : Int) ≤ 10 := by omega
    by_cases g1 : place < 0
    · go_wp2_with fail
      refine holds_any.mono ?_
      rintro e wz ⟨rfl, hbz⟩
      go_wp2_with fail
      go_ret
      exact ⟨rfl, HB1.out.trans (hbz.mono HB1.out.size)⟩
    by_cases g2 : place ≥ (s : Int)
    · go_wp2_with fail
      refine holds_any.mono ?_
      rintro e wz ⟨rfl, hbz⟩
      go_wp2_with fail
      go_ret
      exact ⟨rfl, HB1.out.trans (hbz.mono HB1.out.size)⟩
    by_cases g3 : (n1 : Int) > 44 * (k : Int)
    · go_wp2_with fail
      refine holds_any.mono ?_
      rintro e wz ⟨rfl, hbz⟩
      go_wp2_with fail
      go_ret
      exact ⟨rfl, HB1.out.trans (hbz.mono HB1.out.size)⟩
    by_cases g6 : (n4 : Int) > 30
    · go_wp2_with fail
      refine holds_any.mono ?_
      rintro e wz ⟨rfl, hbz⟩
      go_wp2_with fail
      go_ret
      exact ⟨rfl, HB1.out.trans (hbz.mono HB1.out.size)⟩
    by_cases g7 : (n5 : Int) > 30
    · go_wp2_with fail
      refine holds_any.mono ?_
      rintro e wz ⟨rfl, hbz⟩
      go_wp2_with fail
      go_ret
      exact ⟨rfl, HB1.out.trans (hbz.mono HB1.out.size)⟩
    obtain ⟨p, rfl⟩ : ∃ p : Nat, place = (p : Int) := ⟨place.toNat, by omega⟩
    have hg64 : Hid (77 < 2 ^ 64) := Lib.hid (by decide)
    have hps : p < s := by omega
    have hl1 : n1 ≤ k * 44 := by omega
    have hd30 : n4 ≤ 30 := by omega
    have hd31 : n5 ≤ 30 := by omega
    have hmd := made_law (w0 := w1) (w := w1) (k := k) (m := m) (n := s) (Below.refl _ _) k1 m1 (by omega) s1 (by omega)
    unfold geoC at hmd
    go_wp2_with fail
    refine hmd.mono ?_
    clear hmd
    rintro e w2 ⟨a, cb, bf, rfl, hM, hb2⟩
    have hM : SMid w1 w2 a cb bf k m s (newS s (k + m)) := hM
    have bG2 := bG1.below hb2
    have c2q : w2.cell? ⟨q, 0, none⟩ = some (.int .i64 (k : Int)) ∧ w2.cell? ⟨q, 1, none⟩ = some (.int .i64 (m : Int)) := ⟨bG2.cell 0, bG2.cell 1⟩
    have bR := BoxAt.new w2 (refC ⟨3, p, 77⟩) 33
    have hbR : Below w2.heap.size w2 (w2.alloc (.cells (refC ⟨3, p, 77⟩) 33)) := (Below.refl _ _).alloc (Nat.le_refl _) _
    obtain ⟨wR, hwR⟩ : ∃ wR, w2.alloc (.cells (refC ⟨3, p, 77⟩) 33) = wR := ⟨_, rfl⟩
    obtain ⟨qr, hqr⟩ : ∃ qr, w2.heap.size = qr := ⟨_, rfl⟩
    have hszR : wR.heap.size = qr + 1 := by rw [← hwR, ← hqr, World.size_alloc]
    rw [hwR] at bR hbR
    have hMX := (hM.x0.below hbR).sub (Y := fun j => j < w1.heap.size ∨ j = qr) (fun j hj => by
      rcases hj with h | h
      · exact .inl h
      · exact .inr (by omega))
    have bG3 := bG2.below hbR
    have hql : q < w1.heap.size := bG1.lt
    rw [hqr] at bR
    have HM3 := Lib.hid hMX
    have HR1 := Lib.hid (RdL.bound ByR.stable (R1.out.below ByR.stable HB1.out))
    have HR4 := Lib.hid (RdL.bound IntR.stable (R4.out.below IntR.stable HB1.out))
    have HR5 := Lib.hid (RdL.bound IntR.stable (R5.out.below IntR.stable HB1.out))
    have hK3 : KpX (fun j => j < w1.heap.size) w1 wR := KpX.of_below (hMX.bel) (fun j h => h)
    have hpu := put_x HM3.out (r := ⟨3, p, 77⟩) (ref3_ok hps) hg64 cache_new (hK3.rd ByR.stable HR1.out (fun j hj => hj.2)) hc1 hl1
    have eR : refC ⟨3, p, 77⟩ = #[.int .u8 3, .int .i64 (p : Int), .int .u64 77] := rfl
    rw [live_new, eR] at hpu
    have HPU := Lib.hid hpu
    have HER := Lib.hid eR
    clear eR
    have HK3 := Lib.hid hK3
    have HQL := Lib.hid hql
    have BG3 := Lib.hid bG3
    have BR3 := Lib.hid bR
    unfold refC at hwR
    push_cast at hwR
    have c3 : wR.cell? ⟨qr, 0, none⟩ = some (.int .u8 3) ∧ wR.cell? ⟨qr, 1, none⟩ = some (.int .i64 (p : Int)) ∧ wR.cell? ⟨qr, 2, none⟩ = some (.int .u64 77) := ⟨bR.cell 0, bR.cell 1, bR.cell 2⟩
    have HXB := Lib.hid (show Byt b from by_byt HR1.out)
    have HB44 := Lib.hid (show b.length ≤ k * 44 by rw [HR1.out.1]; exact hl1)
    clear hM hb2 bG2 hbR hMX bG3 hK3 hpu bG1 c1 hszR hql bR
    go_wp2_with fail
    refine HPU.out.mono ?_
    clear HPU c3 c2q hwR HM3 hqr
    rintro e w4 ⟨rfl, hM4, hK4⟩
    have hM4 : SMidX (fun j => j < w1.heap.size ∨ j = qr) w1 w4 a cb bf k m s (putS s k (k + m) ⟨3, p, 77⟩ b) := hM4
    have HM4 := Lib.hid hM4
    have BG4 := Lib.hid (hK4.box BG3.out (.inl HQL.out))
    have BR4 := Lib.hid (hK4.box BR3.out (.inr rfl))
    have HK4 := Lib.hid (HK3.out.trans (hK4.mono fun j hj => .inl hj))
    have hfl := flush_x HM4.out (fun st hst => by have := putS_cache (D := []) st (by rw [goneS_nil]; exact hst); omega)
    rw [put_alive (ref3_ok hps) HXB.out] at hfl
    push_cast at hfl
    have c4 : w4.cell? ⟨q, 0, none⟩ = some (.int .i64 (k : Int)) ∧ w4.cell? ⟨q, 1, none⟩ = some (.int .i64 (m : Int)) := ⟨BG4.out.cell 0, BG4.out.cell 1⟩
    have f0 : ((k : Int) + (m : Int) != (k : Int) + (m : Int)) = false := by simp
    clear hM4 hK4 BG3 BR3 HK3
    push_cast
    go_wp2_with fail
    refine hfl.mono ?_
    clear hfl c4
    rintro e w5 ⟨rfl, hM5, hK5⟩
    obtain ⟨F, hF⟩ : ∃ F, (putS s k (k + m) ⟨3, p, 77⟩ b).map flushG = F := ⟨_, rfl⟩
    have hFv : ∀ d st, F[d]? = some st → HasS k (k + m) ⟨3, p, 77⟩ b d st ∧ st.cache = [] ∧ st.ok s := fun d st h => by rw [← hF] at h; exact flush_at (ref3_ok hps) HXB.out h
    rw [hF] at hM5
    have HFV := Lib.hid hFv
    have HM5 := Lib.hid hM5
    have BG5 := Lib.hid (hK5.box BG4.out (.inl HQL.out))
    have BR5 := Lib.hid (hK5.box BR4.out (.inr rfl))
    have HK5 := Lib.hid (HK4.out.trans (hK5.mono fun j hj => .inl hj))
    have c5q : w5.cell? ⟨q, 0, none⟩ = some (.int .i64 (k : Int)) ∧ w5.cell? ⟨q, 1, none⟩ = some (.int .i64 (m : Int)) := ⟨BG5.out.cell 0, BG5.out.cell 1⟩
    have hdi := distinct_any (n := k + m) (most := m) (cg := c4) (HK5.out.rd IntR.stable HR4.out (fun j hj => hj.2)) (by omega) (by omega) (by omega)
    push_cast at hdi
    clear hM5 hK5 HM4 BG4 BR4 HK4 hFv hF
    go_wp2_with fail
    refine hdi.mono ?_
    clear hdi c5q
    rintro e w7 ⟨A7, c7, D, rfl, hc7, hG, hr7, hb7⟩
    obtain ⟨dl, hdl⟩ : ∃ dl, D.length = dl := ⟨_, rfl⟩
    rw [hdl] at hr7 hc7 ⊢
    have hM7 := HM5.out.below hb7
    obtain ⟨XX, hXX⟩ : ∃ XX : Nat → Prop, (fun j => (j < w1.heap.size ∨ j = qr) ∨ (w5.heap.size ≤ j ∧ j < w7.heap.size)) = XX := ⟨_, rfl⟩
    have hX1 : ∀ j, (j < w1.heap.size ∨ j = qr) → XX j := fun j hj => by rw [← hXX]; exact .inl hj
    have hX2 : ∀ j, (w5.heap.size ≤ j ∧ j < w7.heap.size) → XX j := fun j hj => by rw [← hXX]; exact .inr hj
    rw [hXX] at hM7
    have HX1 := Lib.hid hX1
    have HX2 := Lib.hid hX2
    have HR7 := Lib.hid (RdL.bound IntR.stable hr7)
    have hhu := hurt_x (c := c7) (off := off) (mask := mask) hM7 HR7.out HX2.out hG.nd hG.rg hps hmask
    have BG7 := Lib.hid (BG5.out.below hb7)
    have BR7 := Lib.hid (BR5.out.below hb7)
    have HK7 := Lib.hid (HK5.out.trans (KpX.of_below hb7 fun j hj => HM5.out.lt (.inl hj)))
    have HDL := Lib.hid hdl
    have HG := Lib.hid hG
    have hdm : dl ≤ m := by rw [← hdl]; exact hG.ln
    clear hM7 hXX hX1 hX2 hr7 hb7 HM5 BG5 BR5 HK5 hdl hG
    go_wp2_with fail
    refine hhu.mono ?_
    clear hhu
    rintro e w8 ⟨S8, rfl, hM8, hK8, hH8⟩
    have HV8 := Lib.hid (hurt_view (k := k) (N := k + m) (r := ⟨3, p, 77⟩) (ref3_ok hps) (by omega) hg64 HXB.out (by have := HB44.out; omega) (by omega) (by omega) HFV.out hH8)
    have HM8 := Lib.hid hM8
    have BG8 := Lib.hid (hK8.box BG7.out (HX1.out _ (.inl HQL.out)))
    have BR8 := Lib.hid (hK8.box BR7.out (HX1.out _ (.inr rfl)))
    have HK8 := Lib.hid (HK7.out.trans (hK8.mono fun j hj => HX1.out _ (.inl hj)))
    have HR8 := Lib.hid (hK8.rd IntR.stable HR7.out HX2.out)
    obtain ⟨lc, hlc⟩ : ∃ lc, cntP (leftB D) (k + m) = lc := ⟨_, rfl⟩
    have hlc2 : lc + dl = k + m := by
      have := left_cnt HG.out.nd HG.out.rg
      rw [hlc, HDL.out] at this
      exact this
    have HLC := Lib.hid hlc
    have hl8 : S8.length = k + m := hM8.len
    have HL8 := Lib.hid hl8
    have HC8 := Lib.hid (hurt_cache2 (fun i st h => (HFV.out i st h).2.1) hH8)
    clear hM8 hK8 hH8 BG7 BR7 HK7 HR7 hlc hl8
    go_wp2_with fail
    go_loopw [22] (fun vi wr => ∃ (i : Nat), i ≤ k + m ∧ vi = .int .i64 i ∧ Hid (SMidX XX w1 wr a cb bf k m s (S8.mapIdx (repQ s i))) ∧ Hid (KpX XX w8 wr)) (fun vi _ => (k + m) - (intOf vi).toNat)
    case atStart => exact ⟨0, Nat.zero_le _, rfl, by rw [rep_zero]; exact HM8, Lib.hid KpX.refl⟩
    case round =>
      clear HM8
      obtain ⟨i, hi, rfl, HM, HK⟩ := hrel
      have p0 : (0 : Int) ≤ (i : Int) := Int.natCast_nonneg _
      by_cases hlt : i < k + m
      · have p1 : (i : Int) < (k : Int) + (m : Int) := by omega
        obtain ⟨st, hst⟩ : ∃ st, S8[i]? = some st := ⟨_, List.getElem?_eq_getElem (by rw [HL8.out]; exact hlt)⟩
        have hdx := dead_x HM.out (rep_at hst)
        cases hdd : st.dead with
        | false =>
          rw [hdd] at hdx
          have HST := Lib.hid (rep_live (n := s) hst hdd)
          clear hst hdd
          go_wp2_with fail
          refine hdx.mono ?_
          clear hdx
          rintro e w9 ⟨rfl, hb9⟩
          have hM9 := HM.out.below' hb9
          rw [HST.out] at hM9
          have HM9 := Lib.hid hM9
          have HK9 := Lib.hid (HK.out.trans (KpX.of_below hb9 fun j hj => HM.out.lt hj))
          clear hb9 hM9 HM HK
          go_wp2_with fail
          exact ⟨⟨i + 1, by omega, by go_num, HM9, HK9⟩, by simp [intOf]; omega⟩
        | true =>
          rw [hdd] at hdx
          have HST := Lib.hid (rep_dead (n := s) hst hdd)
          clear hst hdd
          go_wp2_with fail
          refine hdx.mono ?_
          clear hdx
          rintro e w9 ⟨rfl, hb9⟩
          have hrp := repl_x (HM.out.below' hb9) (i : Int)
          rw [HST.out, if_pos ⟨p0, by rw [List.length_mapIdx, HL8.out]; omega⟩] at hrp
          have HK9 := Lib.hid (HK.out.trans (KpX.of_below hb9 fun j hj => HM.out.lt hj))
          clear hb9 HM HK
          go_wp2_with fail
          refine hrp.mono ?_
          clear hrp
          rintro e w10 ⟨rfl, hM10, hK10⟩
          have HM10 := Lib.hid hM10
          have HK10 := Lib.hid (HK9.out.trans hK10)
          clear hM10 hK10 HK9
          go_wp2_with fail
          exact ⟨⟨i + 1, by omega, by go_num, HM10, HK10⟩, by simp [intOf]; omega⟩
      · have p1 : ¬ (i : Int) < (k : Int) + (m : Int) := by omega
        obtain rfl : i = k + m := by omega
        have hvr := rep_view (n := s) (k := k) (N := k + m) (r := ⟨3, p, 77⟩) (xs := b) (g := leftB D) (ref3_ok hps) HV8.out HL8.out
        obtain ⟨S9, hS9⟩ : ∃ S9, S8.mapIdx (repQ s (k + m)) = S9 := ⟨_, rfl⟩
        have hc9 : ∀ st ∈ S9, st.cache.length < 1 := by rw [← hS9]; exact rep_cache (by omega) HC8.out
        rw [hS9] at hvr HM
        have hen : k ≤ cntP (leftB D) (k + m) := by rw [HLC.out]; omega
        have hmd := mend_x (g := leftB D) (r := ⟨3, p, 77⟩) (xs := b) HM.out (ref3_ok hps) hg64 HXB.out HB44.out (fun st hst => by have := hc9 st hst; omega) hen (fun d st h => (hvr d st h).2)
        have hcm : cntP (fun d => !leftB D d && !deadL S9 d) (k + m) = dl := by
          have h1 : cntP (fun d => !leftB D d && !deadL S9 d) (k + m) = cntP (fun d => !leftB D d) (k + m) := cntP_congr fun d hd => by
            have hd9 : d < S9.length := by rw [HM.out.len]; exact hd
            have h2 := (hvr d _ (List.getElem?_eq_getElem hd9)).1
            unfold deadL
            rw [List.getElem?_eq_getElem hd9, Option.map_some, Option.getD_some, h2]
            simp
          have h3 := filter_both (leftB D) (List.range (k + m))
          rw [List.length_range] at h3
          have h4 := HLC.out
          unfold cntP at h1 h4 ⊢
          rw [h1]
          omega
        rw [hcm, HER.out] at hmd
        have HMA := Lib.hid (mend_all (n := s) (k := k) (N := k + m) (r := ⟨3, p, 77⟩) (xs := b) (g := leftB D) (ref3_ok hps) HXB.out hvr)
        have HMC := Lib.hid (mend_cache (g := leftB D) (n := s) (k := k) (N := k + m) (r := ⟨3, p, 77⟩) (xs := b) hc9)
        have BGr := Lib.hid (HK.out.box BG8.out (HX1.out _ (.inl HQL.out)))
        have BRr := Lib.hid (HK.out.box BR8.out (HX1.out _ (.inr rfl)))
        have HKr := Lib.hid (HK8.out.trans (HK.out.mono fun j hj => HX1.out _ (.inl hj)))
        have cr : wr.cell? ⟨qr, 0, none⟩ = some (.int .u8 3) ∧ wr.cell? ⟨qr, 1, none⟩ = some (.int .i64 (p : Int)) ∧ wr.cell? ⟨qr, 2, none⟩ = some (.int .u64 77) := ⟨BRr.out.cell 0, BRr.out.cell 1, BRr.out.cell 2⟩
        clear hvr hc9 hen hcm HM HK BG8 BR8 HK8 HR8 hS9 HC8 HV8
        go_wp2_with fail
        refine hmd.mono ?_
        clear hmd cr
        rintro e w9 ⟨rfl, hM9, hK9⟩
        obtain ⟨S10, hS10⟩ : ∃ S10, S9.mapIdx (mendQ (leftB D) s k (k + m) ⟨3, p, 77⟩ b) = S10 := ⟨_, rfl⟩
        rw [hS10] at hM9 HMA HMC
        have hlv : ∀ st ∈ S10, st.dead = false := fun st hst => by
          obtain ⟨d, hd, rfl⟩ := List.mem_iff_getElem.1 hst
          exact (HMA.out d _ (List.getElem?_eq_getElem hd)).1
        have hfl := flush_x hM9 (fun st hst => by have := HMC.out st hst; omega)
        rw [cnt_live hlv, hM9.len] at hfl
        push_cast at hfl
        have HFA := Lib.hid (flush_has (ref3_ok hps) hM9.mid.ok HMA.out)
        have BG9 := Lib.hid (hK9.box BGr.out (HX1.out _ (.inl HQL.out)))
        have BR9 := Lib.hid (hK9.box BRr.out (HX1.out _ (.inr rfl)))
        have HK9 := Lib.hid (HKr.out.trans (hK9.mono fun j hj => HX1.out _ (.inl hj)))
        have f1 : ((dl : Int) != (dl : Int)) = false := by simp
        clear hM9 hK9 BGr BRr HKr hlv hS10 HMA HMC
        go_wp2_with fail
        refine hfl.mono ?_
        clear hfl
        rintro e wA ⟨rfl, hMA, hKA⟩
        obtain ⟨S11, hS11⟩ : ∃ S11, S10.map flushG = S11 := ⟨_, rfl⟩
        rw [hS11] at hMA HFA
        have HM11 := Lib.hid hMA
        have BG11 := Lib.hid (hKA.box BG9.out (HX1.out _ (.inl HQL.out)))
        have BR11 := Lib.hid (hKA.box BR9.out (HX1.out _ (.inr rfl)))
        have HK11 := Lib.hid (HK9.out.trans (hKA.mono fun j hj => HX1.out _ (.inl hj)))
        have hwh := whole_view (g := fun _ => true) (r := ⟨3, p, 77⟩) (xs := b) HM11.out.mid (ref3_ok hps) hg64 HXB.out HB44.out (fun d st h => .inl ⟨rfl, (HFA.out d st h).1⟩)
        rw [HER.out] at hwh
        have cA : wA.cell? ⟨qr, 0, none⟩ = some (.int .u8 3) ∧ wA.cell? ⟨qr, 1, none⟩ = some (.int .i64 (p : Int)) ∧ wA.cell? ⟨qr, 2, none⟩ = some (.int .u64 77) := ⟨BR11.out.cell 0, BR11.out.cell 1, BR11.out.cell 2⟩
        clear hMA hKA BG9 BR9 HK9 hS11
        go_wp2_with fail
        refine hwh.mono ?_
        clear hwh cA
        rintro e wB ⟨gw, rfl, hrw, hbB⟩
        have HM12 := Lib.hid (HM11.out.below' hbB)
        have BG12 := Lib.hid (BG11.out.below hbB)
        have BR12 := Lib.hid (BR11.out.below hbB)
        have HK12 := Lib.hid (HK11.out.trans (KpX.of_below hbB fun j hj => HM11.out.lt (HX1.out _ (.inl hj))))
        have HRW := Lib.hid hrw
        clear hbB hrw BG11 BR11 HK11 HM11
        have HNN : Hid (∃ N, k + m = N) := Lib.hid ⟨_, rfl⟩
        go_wp2_with fail
        go_loopw [26] (fun vi wr2 => ∃ (i : Nat), i ≤ k + m ∧ vi = .int .i64 i ∧ wr2 = wB) (fun vi _ => (k + m) - (intOf vi).toNat)
        case atStart => exact ⟨0, Nat.zero_le _, rfl, rfl⟩
        case round =>
          obtain ⟨i, hi, rfl, hwr⟩ := hrel
          rw [hwr]
          clear hwr
          have p2 : (0 : Int) ≤ (i : Int) := Int.natCast_nonneg _
          by_cases hlt2 : i < k + m
          · have p3 : (i : Int) < ((k + m : Nat) : Int) := by omega
            have p4 : (i : Int) < (k : Int) + (m : Int) := by omega
            obtain ⟨bw, ow, x, ew, hx, v1⟩ := bool_at HRW.out hlt2
            injection ew with ew
            injection ew with ew1 ew2 _
            subst ew1; subst ew2
            have hxt : x = true := by
              rw [List.getElem?_map, List.getElem?_range hlt2] at hx
              exact (Option.some.inj hx).symm
            rw [hxt, Nat.zero_add] at v1
            clear hx hxt
            go_wp2_with fail
            exact ⟨⟨i + 1, by omega, by go_num, trivial⟩, by simp [intOf]; omega⟩
          · have p3 : ¬ (i : Int) < ((k + m : Nat) : Int) := by omega
            have p4 : ¬ (i : Int) < (k : Int) + (m : Int) := by omega
            have hmd := mend_x (g := fun _ => true) (r := ⟨3, p, 77⟩) (xs := b) HM12.out (ref3_ok hps) hg64 HXB.out HB44.out (fun st hst => by
              obtain ⟨d, hd, rfl⟩ := List.mem_iff_getElem.1 hst
              rw [(HFA.out d _ (List.getElem?_eq_getElem hd)).2.1]; decide) (by rw [cntP_all]; omega) (fun d st h => .inl ⟨rfl, (HFA.out d st h).1⟩)
            have hc0 : cntP (fun d => !((fun _ => true) d) && !deadL S11 d) (k + m) = 0 := by
              rw [← cntP_none (k + m)]
              exact cntP_congr fun d _ => rfl
            rw [hc0, mend_none, HER.out] at hmd
            have cB : wB.cell? ⟨qr, 0, none⟩ = some (.int .u8 3) ∧ wB.cell? ⟨qr, 1, none⟩ = some (.int .i64 (p : Int)) ∧ wB.cell? ⟨qr, 2, none⟩ = some (.int .u64 77) := ⟨BR12.out.cell 0, BR12.out.cell 1, BR12.out.cell 2⟩
            clear hc0 HRW
            go_wp2_with fail
            refine hmd.mono ?_
            clear hmd cB
            rintro e wC ⟨rfl, hM13, hK13⟩
            have HM13 := Lib.hid hM13
            have BG13 := Lib.hid (hK13.box BG12.out (HX1.out _ (.inl HQL.out)))
            have BR13 := Lib.hid (hK13.box BR12.out (HX1.out _ (.inr rfl)))
            have HK13 := Lib.hid (HK12.out.trans (hK13.mono fun j hj => HX1.out _ (.inl hj)))
            have cC : wC.cell? ⟨q, 0, none⟩ = some (.int .i64 (k : Int)) ∧ wC.cell? ⟨q, 1, none⟩ = some (.int .i64 (m : Int)) := ⟨BG13.out.cell 0, BG13.out.cell 1⟩
            have hdi := distinct_any (n := k + m) (most := m) (cg := c5) (HK13.out.rd IntR.stable HR5.out (fun j hj => hj.2)) (by omega) (by omega) (by omega)
            push_cast at hdi
            clear hM13 hK13 BG12 BR12 HK12 HM12
            go_wp2_with fail
            refine hdi.mono ?_
            clear hdi cC
            rintro e wD ⟨A9, c9, D2, rfl, hc9, hG2, hr9, hbD⟩
            obtain ⟨d2, hd2⟩ : ∃ d2, D2.length = d2 := ⟨_, rfl⟩
            rw [hd2] at hr9 hc9 ⊢
            have hMD := HM13.out.below hbD
            have hhu := hurt_x (c := c9) (off := off) (mask := mask) hMD (RdL.bound IntR.stable hr9) (fun j hj => .inr hj) hG2.nd hG2.rg hps hmask
            have BRD := Lib.hid (BR13.out.below hbD)
            have HKD := Lib.hid (HK13.out.trans (KpX.of_below hbD fun j hj => HM13.out.lt (HX1.out _ (.inl hj))))
            have hd2m : d2 ≤ m := by rw [← hd2]; exact hG2.ln
            have HG2 := Lib.hid hG2
            have HD2 := Lib.hid hd2
            clear hMD hr9 hbD hG2 hd2 HM13 BG13 BR13 HK13
            go_wp2_with fail
            refine hhu.mono ?_
            clear hhu
            rintro e wE ⟨S14, rfl, hM14, hK14, hH14⟩
            have hv14 := hurt_view (k := k) (N := k + m) (r := ⟨3, p, 77⟩) (ref3_ok hps) (by omega) hg64 HXB.out (by have := HB44.out; omega) (by omega) (by omega) HFA.out hH14
            have hgt := get_view (g := leftB D2) (r := ⟨3, p, 77⟩) (xs := b) hM14.mid (ref3_ok hps) hg64 HXB.out HB44.out hv14
            obtain ⟨l2, hl2⟩ : ∃ l2, cntP (leftB D2) (k + m) = l2 := ⟨_, rfl⟩
            have hl22 : l2 + d2 = k + m := by
              have := left_cnt HG2.out.nd HG2.out.rg
              rw [hl2, HD2.out] at this
              exact this
            rw [hl2, HER.out, HR1.out.1] at hgt
            have bRE := hK14.box BRD.out (.inl (HX1.out _ (.inr rfl)))
            have HKE := Lib.hid (HKD.out.trans (hK14.mono fun j hj => .inl (HX1.out _ (.inl hj))))
            have HM14 := Lib.hid hM14
            have cE : wE.cell? ⟨qr, 0, none⟩ = some (.int .u8 3) ∧ wE.cell? ⟨qr, 1, none⟩ = some (.int .i64 (p : Int)) ∧ wE.cell? ⟨qr, 2, none⟩ = some (.int .u64 77) := ⟨bRE.cell 0, bRE.cell 1, bRE.cell 2⟩
            clear hM14 hK14 hH14 hv14 hl2 bRE BRD HKD
            go_wp2_with fail
            refine hgt.mono ?_
            clear hgt cE
            rintro e wF ⟨hbF, ⟨hlt3, _⟩ | ⟨_, AX, cX, rfl, hcX, hrX⟩⟩
            · exact absurd hlt3 (by omega)
            · have HBF := Lib.hid (HB1.out.trans ((HM14.out.below' hbF).bel.mono HB1.out.size))
              have t1 := text_run (c := cX) hrX
              have t2 := text_run (c := c1) ((HKE.out.trans (KpX.of_below hbF fun j hj => HM14.out.lt (.inl (HX1.out _ (.inl hj))))).rd ByR.stable HR1.out (fun j hj => hj.2))
              have e5 : (((k + m : Nat) : Int) == (k : Int) + (m : Int)) = true := by push_cast; simp
              clear hrX hbF
              go_wp2_with fail
              refine holds_any.mono ?_
              rintro e wz ⟨rfl, hbz⟩
              go_wp2_with fail
              go_ret
              exact ⟨rfl, HBF.out.trans (hbz.mono HBF.out.size)⟩
end Go.Proofs.YteialipoedmmmaaGreat

set_option linter.unusedSimpArgs false
set_option linter.unusedVariables false
namespace Go.Proofs.YteialipoedmmmaaGreat
open Go.RowKit Go.Cib
attribute [local go_sem] cell_set Later.cell Later.frozen Grw.cell Grw.frozen
open Go.ChangeShapes Go.WideShapes Go.ChangeAt Go.Deep
theorem opens_by : Opens Tryz.prog 5 ByR 1 :=
  ⟨by kernel_rfl, by omega, fun H enc w base spare held fuel cs x _ hx => by
    obtain ⟨n, rfl, _, hw⟩ := DataW.trod_int Tryz.underlying5 hx
    have h2 : 0 ≤ n ∧ n ≤ 255 := by
      simp [Lit.wf, IntKind.min, IntKind.max, IntKind.signed, IntKind.bits] at hw
      omega
    exact ⟨n.toNat, by omega, by rw [show ((n.toNat : Nat) : Int) = n by omega]⟩⟩
theorem u32_bounds {z : Int} (h : (Lit.int .u32 z).wf = true) : 0 ≤ z ∧ z < 4294967296 := by
  simp [Lit.wf, IntKind.min, IntKind.max, IntKind.bits, IntKind.signed] at h
  omega
set_option maxRecDepth 100000 in
theorem open_geo {H : Type} {enc : TypeId × Value → H} {w : World} {base b0 : Nat} {spare : Nat → Bool} {held : Bool} {r : Reach} {v : Value} {d : DataW H} {ps : List MemPlace}
    (hval : Value.okWide Tryz.prog w r b0 23 v) (h : DataW.Trod enc Tryz.prog w base spare held 23 v d ps) : ∃ k m s : Int, v = .agg #[.int .i64 k, .int .i64 m, .int .i64 s] := by
  obtain ⟨cs, rfl, hsz⟩ := okWide_struct Tryz.underlying23 hval
  obtain ⟨fuel, hx⟩ := h
  have h5 : cs.size = 3 := hsz.trans (by kernel_rfl)
  have hl : (Value.agg cs).cells.toList.length = 3 := by simpa [Value.cells] using h5
  obtain ⟨xs, n, _, _, hlen, hxl, hf⟩ := DataW.trod_struct Tryz.underlying23 hx
  have e0 : (Value.agg cs).cells.toList = cs.toList := rfl
  rw [e0] at hf hl
  match hc : cs.toList, hl with
  | [c0, c1, c2], _ =>
    rw [hc] at hf
    have f0 := hf 0 _ rfl
    have f1 := hf 1 _ rfl
    have f2 := hf 2 _ rfl
    have k1 : Tryz.prog.cellsOf 3 = 1 := by kernel_rfl
    have hx3 : xs.length = 3 := hxl
    simp only [List.getElem_toArray, List.getElem_cons_zero, List.getElem_cons_succ, k1, List.drop_zero, List.drop_succ_cons, List.take_succ_cons, List.take_zero] at f0 f1 f2
    rw [List.getElem?_eq_getElem (by omega)] at f0 f1 f2
    obtain ⟨s, e1, _, _⟩ := DataW.trod_int Tryz.underlying3 f0
    obtain ⟨t, e2, _, _⟩ := DataW.trod_int Tryz.underlying3 f1
    obtain ⟨u, e3, _, _⟩ := DataW.trod_int Tryz.underlying3 f2
    simp only [List.cons.injEq, and_true] at e1 e2 e3
    subst e1; subst e2; subst e3
    refine ⟨s, t, u, ?_⟩
    rw [show cs = cs.toList.toArray by simp, hc]
end Go.Proofs.YteialipoedmmmaaGreat
