/-
  Drives side by side: Crash, PutRow.
-/
import Derived.Test.YtolmpopjonkfgaaArr5
set_option linter.unusedSimpArgs false
set_option linter.unusedVariables false
namespace Go.Proofs.Ytolmpopjonkfgaa
open Go.RowKit Go.Cib
attribute [local go_sem] cell_set Later.cell Later.frozen Grw.cell Grw.frozen
attribute [local go_sem ↓] run_min_as run_max_as

/-- Bytes, or bools, as they lie in a row. -/
def BytesR (S : Nat → Prop) (w : World) (cs : List Value) (x : List Int) : Prop := ∃ A m c, cs = [.slice A m c] ∧ RdL U8R 1 S w A m x
theorem BytesR.stable : Stable BytesR := by
  rintro S S' w w' cs e ⟨A, m, c, rfl, h⟩ hk
  exact ⟨A, m, c, rfl, h.stable U8R.stable hk⟩
theorem BytesR.one : ∀ S w cs x, BytesR S w cs x → ∀ u ∈ cs, u.oneCell' = true := by
  rintro S w cs x ⟨A, m, c, rfl, _⟩ u hu
  simp at hu
  subst hu; rfl
def BoolsR (S : Nat → Prop) (w : World) (cs : List Value) (x : List Bool) : Prop := ∃ A m c, cs = [.slice A m c] ∧ RdL BoolR 1 S w A m x
theorem BoolsR.stable : Stable BoolsR := by
  rintro S S' w w' cs e ⟨A, m, c, rfl, h⟩ hk
  exact ⟨A, m, c, rfl, h.stable BoolR.stable hk⟩
theorem BoolsR.one : ∀ S w cs x, BoolsR S w cs x → ∀ u ∈ cs, u.oneCell' = true := by
  rintro S w cs x ⟨A, m, c, rfl, _⟩ u hu
  simp at hu
  subst hu; rfl
theorem bytes_at {S : Nat → Prop} {w : World} {A : Option Addr} {m : Nat} {xs : List (List Int)} (h : RdL BytesR 1 S w A m xs) {i : Nat} (hi : i < m) : ∃ b o x A' m' c', A = some ⟨b, o, none⟩ ∧ xs[i]? = some x ∧ b < w.heap.size ∧ S b ∧ w.cell? ⟨b, o + i, none⟩ = some (.slice A' m' c') ∧ RdL U8R 1 S w A' m' x := by
  obtain ⟨b, o, rfl, hS, hlt⟩ := h.addr hi
  obtain ⟨hl, cs, h1, h2, h3⟩ := h.at hi
  obtain ⟨A', m', c', rfl, hr⟩ := h2
  refine ⟨b, o, xs[i], A', m', c', rfl, by simp [hl], hlt, hS, ?_, hr⟩
  simpa using h3 0 _ rfl
theorem bools_at {S : Nat → Prop} {w : World} {A : Option Addr} {m : Nat} {xs : List (List Bool)} (h : RdL BoolsR 1 S w A m xs) {i : Nat} (hi : i < m) : ∃ b o x A' m' c', A = some ⟨b, o, none⟩ ∧ xs[i]? = some x ∧ w.cell? ⟨b, o + i, none⟩ = some (.slice A' m' c') ∧ RdL BoolR 1 S w A' m' x := by
  obtain ⟨b, o, rfl, _, hlt⟩ := h.addr hi
  obtain ⟨hl, cs, h1, h2, h3⟩ := h.at hi
  obtain ⟨A', m', c', rfl, hr⟩ := h2
  refine ⟨b, o, xs[i], A', m', c', rfl, by simp [hl], ?_, hr⟩
  simpa using h3 0 _ rfl
def kAt (ks : List (List Bool)) (d : Nat) : List Bool := ks.getD d []
def KeptE (S : Nat → Prop) (w : World) (x : List Bool) (e : Ending) (w' : World) : Prop := ∃ A' m' c', e = .returned (.slice A' m' c') ∧ RdL BoolR 1 S w' A' m' x ∧ Below w.heap.size w w'
set_option maxRecDepth 100000 in
theorem kept_any {S : Nat → Prop} {w : World} {A : Option Addr} {m c : Nat} {ks : List (List Bool)} (R : Hid (RdL BoolsR 1 S w A m ks)) (d : Nat) :
    Calls Try.prog 75 #[.slice A m c, .int .i64 d] w fun e w' => KeptE S w (kAt ks d) e w' := by
  have hl := R.out.1
  by_cases hd : d < m
  · obtain ⟨b, o, x, A', m', c', rfl, hx, y0, hr⟩ := bools_at R.out hd
    have h1 : (d : Int) < (m : Int) := by omega
    have h2 : (0 : Int) ≤ (d : Int) := Int.natCast_nonneg _
    have hx2 : kAt ks d = x := by simp [kAt, List.getD, hx]
    have HR := Lib.hid hr
    have HX := Lib.hid hx2
    clear hr hx hx2 hl
    go_enter Try.func75, Try.ntmps75
    go_wp2_with fail
    go_ret
    rw [HX.out]
    exact ⟨A', m', c', rfl, HR.out, Below.refl _ _⟩
  · have h1 : ¬ (d : Int) < (m : Int) := by omega
    have hx2 : kAt ks d = [] := by simp [kAt, List.getD, List.getElem?_eq_none (show ks.length ≤ d by omega)]
    have HX := Lib.hid hx2
    clear hx2 hl
    go_enter Try.func75, Try.ntmps75
    go_wp2_with fail
    go_ret
    rw [HX.out]
    exact ⟨none, 0, 0, rfl, RdL.nil, Below.refl _ _⟩
section
variable {U : Nat → Prop} {w : World} {a s : Nat} {v : Value} {Fs : Nat → Nat → Prop} {ps : List Nat} {sts : List DSt}
theorem arr_c0 {A : Option Addr} {k c : Nat} (h : ArrB U w a (.slice A k c) Fs ps s sts) : w.cell? ⟨a, 0, none⟩ = some (.slice A k c) := h.box.cell 0
theorem arr_cg {g k c : Nat} (h : ArrB U w a (.slice (some ⟨g, 0, none⟩) k c) Fs ps s sts) {i p : Nat} (hp : ps[i]? = some p) : w.cell? ⟨g, i, none⟩ = some (.pointer (some ⟨p, 0, none⟩)) := by
  have hi : i < sts.length := by rw [h.len]; exact (List.getElem?_eq_some_iff.1 hp).1
  obtain ⟨A, c', hv, _, hc⟩ := arr_cells h
  obtain ⟨g', p', st, hA, hp', _, hcell, _⟩ := hc i hi
  subst hA
  simp only [Value.slice.injEq, Option.some.injEq, Addr.mk.injEq, and_true] at hv
  rw [hp] at hp'
  injection hp' with hp'
  rw [hv.1, hp']; exact hcell
theorem arr_form (h : ArrB U w a v Fs ps s sts) (hk : 0 < sts.length) : ∃ g c, v = .slice (some ⟨g, 0, none⟩) sts.length c := by
  obtain ⟨A, c, hv, _, hc⟩ := arr_cells h
  obtain ⟨g, _, _, hA, _⟩ := hc 0 hk
  exact ⟨g, c, by rw [hv, hA]⟩
def crashG (ks : List (List Bool)) (d : Nat) (st : DSt) : DSt := st.settle (keepOf (kAt ks d))
set_option maxRecDepth 100000 in
set_option maxHeartbeats 4000000 in
theorem acrash_any {sts : List DSt} (h : Hid (ArrAt U w a s sts)) (hk : 0 < sts.length) (hk2 : sts.length ≤ 600) (hcl : Hid (∀ st ∈ sts, st.cache.length < 1000000)) {S : Nat → Prop} {A : Option Addr} {m c : Nat} {ks : List (List Bool)} (R : Hid (RdL BoolsR 1 S w A m ks)) (hS : ∀ b, S b → ¬ U b ∧ b < w.heap.size) :
    Calls Try.prog 34 #[.pointer (some ⟨a, 0, none⟩), .slice A m c] w fun e w' => e = .returned (.tuple #[]) ∧ AUpd U w w' a s (sts.mapIdx (crashG ks)) := by
  obtain ⟨v, Fs, ps, hB⟩ := h.out
  obtain ⟨gb, cc, rfl⟩ := arr_form hB hk
  have HB := Lib.hid hB
  have HS := Lib.hid hS
  clear hB hS
  go_enter Try.func34, Try.ntmps34
  go_wp2_with fail
  refine (an_any HB hk).mono ?_
  rintro e w1 ⟨rfl, t1⟩
  have HA0 : Hid (ArrB U w1 a (.slice (some ⟨gb, 0, none⟩) sts.length cc) Fs ps s (stepTo (crashG ks) 0 sts)) := Lib.hid (by rw [stepTo_zero]; exact HB.out.below t1)
  have HK := Lib.hid (Keep.of_below (F := U) t1)
  clear t1
  go_wp2_with fail
  go_loopw [7] (fun vi wr => ∃ (i : Nat) (U' : Nat → Prop) (Fs' : Nat → Nat → Prop), i ≤ sts.length ∧ vi = .int .i64 i ∧ Hid (ArrB U' wr a (.slice (some ⟨gb, 0, none⟩) sts.length cc) Fs' ps s (stepTo (crashG ks) i sts)) ∧ Hid (∀ k, U' k → k < w.heap.size → U k) ∧ Hid (Keep U w wr)) (fun vi _ => sts.length - (intOf vi).toNat)
  case atStart => exact ⟨0, U, Fs, Nat.zero_le _, rfl, HA0, Lib.hid (fun _ h _ => h), HK⟩
  case round =>
    clear HA0 HK
    obtain ⟨wo, rfl⟩ : ∃ wo, wo = wr := ⟨_, rfl⟩
    obtain ⟨i, U', Fs', hi, rfl, A, hU, K⟩ := hrel
    by_cases hlt : i < sts.length
    · obtain ⟨st, hst⟩ : ∃ st, sts[i]? = some st := ⟨_, List.getElem?_eq_getElem hlt⟩
      obtain ⟨p, hp, hD, _⟩ := A.out.p_at (stepTo_at (crashG ks) i sts hst)
      have hcs : st.cache.length < 1000000 := hcl.out st (List.mem_of_getElem? hst)
      have h1 : (i : Int) < (sts.length : Int) := by omega
      have h2 : (0 : Int) ≤ (i : Int) := Int.natCast_nonneg _
      have h3 : (i : Int) < 600 := by omega
      have HD := Lib.hid hD
      have HP := Lib.hid hp
      have HST := Lib.hid hst
      have RK := Lib.hid (R.out.keep BoolsR.stable K.out (fun b hb => (HS.out b hb).1))
      have c0 := arr_c0 A.out
      have cg := arr_cg A.out hp
      clear hD hst hp
      go_wp2_with fail
      refine wp_region_held_drew (S := fun w' => w'.cell? ⟨a, 0, none⟩ = some (.slice (some ⟨gb, 0, none⟩) sts.length cc) ∧ w'.cell? ⟨gb, i, none⟩ = some (.pointer (some ⟨p, 0, none⟩))) (by kernel_rfl) (by first | exact ⟨c0, cg⟩ | exact ⟨c0', cg'⟩ | exact ⟨c0'', cg''⟩) (fun hHeld => ?_)
      refine wpAnyH_take (i := 0) (v := ?_) rfl (by kernel_rfl) (by kernel_rfl) (by kernel_rfl) (fun _ _ _ h => h) (Or.inl ⟨by rfl, ?_⟩) (by assumption) ?_
      rotate_left
      · (intro wq hSw; (try dsimp only at hSw); (try simp only [List.getElem_toArray, List.getElem_cons_succ, List.getElem_cons_zero]); go_simp); try with_reducible rfl
      try simp only [List.getElem_toArray, List.getElem_cons_succ, List.getElem_cons_zero, Act.put, List.setIfInBounds_toArray, List.set_cons_zero, List.set_cons_succ]
      refine wpAnyH_take (i := 1) (v := ?_) rfl (by kernel_rfl) (by kernel_rfl) (by kernel_rfl) (fun _ _ _ h => h) (Or.inl ⟨by rfl, ?_⟩) (by assumption) ?_
      rotate_left
      · (intro wq hSw; (try dsimp only at hSw); (try simp only [List.getElem_toArray, List.getElem_cons_succ, List.getElem_cons_zero]); go_simp); try with_reducible rfl
      try simp only [List.getElem_toArray, List.getElem_cons_succ, List.getElem_cons_zero, Act.put, List.setIfInBounds_toArray, List.set_cons_zero, List.set_cons_succ]
      refine wpAnyH_take (i := 2) (v := ?_) rfl (by kernel_rfl) (by kernel_rfl) (by kernel_rfl) (fun _ _ _ h => h) (Or.inl ⟨by rfl, ?_⟩) (by assumption) ?_
      rotate_left
      · (intro wq hSw; (try dsimp only at hSw); (try simp only [List.getElem_toArray, List.getElem_cons_succ, List.getElem_cons_zero]); go_simp); try with_reducible rfl
      try simp only [List.getElem_toArray, List.getElem_cons_succ, List.getElem_cons_zero, Act.put, List.setIfInBounds_toArray, List.set_cons_zero, List.set_cons_succ]
      refine wpAnyH_take (i := 3) (v := ?_) rfl (by kernel_rfl) (by kernel_rfl) (by kernel_rfl) (fun _ _ _ h => h) (Or.inl ⟨by rfl, ?_⟩) (by assumption) ?_
      rotate_left
      · (intro wq hSw; (try dsimp only at hSw); (try simp only [List.getElem_toArray, List.getElem_cons_succ, List.getElem_cons_zero]); go_simp); try with_reducible rfl
      try simp only [List.getElem_toArray, List.getElem_cons_succ, List.getElem_cons_zero, Act.put, List.setIfInBounds_toArray, List.set_cons_zero, List.set_cons_succ]
      refine wpAnyH_take (i := 4) (v := ?_) rfl (by kernel_rfl) (by kernel_rfl) (by kernel_rfl) (fun _ _ _ h => h) (Or.inl ⟨by rfl, ?_⟩) (by assumption) ?_
      rotate_left
      · (intro wq hSw; (try dsimp only at hSw); (try simp only [List.getElem_toArray, List.getElem_cons_succ, List.getElem_cons_zero]); go_simp); try with_reducible rfl
      try simp only [List.getElem_toArray, List.getElem_cons_succ, List.getElem_cons_zero, Act.put, List.setIfInBounds_toArray, List.set_cons_zero, List.set_cons_succ]
      refine wpAnyH_take (i := 5) (v := ?_) rfl (by kernel_rfl) (by kernel_rfl) (by kernel_rfl) (fun _ _ _ h => h) (Or.inl ⟨by rfl, ?_⟩) (by assumption) ?_
      rotate_left
      · (intro wq hSw; (try dsimp only at hSw); (try simp only [List.getElem_toArray, List.getElem_cons_succ, List.getElem_cons_zero]); go_simp); try with_reducible rfl
      try simp only [List.getElem_toArray, List.getElem_cons_succ, List.getElem_cons_zero, Act.put, List.setIfInBounds_toArray, List.set_cons_zero, List.set_cons_succ]
      refine wpAnyH_take (i := 6) (v := ?_) rfl (by kernel_rfl) (by kernel_rfl) (by kernel_rfl) (fun _ _ _ h => h) (Or.inl ⟨by rfl, ?_⟩) (by assumption) ?_
      rotate_left
      · (intro wq hSw; (try dsimp only at hSw); (try simp only [List.getElem_toArray, List.getElem_cons_succ, List.getElem_cons_zero]); go_simp); try with_reducible rfl
      try simp only [List.getElem_toArray, List.getElem_cons_succ, List.getElem_cons_zero, Act.put, List.setIfInBounds_toArray, List.set_cons_zero, List.set_cons_succ]
      refine wpAnyH_take (i := 7) (v := ?_) rfl (by kernel_rfl) (by kernel_rfl) (by kernel_rfl) (fun _ _ _ h => h) (Or.inl ⟨by rfl, ?_⟩) (by assumption) ?_
      rotate_left
      · (intro wq hSw; (try dsimp only at hSw); (try simp only [List.getElem_toArray, List.getElem_cons_succ, List.getElem_cons_zero]); go_simp); try with_reducible rfl
      try simp only [List.getElem_toArray, List.getElem_cons_succ, List.getElem_cons_zero, Act.put, List.setIfInBounds_toArray, List.set_cons_zero, List.set_cons_succ]
      refine wpAnyH_take (i := 8) (v := ?_) rfl (by kernel_rfl) (by kernel_rfl) (by kernel_rfl) (fun _ _ _ h => h) (Or.inl ⟨by rfl, ?_⟩) (by assumption) ?_
      rotate_left
      · (intro wq hSw; (try dsimp only at hSw); (try simp only [List.getElem_toArray, List.getElem_cons_succ, List.getElem_cons_zero]); go_simp); try with_reducible rfl
      try simp only [List.getElem_toArray, List.getElem_cons_succ, List.getElem_cons_zero, Act.put, List.setIfInBounds_toArray, List.set_cons_zero, List.set_cons_succ]
      refine wpAnyH_ready (rs := [9]) (by kernel_rfl) (by simp) ?_
      refine AllReadyH.cons rfl (fun K hK => ?_) AllReadyH.nil
      try simp only [List.getElem_toArray, List.getElem_cons_succ, List.getElem_cons_zero]
      go_simp
      refine (kept_any (Lib.hid (RK.out.below BoolsR.stable (Below.refl _ _).drew)) i).mono ?_
      rintro e w3 ⟨A3, m3, c3, rfl, r3, t3⟩
      have T3 : Below wo.heap.size wo w3 := below_then t3 (Below.refl _ _).drew
      have A3' := A.out.below T3
      have c0' := arr_c0 A3'
      have cg' := arr_cg A3' HP.out
      clear c0 cg
      try (go_wp2_with fail)
      refine hK.out _ _ (by first | exact ⟨c0, cg⟩ | exact ⟨c0', cg'⟩ | exact ⟨c0'', cg''⟩) (fun hHeld => ?_)
      clear hK K
      try simp only [List.getElem_toArray, List.getElem_cons_succ, List.getElem_cons_zero, Act.put, List.setIfInBounds_toArray, List.set_cons_zero, List.set_cons_succ]
      refine wpAnyH_ready (rs := [10]) (by kernel_rfl) (by simp) ?_
      refine AllReadyH.cons rfl (fun K hK => ?_) AllReadyH.nil
      try simp only [List.getElem_toArray, List.getElem_cons_succ, List.getElem_cons_zero]
      go_simp
      refine (crash_any (Lib.hid (HD.out.below T3)) hcs (Lib.hid r3) (fun b hb hf => (HS.out b hb).1 (hU.out b (A.out.uf i b hf) (HS.out b hb).2))).mono ?_
      rintro e w4 ⟨rfl, u4⟩
      obtain ⟨U2, Fs2, A2, hU2, K2⟩ := A3'.upd1 HP.out u4
      have c0'' := arr_c0 A2
      have cg'' := arr_cg A2 HP.out
      clear c0' cg'
      try (go_wp2_with fail)
      refine hK.out _ _ (by first | exact ⟨c0, cg⟩ | exact ⟨c0', cg'⟩ | exact ⟨c0'', cg''⟩) (fun hHeld => ?_)
      clear hK K
      try simp only [List.getElem_toArray, List.getElem_cons_succ, List.getElem_cons_zero, Act.put, List.setIfInBounds_toArray, List.set_cons_zero, List.set_cons_succ]
      refine wpAnyH_done (by kernel_rfl) ?_ _
      go_wp2_with fail
      have hsz := K.out.size
      rw [show st.settle (keepOf (kAt ks i)) = crashG ks i st from rfl, stepTo_succ _ _ _ HST.out] at A2
      exact ⟨⟨i + 1, U2, Fs2, by omega, by go_num, Lib.hid A2, Lib.hid (fun k hu hlt => hU.out k (hU2 k hu (by have := T3.size; omega)) hlt), Lib.hid ((K.out.trans (G := fun _ => False) (Keep.of_below T3) (fun _ h => h.elim)).trans (G := U') K2 (fun k hu hlt => hU.out k hu hlt))⟩, by simp [intOf]; omega⟩
    · obtain rfl : i = sts.length := by omega
      have h1 : ¬ (sts.length : Int) < (sts.length : Int) := by omega
      go_wp2_with fail
      go_end0
      rw [stepTo_all] at A
      exact ⟨rfl, U', ⟨_, Fs', ps, A.out⟩, hU.out, K.out⟩

/-- A row that is put: what each drive takes, and does it? -/
def rAt (rows : List (List Int)) (d : Nat) : List Int := rows.getD d []
def putG (s : Nat) (z : Int) (rows : List (List Int)) (d : Nat) (st : DSt) : DSt := if 0 < (rAt rows d).length then wrDA s st z (rAt rows d) else st
def putOk (s : Nat) (z : Int) (rows : List (List Int)) (d : Nat) (st : DSt) : Bool := decide (0 < (rAt rows d).length) && (writeE st.dead s z (rAt rows d).length == 0)
def PutE (U : Nat → Prop) (w : World) (a s : Nat) (z : Int) (rows : List (List Int)) (sts : List DSt) (e : Ending) (w' : World) : Prop := e = .returned (.int .i64 (cnt (sts.mapIdx (putOk s z rows)))) ∧ AUpd U w w' a s (sts.mapIdx (putG s z rows))
theorem take_mapIdx_succ (f : Nat → DSt → Bool) (i : Nat) (sts : List DSt) {st : DSt} (h : sts[i]? = some st) : (sts.mapIdx f).take (i + 1) = (sts.mapIdx f).take i ++ [f i st] := by
  have hl := (List.getElem?_eq_some_iff.1 h).1
  have h2 : (sts.mapIdx f)[i]? = some (f i st) := by rw [List.getElem?_mapIdx, h]; rfl
  rw [List.take_succ_eq_append_getElem (by simpa using hl), (List.getElem?_eq_some_iff.1 h2).2]
theorem cnt_rest (f : Nat → DSt → Bool) (q : Nat) : ∀ (sts : List DSt) , (∀ d st, q ≤ d → f d st = false) → cnt ((sts.mapIdx f).take q) = cnt (sts.mapIdx f) := by
  intro sts hf
  have h1 : sts.mapIdx f = (sts.mapIdx f).take q ++ (sts.mapIdx f).drop q := (List.take_append_drop _ _).symm
  have h2 : ∀ x ∈ (sts.mapIdx f).drop q, x = false := by
    intro x hx
    obtain ⟨j, hj, rfl⟩ := List.mem_iff_getElem.1 hx
    rw [List.getElem_drop, List.getElem_mapIdx]
    exact hf _ _ (by omega)
  have h3 : ((sts.mapIdx f).drop q).count true = 0 := List.count_eq_zero.2 (fun hm => by cases h2 _ hm)
  unfold cnt
  conv => rhs; rw [h1, List.count_append, h3]
  omega
theorem stepTo_rest (g : Nat → DSt → DSt) (q : Nat) (sts : List DSt) (hg : ∀ d st, q ≤ d → g d st = st) : stepTo g q sts = sts.mapIdx g := by
  apply List.ext_getElem?
  intro j
  rw [stepTo_get, List.getElem?_mapIdx]
  cases sts[j]? with
  | none => rfl
  | some y =>
    simp only [Option.map_some, Option.some.injEq]
    by_cases h : j < q
    · rw [if_pos h]
    · rw [if_neg h, hg j y (by omega)]
set_option maxRecDepth 100000 in
set_option maxHeartbeats 4000000 in
theorem aput_any {sts : List DSt} (h : Hid (ArrAt U w a s sts)) (hk : 0 < sts.length) (hk2 : sts.length ≤ 600) (hcl : Hid (∀ st ∈ sts, st.cache.length < 1000000)) (z : Int) {S : Nat → Prop} {A : Option Addr} {m c : Nat} {rows : List (List Int)} (R : Hid (RdL BytesR 1 S w A m rows)) (hS : ∀ b, S b → ¬ U b ∧ b < w.heap.size) :
    Calls Try.prog 32 #[.pointer (some ⟨a, 0, none⟩), .int .i64 z, .slice A m c] w fun e w' => PutE U w a s z rows sts e w' := by
  obtain ⟨v, Fs, ps, hB⟩ := h.out
  have HB := Lib.hid hB
  have HS := Lib.hid hS
  clear hB hS
  obtain ⟨q, hq⟩ : ∃ q : Nat, min (sts.length : Int) (m : Int) = q := ⟨min sts.length m, by omega⟩
  have hq1 : q ≤ sts.length := by omega
  have hq2 : q ≤ m := by omega
  have hq3 : q = sts.length ∨ q = m := by omega
  go_enter Try.func32, Try.ntmps32
  go_wp2_with fail
  refine (an_any HB hk).mono ?_
  rintro e w1 ⟨rfl, t1⟩
  have HA0 : Hid (ArrAt U w1 a s (stepTo (putG s z rows) 0 sts)) := Lib.hid (by rw [stepTo_zero]; exact h.out.below t1)
  have HK := Lib.hid (Keep.of_below (F := U) t1)
  clear t1
  go_wp2_with fail
  go_loopw [7, 14] (fun vn vi wr => ∃ (i : Nat) (U' : Nat → Prop), i ≤ q ∧ vn = .int .i64 (cnt ((sts.mapIdx (putOk s z rows)).take i)) ∧ vi = .int .i64 i ∧ Hid (ArrAt U' wr a s (stepTo (putG s z rows) i sts)) ∧ Hid (∀ k, U' k → k < w.heap.size → U k) ∧ Hid (Keep U w wr)) (fun _ vi _ => q - (intOf vi).toNat)
  case atStart => exact ⟨0, U, Nat.zero_le _, rfl, rfl, HA0, Lib.hid (fun _ h _ => h), HK⟩
  case round =>
    clear HA0 HK hq
    obtain ⟨wo, rfl⟩ : ∃ wo, wo = wr := ⟨_, rfl⟩
    obtain ⟨i, U', hi, rfl, rfl, A, hU, K⟩ := hrel
    by_cases hlt : i < q
    · obtain ⟨st, hst⟩ : ∃ st, sts[i]? = some st := ⟨_, List.getElem?_eq_getElem (by omega)⟩
      obtain ⟨b, o, x, A', m', c', rfl, hx, hbl, hSb, y0, hr⟩ := bytes_at (R.out.keep BytesR.stable K.out (fun b hb => (HS.out b hb).1)) (show i < m by omega)
      obtain rfl : x.length = m' := hr.1
      have hxr : rAt rows i = x := by simp [rAt, List.getD, hx]
      have hcs : st.cache.length < 1000000 := hcl.out st (List.mem_of_getElem? hst)
      have h1 : (i : Int) < (q : Int) := by omega
      have h2 : (0 : Int) ≤ (i : Int) := Int.natCast_nonneg _
      have h3 : (i : Int) < 600 := by omega
      have h4 : (i : Int) < (m : Int) := by omega
      have htk := take_mapIdx_succ (putOk s z rows) i sts hst
      have hc := cnt_snoc ((sts.mapIdx (putOk s z rows)).take i) (putOk s z rows i st)
      rw [← htk] at hc
      have hcl1 := cnt_le ((sts.mapIdx (putOk s z rows)).take i)
      have hcl2 : ((sts.mapIdx (putOk s z rows)).take i).length ≤ i := by simp; omega
      obtain ⟨C, hC⟩ : ∃ C, cnt ((sts.mapIdx (putOk s z rows)).take i) = C := ⟨_, rfl⟩
      rw [hC] at hc hcl1 ⊢
      have hw : ∀ k : Bool, IntKind.i64.wrap ((C : Int) + ((cnt [k] : Nat) : Int)) = (C : Int) + ((cnt [k] : Nat) : Int) := fun k => by have := cnt_le [k]; simp only [List.length_cons, List.length_nil] at this; rw [IntKind.wrap_i64]; omega
      have hc2 : cnt ((sts.mapIdx (putOk s z rows)).take (i + 1)) = C + cnt [putOk s z rows i st] := by rw [hc]; cases putOk s z rows i st <;> rfl
      have HCC := Lib.hid hc2
      have HST := Lib.hid hst
      have HR := Lib.hid hr
      have HX := Lib.hid hxr
      clear hc htk hcl1 hcl2 hst hr hxr hC hx hc2
      by_cases h0 : 0 < x.length
      · have d0 : decide ((0 : Int) < (x.length : Int)) = true := decide_eq_true (by omega)
        obtain ⟨v', Fs', ps', hB'⟩ := A.out
        have HB' := Lib.hid hB'
        clear hB'
        obtain ⟨E, hE⟩ : ∃ E, writeE st.dead s z x.length = E := ⟨_, rfl⟩
        have hpk : putOk s z rows i st = (E == 0) := by unfold putOk; rw [HX.out, hE, decide_eq_true h0]; rfl
        have hpg : putG s z rows i st = wrDA s st z x := by unfold putG; rw [HX.out, if_pos h0]
        have HE := Lib.hid hE
        have HPK := Lib.hid hpk
        have HPG := Lib.hid hpg
        clear hE hpk hpg
        have d1 : (0 : Int) < (x.length : Int) := by omega
        go_wp2_with fail
        refine (awrite_in (S := S) HB' i (stepTo_at (putG s z rows) i sts HST.out) z HR (fun b hb hu => (HS.out b hb).1 (hU.out b hu (HS.out b hb).2)) hcs).mono ?_
        rintro e w3 ⟨rfl, U2, A2, hU2, K2⟩
        rw [HE.out]
        rw [← HPG.out, stepTo_succ _ _ _ HST.out] at A2
        rw [HPK.out] at HCC
        have hsz := K.out.size
        have hU3 := Lib.hid (fun k hu (hlt : k < w.heap.size) => hU.out k (hU2 k hu (by omega)) hlt)
        have K3 := Lib.hid (K.out.trans (G := U') K2 (fun k hu hlt => hU.out k hu hlt))
        have A3 := Lib.hid A2
        have B2 := BoxAt.new w3 #[.bool (E == 0)] 4
        have R2 := Lib.hid (BoxAt.bools (xs := [E == 0]) (S := fun _ => True) (by simpa using B2) trivial)
        have t4 : Below w3.heap.size w3 (w3.alloc (.cells #[.bool (E == 0)] 4)) := (Below.refl _ _).alloc (Nat.le_refl _) _
        have T4 := Lib.hid t4
        have hw := hw (E == 0)
        clear A2 hU2 K2 B2 t4 hsz
        go_wp2_with fail
        refine (counted_any (m := 1) (c := 1) R2 (by omega)).mono ?_
        rintro e w5 ⟨rfl, t5⟩
        have T5 := Lib.hid (below_then t5 T4.out)
        clear t5
        go_wp2_with fail
        refine ⟨⟨i + 1, U2, by omega, ?_, by go_num, Lib.hid (A3.out.below T5.out), hU3, Lib.hid (K3.out.trans (G := fun _ => False) (Keep.of_below T5.out) (fun _ h => h.elim))⟩, by simp [intOf]; omega⟩
        rw [HCC.out]; rfl
      · have d0 : decide ((0 : Int) < (x.length : Int)) = false := decide_eq_false (by omega)
        have d1 : ¬ (0 : Int) < (x.length : Int) := by omega
        have hpk : putOk s z rows i st = false := by unfold putOk; rw [HX.out, decide_eq_false h0]; rfl
        have hpg : putG s z rows i st = st := by unfold putG; rw [HX.out, if_neg h0]
        have hst2 := stepTo_succ (putG s z rows) i sts HST.out
        rw [hpg] at hst2
        have A2 := A.out
        have hsame : (stepTo (putG s z rows) i sts).set i st = stepTo (putG s z rows) i sts := by
          apply List.ext_getElem?
          intro j
          by_cases hj : i = j
          · subst hj
            rw [List.getElem?_set_self (by rw [stepTo_len]; exact (List.getElem?_eq_some_iff.1 HST.out).1), stepTo_at _ _ _ HST.out]
          · rw [List.getElem?_set_ne hj]
        rw [← hsame, hst2] at A2
        have A3 := Lib.hid A2
        rw [hpk] at HCC
        have B2 := BoxAt.new wo #[.bool false] 4
        have R2 := Lib.hid (BoxAt.bools (xs := [false]) (S := fun _ => True) (by simpa using B2) trivial)
        have t4 : Below wo.heap.size wo (wo.alloc (.cells #[.bool false] 4)) := (Below.refl _ _).alloc (Nat.le_refl _) _
        have T4 := Lib.hid t4
        have hw := hw false
        clear A2 B2 t4 hpk hpg hst2 hsame
        go_wp2_with fail
        refine (counted_any (m := 1) (c := 1) R2 (by omega)).mono ?_
        rintro e w5 ⟨rfl, t5⟩
        have T5 := Lib.hid (below_then t5 T4.out)
        clear t5
        go_wp2_with fail
        refine ⟨⟨i + 1, U', by omega, ?_, by go_num, Lib.hid (A3.out.below T5.out), hU, Lib.hid (K.out.trans (G := fun _ => False) (Keep.of_below T5.out) (fun _ h => h.elim))⟩, by simp [intOf]; omega⟩
        rw [HCC.out]; rfl
    · obtain rfl : i = q := by omega
      have h1 : ¬ (i : Int) < (i : Int) := by omega
      have hA : stepTo (putG s z rows) i sts = sts.mapIdx (putG s z rows) := by
        rcases hq3 with h | h
        · rw [h, stepTo_all]
        · exact stepTo_rest _ _ _ (fun d st hd => by
            have : rAt rows d = [] := by simp [rAt, List.getD, List.getElem?_eq_none (show rows.length ≤ d by rw [R.out.1]; omega)]
            simp [putG, this])
      have hC : cnt ((sts.mapIdx (putOk s z rows)).take i) = cnt (sts.mapIdx (putOk s z rows)) := by
        rcases hq3 with h | h
        · rw [List.take_of_length_le (by simp; omega)]
        · exact cnt_rest _ _ _ (fun d st hd => by
            have : rAt rows d = [] := by simp [rAt, List.getD, List.getElem?_eq_none (show rows.length ≤ d by rw [R.out.1]; omega)]
            simp [putOk, this])
      rw [hA] at A
      rw [hC]
      clear hA hC
      go_wp2_with fail
      go_ret
      exact ⟨rfl, U', A.out, hU.out, K.out⟩
end
end Go.Proofs.Ytolmpopjonkfgaa
