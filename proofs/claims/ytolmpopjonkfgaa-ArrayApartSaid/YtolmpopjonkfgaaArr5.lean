/-
  Drives side by side: Flush.
-/
import Derived.Test.YtolmpopjonkfgaaArr4
set_option linter.unusedSimpArgs false
set_option linter.unusedVariables false
namespace Go.Proofs.Ytolmpopjonkfgaa
open Go.RowKit Go.Cib
attribute [local go_sem] cell_set Later.cell Later.frozen Grw.cell Grw.frozen

theorem makeBoolsL (k : Nat) (hk : k ≤ 600) (w : World) : (Instr.makeSlice 23 (.int .i64 (k : Int)) (.int .i64 (k : Int))).run Try.prog w = .ok (.slice (some ⟨w.heap.size, 0, none⟩) k k) (w.alloc (.cells ((List.replicate k false).map Value.bool).toArray 4)) := by
  rw [List.map_replicate, List.toArray_replicate]
  exact makeBools k hk w
theorem mapIdx_const (g : DSt → DSt) (sts : List DSt) : sts.mapIdx (fun _ => g) = sts.map g := by
  apply List.ext_getElem?
  intro j
  rw [List.getElem?_mapIdx, List.getElem?_map]
def okTo (r : DSt → Int) (i : Nat) (sts : List DSt) : List Bool := sts.mapIdx (fun j st => if j < i then r st == 0 else false)
theorem okTo_get (r : DSt → Int) (i : Nat) (sts : List DSt) (j : Nat) : (okTo r i sts)[j]? = (sts[j]?).map (fun st => if j < i then r st == 0 else false) := by simp [okTo]
theorem okTo_len (r : DSt → Int) (i : Nat) (sts : List DSt) : (okTo r i sts).length = sts.length := by simp [okTo]
theorem okTo_zero (r : DSt → Int) (sts : List DSt) : okTo r 0 sts = List.replicate sts.length false := by
  apply List.ext_getElem?
  intro j
  rw [okTo_get, List.getElem?_replicate]
  by_cases h : j < sts.length
  · rw [List.getElem?_eq_getElem h]; simp [h]
  · rw [List.getElem?_eq_none (by omega)]; simp [h]
theorem okTo_succ (r : DSt → Int) (i : Nat) (sts : List DSt) {st : DSt} (h : sts[i]? = some st) : (okTo r i sts).set i (r st == 0) = okTo r (i + 1) sts := by
  apply List.ext_getElem?
  intro j
  rw [okTo_get]
  by_cases hj : i = j
  · subst hj
    rw [List.getElem?_set_self (by rw [okTo_len]; exact (List.getElem?_eq_some_iff.1 h).1), h]; simp
  · rw [List.getElem?_set_ne hj, okTo_get]
    cases sts[j]? with
    | none => rfl
    | some y =>
      simp only [Option.map_some, Option.some.injEq]
      by_cases h1 : j < i
      · rw [if_pos h1, if_pos (by omega)]
      · rw [if_neg h1, if_neg (by omega)]
theorem okTo_all (r : DSt → Int) (sts : List DSt) : okTo r sts.length sts = sts.map (fun st => r st == 0) := by
  apply List.ext_getElem?
  intro j
  rw [okTo_get, List.getElem?_map]
  cases h : sts[j]? with
  | none => rfl
  | some y =>
    have := (List.getElem?_eq_some_iff.1 h).1
    simp [this]

section
variable {U : Nat → Prop} {w : World} {a s : Nat} {v : Value} {Fs : Nat → Nat → Prop} {ps : List Nat} {sts : List DSt}
def EachE (U : Nat → Prop) (w : World) (a : Nat) (v : Value) (ps : List Nat) (s : Nat) (sts : List DSt) (g : DSt → DSt) (r : DSt → Int) (e : Ending) (w' : World) : Prop := ∃ ob U' Fs', e = .returned (.slice (some ⟨ob, 0, none⟩) sts.length sts.length) ∧ BoxAt w' ob ((sts.map (fun st => r st == 0)).map Value.bool).toArray ∧ w.heap.size ≤ ob ∧ ¬ U' ob ∧ ArrB U' w' a v Fs' ps s (sts.map g) ∧ (∀ k, U' k → k < w.heap.size → U k) ∧ Keep U w w'
set_option maxRecDepth 100000 in
set_option maxHeartbeats 4000000 in
theorem aeach_any (h : Hid (ArrB U w a v Fs ps s sts)) (hk : 0 < sts.length) (hk2 : sts.length ≤ 600) (f : FuncId) (g : DSt → DSt) (r : DSt → Int)
    (hc : ∀ (i : Nat) (st : DSt), sts[i]? = some st → ∀ (F : Nat → Prop) (p : Nat) (w' : World), Hid (DrvAt F w' p s st) → Calls Try.prog f #[.pointer (some ⟨p, 0, none⟩)] w' fun e w'' => e = .returned (.int .i64 (r st)) ∧ Upd F w' w'' p s (g st)) (hcf : ∀ args w, (callFunc f args).run Try.prog w = .ok (.enter f args) w) :
    Calls Try.prog 76 #[.pointer (some ⟨a, 0, none⟩), .func (.func f) #[] #[]] w fun e w' => EachE U w a v ps s sts g r e w' := by
  have HC := Lib.hid hc
  clear hc
  go_enter Try.func76, Try.ntmps76
  go_wp2_with fail
  refine (an_any h hk).mono ?_
  rintro e w1 ⟨rfl, t1⟩
  have hmk := makeBoolsL sts.length hk2 w1
  have b1 := BoxAt.new w1 ((List.replicate sts.length false).map Value.bool).toArray 4
  have a1 : Below w1.heap.size w1 (w1.alloc (.cells ((List.replicate sts.length false).map Value.bool).toArray 4)) := (Below.refl _ _).alloc (Nat.le_refl _) _
  obtain ⟨w2, hw2⟩ : ∃ w2, w1.alloc (.cells ((List.replicate sts.length false).map Value.bool).toArray 4) = w2 := ⟨_, rfl⟩
  obtain ⟨ob, hob⟩ : ∃ ob, w1.heap.size = ob := ⟨_, rfl⟩
  rw [hw2] at hmk b1 a1
  have a12 := below_then a1 t1
  have HA := Lib.hid ((h.out.below t1).below a1)
  have HK := Lib.hid (Keep.of_below (F := U) a12)
  have hob1 : w.heap.size ≤ ob := by rw [← hob]; exact t1.size
  have hnU : ¬ U ob := fun hu => by have := h.out.lt ob hu; omega
  rw [hob] at hmk b1
  have HB : Hid (BoxAt w2 ob ((okTo r 0 sts).map Value.bool).toArray) := Lib.hid (by rw [okTo_zero]; exact b1)
  have HA0 : Hid (ArrB U w2 a v Fs ps s (stepTo (fun _ => g) 0 sts)) := Lib.hid (by rw [stepTo_zero]; exact HA.out)
  have hlob : ob < w2.heap.size := b1.lt
  clear b1 a1 a12 t1 hw2 HA hob
  go_wp2_with fail
  clear hmk
  go_loopw [12] (fun vi wr => ∃ (i : Nat) (U' : Nat → Prop) (Fs' : Nat → Nat → Prop), i ≤ sts.length ∧ vi = .int .i64 i ∧ Hid (BoxAt wr ob ((okTo r i sts).map Value.bool).toArray) ∧ ¬ U' ob ∧ Hid (ArrB U' wr a v Fs' ps s (stepTo (fun _ => g) i sts)) ∧ Hid (∀ k, U' k → k < w.heap.size → U k) ∧ Hid (Keep U w wr)) (fun vi _ => sts.length - (intOf vi).toNat)
  case atStart => exact ⟨0, U, Fs, Nat.zero_le _, rfl, HB, hnU, HA0, Lib.hid (fun _ h _ => h), HK⟩
  case round =>
    clear HB HA0 HK hnU hlob
    obtain ⟨wo, rfl⟩ : ∃ wo, wo = wr := ⟨_, rfl⟩
    obtain ⟨i, U', Fs', hi, rfl, B, hn, A, hU, K⟩ := hrel
    by_cases hlt : i < sts.length
    · obtain ⟨st, hst⟩ : ∃ st, sts[i]? = some st := ⟨_, List.getElem?_eq_getElem hlt⟩
      obtain ⟨AA, cc, hv, c0, hcl⟩ := arr_cells A.out
      rw [stepTo_len] at c0 hcl
      obtain ⟨gb, p, st', rfl, hp, hst', cg, hD⟩ := hcl i hlt
      obtain rfl : st' = st := by rw [stepTo_at _ _ _ hst] at hst'; injection hst' with e; exact e.symm
      have h1 : (i : Int) < (sts.length : Int) := by omega
      have h2 : (0 : Int) ≤ (i : Int) := Int.natCast_nonneg _
      have h3 : (i : Int) < 600 := by omega
      have HD := Lib.hid hD
      have HP := Lib.hid hp
      have HST := Lib.hid hst
      clear hcl hD hst' hp hst hv
      go_wp2_with fail
      refine (HC.out i st' HST.out _ p wo HD).mono ?_
      rintro e w3 ⟨rfl, u3⟩
      obtain ⟨U2, Fs2, A2, hU2, K2⟩ := A.out.upd1 HP.out u3
      rw [stepTo_succ _ _ _ HST.out] at A2
      have B2 := B.out.keeps K2 hn
      have z2 := B2.frozen i
      have q2 : ∃ q, w3.cell? ⟨ob, i, none⟩ = some q := by
        rw [B2.cell]
        exact ⟨_, Array.getElem?_eq_getElem (by simp [okTo_len]; exact hlt)⟩
      obtain ⟨q, q2⟩ := q2
      have hlo : ob < wo.heap.size := B.out.lt
      have hn2 : ¬ U2 ob := fun hu => hn (hU2 ob hu hlo)
      have B3 := Lib.hid (B2.set i (.bool (r st' == 0)))
      have A3 := Lib.hid (A2.keep ((Keep.refl (fun k => k = ob) w3).setCell (p := ⟨ob, i, none⟩) (fun _ => rfl) (.bool (r st' == 0))) (fun k hu e => hn2 (e ▸ hu)))
      have K3 := Lib.hid ((K.out.trans (G := U') K2 (fun k hu hlt => hU.out k hu hlt)).setCell (p := ⟨ob, i, none⟩) (fun hlt => by simp only at hlt; omega) (.bool (r st' == 0)))
      have hsz := K.out.size
      have hU3 := Lib.hid (fun k hu (hlt : k < w.heap.size) => hU.out k (hU2 k hu (by omega)) hlt)
      have hB : (((okTo r i sts).map Value.bool).toArray).setIfInBounds i (.bool (r st' == 0)) = ((okTo r (i + 1) sts).map Value.bool).toArray := by
        rw [← okTo_succ r i sts HST.out, List.map_set]; simp
      rw [hB] at B3
      clear c0 cg u3 A2 hU2 K2 B2 hB hsz
      go_wp2_with fail
      exact ⟨⟨i + 1, U2, Fs2, by omega, by go_num, B3, hn2, A3, hU3, K3⟩, by simp [intOf]; omega⟩
    · obtain rfl : i = sts.length := by omega
      have h1 : ¬ (sts.length : Int) < (sts.length : Int) := by omega
      go_wp2_with fail
      go_ret
      rw [okTo_all] at B
      rw [stepTo_all] at A
      refine ⟨ob, U', Fs', rfl, B.out, hob1, hn, ?_, hU.out, K.out⟩
      have := A.out
      rwa [mapIdx_const] at this
def flushG (st : DSt) : DSt := if st.dead = false then st.settle (fun _ => true) else st
theorem flush_exact {F : Nat → Prop} {w : World} {p n : Nat} {st : DSt} (h : Hid (DrvAt F w p n st)) (hcl : st.cache.length < 1000000) :
    Calls Try.prog 15 #[.pointer (some ⟨p, 0, none⟩)] w fun e w' => e = .returned (.int .i64 (if st.dead then 90 else 0)) ∧ Upd F w w' p n (flushG st) := by
  unfold flushG
  cases hd : st.dead with
  | false =>
    refine (flush_good h hd hcl).mono ?_
    rintro e w' ⟨rfl, hu⟩
    exact ⟨rfl, hu⟩
  | true =>
    refine (flush_dead h hd).mono ?_
    rintro e w' ⟨rfl, hu⟩
    exact ⟨rfl, h.out.upd hu⟩
set_option maxRecDepth 100000 in
theorem aflush_any {sts : List DSt} (h : Hid (ArrAt U w a s sts)) (hk : 0 < sts.length) (hk2 : sts.length ≤ 600) (hcl : Hid (∀ st ∈ sts, st.cache.length < 1000000)) :
    Calls Try.prog 35 #[.pointer (some ⟨a, 0, none⟩)] w fun e w' => e = .returned (.int .i64 (cnt (aliveL sts))) ∧ AUpd U w w' a s (sts.map flushG) := by
  obtain ⟨v, Fs, ps, hB⟩ := h.out
  have HB := Lib.hid hB
  clear hB
  go_enter Try.func35, Try.ntmps35
  go_wp2_with fail
  refine (aeach_any HB hk hk2 _ flushG (fun st => if st.dead then 90 else 0) (fun i st hst F p w' hD => flush_exact hD (hcl.out st (List.mem_of_getElem? hst))) call_flush).mono ?_
  rintro e w1 ⟨ob, U', Fs', rfl, hbx, hob, hn, hA, hU, hK⟩
  have hal : sts.map (fun st => (if st.dead then (90 : Int) else 0) == 0) = aliveL sts := by
    unfold aliveL
    refine List.map_congr_left (fun st _ => ?_)
    cases st.dead <;> rfl
  rw [hal] at hbx
  have hln : (aliveL sts).length = sts.length := by simp [aliveL]
  have R := BoxAt.bools hbx (S := fun b => b = ob) rfl
  rw [hln] at R
  have HR := Lib.hid R
  have HA := Lib.hid hA
  have HU := Lib.hid hU
  have HK := Lib.hid hK
  clear hal hbx hln R hA hU hK
  go_wp2_with fail
  refine (counted_any HR (by omega)).mono ?_
  rintro e w2 ⟨rfl, t2⟩
  go_wp2_with fail
  go_ret
  exact ⟨rfl, U', ⟨v, Fs', ps, HA.out.below t2⟩, HU.out, HK.out.trans (G := fun _ => False) (Keep.of_below t2) (fun _ h => h.elim)⟩
end
end Go.Proofs.Ytolmpopjonkfgaa
