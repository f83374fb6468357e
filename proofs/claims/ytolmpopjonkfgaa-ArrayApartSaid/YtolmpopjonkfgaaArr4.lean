/-
  Drives side by side: what one is asked; how many aren't dead; all flushed.
-/
import Derived.Test.YtolmpopjonkfgaaArr3
set_option linter.unusedSimpArgs false
set_option linter.unusedVariables false
namespace Go.Proofs.Ytolmpopjonkfgaa
open Go.RowKit Go.Cib
attribute [local go_sem] cell_set Later.cell Later.frozen Grw.cell Grw.frozen

section
variable {U : Nat → Prop} {w : World} {a s : Nat} {v : Value} {Fs : Nat → Nat → Prop} {ps : List Nat} {sts : List DSt}
set_option maxRecDepth 100000 in
theorem adead_in (h : Hid (ArrB U w a v Fs ps s sts)) (d : Nat) {st : DSt} (hst : sts[d]? = some st) :
    Calls Try.prog 37 #[.pointer (some ⟨a, 0, none⟩), .int .i64 d] w fun e w' => e = .returned (.bool st.dead) ∧ Below w.heap.size w w' := by
  obtain ⟨p, hp, hD, hd⟩ := h.out.p_at hst
  have HD := Lib.hid hD
  clear hD
  go_enter Try.func37, Try.ntmps37
  go_wp2_with fail
  refine (aat_in h d hd hp).mono ?_
  rintro e w1 ⟨rfl, t1⟩
  have T1 := Lib.hid t1
  obtain ⟨sb, sc, rb, rc, A, cc, mb, H⟩ := (HD.out.below t1).box
  clear t1
  go_wp2_with fail
  refine (dead_any H).mono ?_
  rintro e w2 ⟨rfl, t2⟩
  go_wp2_with fail
  go_ret
  exact ⟨rfl, T1.out.trans (t2.mono T1.out.size)⟩
set_option maxRecDepth 100000 in
theorem awaits_in (h : Hid (ArrB U w a v Fs ps s sts)) (d : Nat) {st : DSt} (hst : sts[d]? = some st) :
    Calls Try.prog 44 #[.pointer (some ⟨a, 0, none⟩), .int .i64 d] w fun e w' => e = .returned (.int .i64 st.cache.length) ∧ Below w.heap.size w w' := by
  obtain ⟨p, hp, hD, hd⟩ := h.out.p_at hst
  have HD := Lib.hid hD
  clear hD
  go_enter Try.func44, Try.ntmps44
  go_wp2_with fail
  refine (aat_in h d hd hp).mono ?_
  rintro e w1 ⟨rfl, t1⟩
  have T1 := Lib.hid t1
  obtain ⟨sb, sc, rb, rc, A, cc, mb, H⟩ := (HD.out.below t1).box
  clear t1
  go_wp2_with fail
  refine (waits_any H).mono ?_
  rintro e w2 ⟨rfl, t2⟩
  go_wp2_with fail
  go_ret
  exact ⟨rfl, T1.out.trans (t2.mono T1.out.size)⟩
/-- A drive's mark at z. -/
def markL (st : DSt) (z : Nat) : Bool := if st.dead then false else (st.rotten[z]?).getD false
theorem rotten_whole {F : Nat → Prop} {p n : Nat} {st : DSt} (h : Hid (DrvAt F w p n st)) (z : Nat) (hz : z < n) :
    Calls Try.prog 19 #[.pointer (some ⟨p, 0, none⟩), .int .i64 z] w fun e w' => e = .returned (.bool (markL st z)) ∧ Below w.heap.size w w' := by
  cases hd : st.dead with
  | true =>
    refine (rotten_dead h hd z).mono ?_
    rintro e w' ⟨rfl, hb⟩
    exact ⟨by simp [markL, hd], hb⟩
  | false =>
    have hr : st.rotten[z]? = some (st.rotten[z]'(by rw [h.out.ok.rl]; exact hz)) := List.getElem?_eq_getElem _
    refine (rotten_any h hd z hz hr).mono ?_
    rintro e w' ⟨rfl, hb⟩
    exact ⟨by simp [markL, hd, hr], hb⟩
set_option maxRecDepth 100000 in
theorem arotten_in (h : Hid (ArrB U w a v Fs ps s sts)) (d : Nat) {st : DSt} (hst : sts[d]? = some st) (z : Nat) (hz : z < s) :
    Calls Try.prog 45 #[.pointer (some ⟨a, 0, none⟩), .int .i64 d, .int .i64 z] w fun e w' => e = .returned (.bool (markL st z)) ∧ Below w.heap.size w w' := by
  obtain ⟨p, hp, hD, hd⟩ := h.out.p_at hst
  have HD := Lib.hid hD
  clear hD
  go_enter Try.func45, Try.ntmps45
  go_wp2_with fail
  refine (aat_in h d hd hp).mono ?_
  rintro e w1 ⟨rfl, t1⟩
  have T1 := Lib.hid t1
  clear t1
  go_wp2_with fail
  refine (rotten_whole (Lib.hid (HD.out.below T1.out)) z hz).mono ?_
  rintro e w2 ⟨rfl, t2⟩
  go_wp2_with fail
  go_ret
  exact ⟨rfl, T1.out.trans (t2.mono T1.out.size)⟩
def wrDA (n : Nat) (st : DSt) (z : Int) (bs : List Int) : DSt := if readyE st.dead n z = 0 ∧ bs.length = 64 then st.write z bs else st
set_option maxRecDepth 100000 in
theorem awrite_in (h : Hid (ArrB U w a v Fs ps s sts)) (d : Nat) {st : DSt} (hst : sts[d]? = some st) (z : Int) {S : Nat → Prop} {A : Option Addr} {m c : Nat} {bs : List Int} (hb : Hid (RdL U8R 1 S w A m bs)) (hS : ∀ b, S b → ¬ U b) (hcl : st.cache.length < 1000000) :
    Calls Try.prog 40 #[.pointer (some ⟨a, 0, none⟩), .int .i64 d, .int .i64 z, .slice A m c] w fun e w' => e = .returned (.int .i64 (writeE st.dead s z m)) ∧ AUpd U w w' a s (sts.set d (wrDA s st z bs)) := by
  obtain ⟨p, hp, hD, hd⟩ := h.out.p_at hst
  have HD := Lib.hid hD
  have HS := Lib.hid hS
  clear hD hS
  go_enter Try.func40, Try.ntmps40
  go_wp2_with fail
  refine (areach_in h d hd hp).mono ?_
  rintro e w1 ⟨rfl, t1⟩
  have T1 := Lib.hid t1
  clear t1
  go_wp2_with fail
  refine (write_all (Lib.hid (HD.out.below T1.out)) z (Lib.hid (hb.out.below U8R.stable T1.out)) (fun b hs hf => HS.out b hs (h.out.uf d b hf)) hcl).mono ?_
  rintro e w2 ⟨rfl, u2⟩
  obtain rfl : bs.length = m := hb.out.1
  have U2 := Lib.hid (show Upd (Fs d) w1 w2 p s (wrDA s st z bs) from u2)
  clear u2
  go_wp2_with fail
  go_ret
  exact ⟨rfl, h.out.upd2 T1.out hp U2.out⟩
def rtDA (n : Nat) (st : DSt) (z off mask : Int) : DSt := if rotDOk st n z off mask then st.rot z.toNat off.toNat mask else st
set_option maxRecDepth 100000 in
theorem arot_in (h : Hid (ArrB U w a v Fs ps s sts)) (d : Nat) {st : DSt} (hst : sts[d]? = some st) (z off mask : Int) :
    Calls Try.prog 42 #[.pointer (some ⟨a, 0, none⟩), .int .i64 d, .int .i64 z, .int .i64 off, .int .u32 mask] w fun e w' => (∃ E, e = .returned (.int .i64 E)) ∧ AUpd U w w' a s (sts.set d (rtDA s st z off mask)) := by
  obtain ⟨p, hp, hD, hd⟩ := h.out.p_at hst
  have HD := Lib.hid hD
  clear hD
  go_enter Try.func42, Try.ntmps42
  go_wp2_with fail
  refine (areach_in h d hd hp).mono ?_
  rintro e w1 ⟨rfl, t1⟩
  have T1 := Lib.hid t1
  clear t1
  go_wp2_with fail
  refine (rot_all (Lib.hid (HD.out.below T1.out)) z off mask).mono ?_
  rintro e w2 ⟨⟨E, rfl⟩, u2⟩
  have U2 := Lib.hid (show Upd (Fs d) w1 w2 p s (rtDA s st z off mask) from u2)
  clear u2
  go_wp2_with fail
  go_ret
  exact ⟨⟨_, rfl⟩, h.out.upd2 T1.out hp U2.out⟩

/-! ### All of them, one by one -/
def stepTo (g : Nat → DSt → DSt) (i : Nat) (sts : List DSt) : List DSt := sts.mapIdx (fun j st => if j < i then g j st else st)
theorem stepTo_get (g : Nat → DSt → DSt) (i : Nat) (sts : List DSt) (j : Nat) : (stepTo g i sts)[j]? = (sts[j]?).map (fun st => if j < i then g j st else st) := by simp [stepTo]
theorem stepTo_len (g : Nat → DSt → DSt) (i : Nat) (sts : List DSt) : (stepTo g i sts).length = sts.length := by simp [stepTo]
theorem stepTo_zero (g : Nat → DSt → DSt) (sts : List DSt) : stepTo g 0 sts = sts := by
  apply List.ext_getElem?
  intro j
  rw [stepTo_get]
  cases sts[j]? <;> simp
theorem stepTo_at (g : Nat → DSt → DSt) (i : Nat) (sts : List DSt) {st : DSt} (h : sts[i]? = some st) : (stepTo g i sts)[i]? = some st := by rw [stepTo_get, h]; simp
theorem stepTo_succ (g : Nat → DSt → DSt) (i : Nat) (sts : List DSt) {st : DSt} (h : sts[i]? = some st) : (stepTo g i sts).set i (g i st) = stepTo g (i + 1) sts := by
  apply List.ext_getElem?
  intro j
  rw [stepTo_get]
  by_cases hj : i = j
  · subst hj
    rw [List.getElem?_set_self (by rw [stepTo_len]; exact (List.getElem?_eq_some_iff.1 h).1), h]; simp
  · rw [List.getElem?_set_ne hj, stepTo_get]
    cases sts[j]? with
    | none => rfl
    | some y =>
      simp only [Option.map_some, Option.some.injEq]
      by_cases h1 : j < i
      · rw [if_pos h1, if_pos (by omega)]
      · rw [if_neg h1, if_neg (by omega)]
theorem stepTo_all (g : Nat → DSt → DSt) (sts : List DSt) : stepTo g sts.length sts = sts.mapIdx g := by
  apply List.ext_getElem?
  intro j
  rw [stepTo_get, List.getElem?_mapIdx]
  cases h : sts[j]? with
  | none => rfl
  | some y =>
    have := (List.getElem?_eq_some_iff.1 h).1
    simp [this]

def aliveL (sts : List DSt) : List Bool := sts.map (fun st => !st.dead)
set_option maxRecDepth 100000 in
theorem aalive_any (h : Hid (ArrB U w a v Fs ps s sts)) (hk : 0 < sts.length) (hk2 : sts.length < 1000000) :
    Calls Try.prog 31 #[.pointer (some ⟨a, 0, none⟩)] w fun e w' => e = .returned (.int .i64 (cnt (aliveL sts))) ∧ Below w.heap.size w w' := by
  go_enter Try.func31, Try.ntmps31
  go_wp2_with fail
  refine (an_any h hk).mono ?_
  rintro e w1 ⟨rfl, t1⟩
  have T1 := Lib.hid t1
  clear t1
  go_wp2_with fail
  go_loopw [3, 7] (fun vn vi wr => ∃ i : Nat, i ≤ sts.length ∧ vn = .int .i64 (cnt (aliveL (sts.take i))) ∧ vi = .int .i64 i ∧ Hid (Below w.heap.size w wr)) (fun _ vi _ => sts.length - (intOf vi).toNat)
  case atStart => exact ⟨0, Nat.zero_le _, rfl, rfl, T1⟩
  case round =>
    obtain ⟨i, hi, rfl, rfl, hb⟩ := hrel
    by_cases hlt : i < sts.length
    · obtain ⟨st, hst⟩ : ∃ st, sts[i]? = some st := ⟨_, List.getElem?_eq_getElem hlt⟩
      have h1 : (i : Int) < (sts.length : Int) := by omega
      have h2 : (0 : Int) ≤ (i : Int) := Int.natCast_nonneg _
      have h3 : (i : Int) < 1000000 := by omega
      have htk : aliveL (sts.take (i + 1)) = aliveL (sts.take i) ++ [!st.dead] := by
        rw [List.take_succ_eq_append_getElem hlt, (List.getElem?_eq_some_iff.1 hst).2]; simp [aliveL]
      have hc := cnt_snoc (aliveL (sts.take i)) (!st.dead)
      rw [← htk] at hc
      have hcl := cnt_le (aliveL (sts.take i))
      have hcl2 : (aliveL (sts.take i)).length ≤ i := by simp [aliveL]; omega
      have hw : ∀ k : Nat, k ≤ 1 → IntKind.i64.wrap ((cnt (aliveL (sts.take i)) : Int) + (k : Int)) = (cnt (aliveL (sts.take i)) : Int) + (k : Int) := fun k hk => by rw [IntKind.wrap_i64]; omega
      have hc1 := cnt_le [!st.dead]
      have hw := hw (cnt [!st.dead]) hc1
      have hc2 : cnt (aliveL (sts.take (i + 1))) = cnt (aliveL (sts.take i)) + cnt [!st.dead] := by rw [hc]; cases st.dead <;> rfl
      have HC := Lib.hid hc2
      clear hc htk hcl hcl2 hc1 hc2
      go_wp2_with fail
      refine (adead_in (Lib.hid (h.out.below hb.out)) i hst).mono ?_
      rintro e w2 ⟨rfl, t2⟩
      have T2 := Lib.hid (below_then t2 hb.out)
      have B2 := BoxAt.new w2 #[.bool (!st.dead)] 4
      have R2 := Lib.hid (BoxAt.bools (xs := [!st.dead]) (S := fun _ => True) (by simpa using B2) trivial)
      clear t2 B2
      go_wp2_with fail
      refine (counted_any (m := 1) (c := 1) R2 (by omega)).mono ?_
      rintro e w3 ⟨rfl, t3⟩
      have T3 := Lib.hid (below_then t3 (T2.out.alloc T2.out.size _))
      clear t3
      go_wp2_with fail
      refine ⟨⟨i + 1, by omega, ?_, by go_num, T3⟩, by simp [intOf]; omega⟩
      rw [HC.out]; rfl
    · obtain rfl : i = sts.length := by omega
      have h1 : ¬ (sts.length : Int) < (sts.length : Int) := by omega
      have hx : sts.take sts.length = sts := List.take_length
      go_wp2_with fail
      go_ret
      exact ⟨rfl, hb.out⟩
end
end Go.Proofs.Ytolmpopjonkfgaa
