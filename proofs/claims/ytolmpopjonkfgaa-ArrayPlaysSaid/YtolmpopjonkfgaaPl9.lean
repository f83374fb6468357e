/-
  The document's drives side by side: Read, Write, Fail, Replace, Rot; how many aren't gone.
  The document's drives side by side: Flush, Crash, PutRow.
  The document's drives side by side: PutRow.
  The document's drives side by side: Row.
-/
import Derived.Test.YtolmpopjonkfgaaPl8
set_option linter.unusedSimpArgs false
set_option linter.unusedVariables false
namespace Go.Proofs.Ytolmpopjonkfgaa
open Go.RowKit Go.Cib
attribute [local go_sem] cell_set Later.cell Later.frozen Grw.cell Grw.frozen

section
variable {U : Nat → Prop} {w : World} {a s : Nat} {v : Value} {Fs : Nat → Nat → Prop} {ps : List Nat} {sts : List RSt}
theorem has_in {d k : Nat} (hd : d < k) : decide (0 ≤ (d : Int) ∧ (d : Int) < (k : Int)) = true := by simp; omega
theorem has_out {d : Int} {k : Nat} (hd : ¬ (0 ≤ d ∧ d < k)) : decide (0 ≤ d ∧ d < (k : Int)) = false := by simpa using hd
set_option maxRecDepth 100000 in
theorem raread_in (h : Hid (RArrB U w a v Fs ps s sts)) (d : Nat) {rs : RSt} (hst : sts[d]? = some rs) (hg : RGood rs) (z : Int) :
    Calls Try.prog 86 #[.pointer (some ⟨a, 0, none⟩), .int .i64 d, .int .i64 z] w fun e w' => ReadE (fun _ => True) w (readyE rs.gone s z) (rreadL rs s z) e w' := by
  obtain ⟨p, hp, hD, hd⟩ := h.out.p_at hst
  have e1 := has_in hd
  obtain ⟨gb, cc, rfl⟩ := rarr_form h.out (by omega)
  have h0 : (0 : Int) ≤ (d : Int) := Int.natCast_nonneg _
  have h1 : (d : Int) < (sts.length : Int) := by omega
  have HD := Lib.hid hD
  clear hD
  go_enter Try.func86, Try.ntmps86
  go_wp2_with fail
  refine (rahas_any h d).mono ?_
  rintro e w1 ⟨rfl, t1⟩
  rw [e1]
  have c0 := rarr_c0 (h.out.below t1)
  have cg := rarr_cg (h.out.below t1) hp
  have T1 := Lib.hid t1
  clear t1 e1
  go_wp2_with fail
  refine (rread_whole (Lib.hid (HD.out.below T1.out)) hg z).mono ?_
  rintro e w2 ⟨A, m, c, rfl, r2, t2⟩
  have R2 := Lib.hid r2
  clear r2
  go_wp2_with fail
  go_ret2
  exact ⟨A, m, c, rfl, R2.out, T1.out.trans (t2.mono T1.out.size)⟩
set_option maxRecDepth 100000 in
theorem raread_out (h : Hid (RArrB U w a v Fs ps s sts)) (d : Int) (hd : ¬ (0 ≤ d ∧ d < sts.length)) (z : Int) :
    Calls Try.prog 86 #[.pointer (some ⟨a, 0, none⟩), .int .i64 d, .int .i64 z] w fun e w' => e = .returned (.tuple #[.slice none 0 0, .int .i64 2]) ∧ Below w.heap.size w w' := by
  have e1 := has_out hd
  clear hd
  go_enter Try.func86, Try.ntmps86
  go_wp2_with fail
  refine (rahas_any h d).mono ?_
  rintro e w1 ⟨rfl, t1⟩
  rw [e1]
  clear e1
  go_wp2_with fail
  go_ret2
  exact ⟨rfl, t1⟩
set_option maxRecDepth 100000 in
theorem rawrite_in (h : Hid (RArrB U w a v Fs ps s sts)) (d : Nat) {rs : RSt} (hst : sts[d]? = some rs) (hg : RGood rs) (z : Int) {S : Nat → Prop} {A : Option Addr} {m c : Nat} {bs : List Int} (hb : Hid (RdL U8R 1 S w A m bs)) :
    Calls Try.prog 79 #[.pointer (some ⟨a, 0, none⟩), .int .i64 d, .int .i64 z, .slice A m c] w fun e w' => e = .returned (.int .i64 (writeE rs.gone s z m)) ∧ RAUpd U w w' a s (sts.set d (wrR s rs z bs)) := by
  obtain ⟨p, hp, hD, hd⟩ := h.out.p_at hst
  have e1 := has_in hd
  obtain ⟨gb, cc, rfl⟩ := rarr_form h.out (by omega)
  have h0 : (0 : Int) ≤ (d : Int) := Int.natCast_nonneg _
  have h1 : (d : Int) < (sts.length : Int) := by omega
  have HD := Lib.hid hD
  clear hD
  go_enter Try.func79, Try.ntmps79
  go_wp2_with fail
  refine (rahas_any h d).mono ?_
  rintro e w1 ⟨rfl, t1⟩
  rw [e1]
  have c0 := rarr_c0 (h.out.below t1)
  have cg := rarr_cg (h.out.below t1) hp
  have T1 := Lib.hid t1
  clear t1 e1
  go_wp2_with fail
  refine (rwrite_exact (Lib.hid (HD.out.below T1.out)) z (Lib.hid (hb.out.below U8R.stable T1.out)) (by have := hg.few; omega)).mono ?_
  rintro e w2 ⟨rfl, u2⟩
  obtain rfl : bs.length = m := hb.out.1
  have U2 := Lib.hid (show RUpd (Fs d) w1 w2 p s (wrR s rs z bs) from u2)
  clear u2
  go_wp2_with fail
  go_ret
  exact ⟨rfl, h.out.upd2 T1.out hp U2.out⟩
set_option maxRecDepth 100000 in
theorem rawrite_out (h : Hid (RArrB U w a v Fs ps s sts)) (d : Int) (hd : ¬ (0 ≤ d ∧ d < sts.length)) (z : Int) (A : Option Addr) (m c : Nat) :
    Calls Try.prog 79 #[.pointer (some ⟨a, 0, none⟩), .int .i64 d, .int .i64 z, .slice A m c] w fun e w' => e = .returned (.int .i64 2) ∧ Below w.heap.size w w' := by
  have e1 := has_out hd
  clear hd
  go_enter Try.func79, Try.ntmps79
  go_wp2_with fail
  refine (rahas_any h d).mono ?_
  rintro e w1 ⟨rfl, t1⟩
  rw [e1]
  clear e1
  go_wp2_with fail
  go_ret
  exact ⟨rfl, t1⟩
set_option maxRecDepth 100000 in
theorem rafail_in (h : Hid (RArrB U w a v Fs ps s sts)) (d : Nat) {rs : RSt} (hst : sts[d]? = some rs) (hg : RGood rs) :
    Calls Try.prog 82 #[.pointer (some ⟨a, 0, none⟩), .int .i64 d] w fun e w' => e = .returned (.int .i64 0) ∧ RAUpd U w w' a s (sts.set d ⟨[], [], true⟩) := by
  obtain ⟨p, hp, hD, hd⟩ := h.out.p_at hst
  have e1 := has_in hd
  obtain ⟨gb, cc, rfl⟩ := rarr_form h.out (by omega)
  have h0 : (0 : Int) ≤ (d : Int) := Int.natCast_nonneg _
  have h1 : (d : Int) < (sts.length : Int) := by omega
  have HD := Lib.hid hD
  clear hD
  go_enter Try.func82, Try.ntmps82
  go_wp2_with fail
  refine (rahas_any h d).mono ?_
  rintro e w1 ⟨rfl, t1⟩
  rw [e1]
  have c0 := rarr_c0 (h.out.below t1)
  have cg := rarr_cg (h.out.below t1) hp
  have T1 := Lib.hid t1
  clear t1 e1
  go_wp2_with fail
  refine (rfail_any (Lib.hid (HD.out.below T1.out))).mono ?_
  rintro e w2 ⟨rfl, u2⟩
  have U2 := Lib.hid (show RUpd (Fs d) w1 w2 p s (⟨[], [], true⟩) from u2)
  clear u2
  go_wp2_with fail
  go_ret
  exact ⟨rfl, h.out.upd2 T1.out hp U2.out⟩
set_option maxRecDepth 100000 in
theorem rafail_out (h : Hid (RArrB U w a v Fs ps s sts)) (d : Int) (hd : ¬ (0 ≤ d ∧ d < sts.length)) (_z : Unit) :
    Calls Try.prog 82 #[.pointer (some ⟨a, 0, none⟩), .int .i64 d] w fun e w' => e = .returned (.int .i64 2) ∧ Below w.heap.size w w' := by
  have e1 := has_out hd
  clear hd
  go_enter Try.func82, Try.ntmps82
  go_wp2_with fail
  refine (rahas_any h d).mono ?_
  rintro e w1 ⟨rfl, t1⟩
  rw [e1]
  clear e1
  go_wp2_with fail
  go_ret
  exact ⟨rfl, t1⟩
set_option maxRecDepth 100000 in
theorem rarepl_in (h : Hid (RArrB U w a v Fs ps s sts)) (d : Nat) {rs : RSt} (hst : sts[d]? = some rs) (hg : RGood rs) :
    Calls Try.prog 83 #[.pointer (some ⟨a, 0, none⟩), .int .i64 d] w fun e w' => e = .returned (.int .i64 0) ∧ RAUpd U w w' a s (sts.set d ⟨[], [], false⟩) := by
  obtain ⟨p, hp, hD, hd⟩ := h.out.p_at hst
  have e1 := has_in hd
  obtain ⟨gb, cc, rfl⟩ := rarr_form h.out (by omega)
  have h0 : (0 : Int) ≤ (d : Int) := Int.natCast_nonneg _
  have h1 : (d : Int) < (sts.length : Int) := by omega
  have HD := Lib.hid hD
  clear hD
  go_enter Try.func83, Try.ntmps83
  go_wp2_with fail
  refine (rahas_any h d).mono ?_
  rintro e w1 ⟨rfl, t1⟩
  rw [e1]
  have c0 := rarr_c0 (h.out.below t1)
  have cg := rarr_cg (h.out.below t1) hp
  have T1 := Lib.hid t1
  clear t1 e1
  go_wp2_with fail
  refine (rreplace_any (Lib.hid (HD.out.below T1.out))).mono ?_
  rintro e w2 ⟨rfl, u2⟩
  have U2 := Lib.hid (show RUpd (Fs d) w1 w2 p s (⟨[], [], false⟩) from u2)
  clear u2
  go_wp2_with fail
  go_ret
  exact ⟨rfl, h.out.upd2 T1.out hp U2.out⟩
set_option maxRecDepth 100000 in
theorem rarepl_out (h : Hid (RArrB U w a v Fs ps s sts)) (d : Int) (hd : ¬ (0 ≤ d ∧ d < sts.length)) (_z : Unit) :
    Calls Try.prog 83 #[.pointer (some ⟨a, 0, none⟩), .int .i64 d] w fun e w' => e = .returned (.int .i64 2) ∧ Below w.heap.size w w' := by
  have e1 := has_out hd
  clear hd
  go_enter Try.func83, Try.ntmps83
  go_wp2_with fail
  refine (rahas_any h d).mono ?_
  rintro e w1 ⟨rfl, t1⟩
  rw [e1]
  clear e1
  go_wp2_with fail
  go_ret
  exact ⟨rfl, t1⟩
set_option maxRecDepth 100000 in
theorem rarot_in (h : Hid (RArrB U w a v Fs ps s sts)) (d : Nat) {rs : RSt} (hst : sts[d]? = some rs) (hg : RGood rs) (z off mask : Int) :
    Calls Try.prog 84 #[.pointer (some ⟨a, 0, none⟩), .int .i64 d, .int .i64 z, .int .i64 off, .int .u32 mask] w fun e w' => e = .returned (.int .i64 (rotC rs.gone s z off mask (badE rs.L z))) ∧ RAUpd U w w' a s (sts.set d (rtR s rs z off mask)) := by
  obtain ⟨p, hp, hD, hd⟩ := h.out.p_at hst
  have e1 := has_in hd
  obtain ⟨gb, cc, rfl⟩ := rarr_form h.out (by omega)
  have h0 : (0 : Int) ≤ (d : Int) := Int.natCast_nonneg _
  have h1 : (d : Int) < (sts.length : Int) := by omega
  have HD := Lib.hid hD
  clear hD
  go_enter Try.func84, Try.ntmps84
  go_wp2_with fail
  refine (rahas_any h d).mono ?_
  rintro e w1 ⟨rfl, t1⟩
  rw [e1]
  have c0 := rarr_c0 (h.out.below t1)
  have cg := rarr_cg (h.out.below t1) hp
  have T1 := Lib.hid t1
  clear t1 e1
  go_wp2_with fail
  refine (rrot_exact (Lib.hid (HD.out.below T1.out)) z off mask (by have := hg.few; omega)).mono ?_
  rintro e w2 ⟨rfl, u2⟩
  have U2 := Lib.hid (show RUpd (Fs d) w1 w2 p s (rtR s rs z off mask) from u2)
  clear u2
  go_wp2_with fail
  go_ret
  exact ⟨rfl, h.out.upd2 T1.out hp U2.out⟩
set_option maxRecDepth 100000 in
theorem rarot_out (h : Hid (RArrB U w a v Fs ps s sts)) (d : Int) (hd : ¬ (0 ≤ d ∧ d < sts.length)) (z off mask : Int) :
    Calls Try.prog 84 #[.pointer (some ⟨a, 0, none⟩), .int .i64 d, .int .i64 z, .int .i64 off, .int .u32 mask] w fun e w' => e = .returned (.int .i64 2) ∧ Below w.heap.size w w' := by
  have e1 := has_out hd
  clear hd
  go_enter Try.func84, Try.ntmps84
  go_wp2_with fail
  refine (rahas_any h d).mono ?_
  rintro e w1 ⟨rfl, t1⟩
  rw [e1]
  clear e1
  go_wp2_with fail
  go_ret
  exact ⟨rfl, t1⟩
def goneL (sts : List RSt) : List Bool := sts.map (fun rs => !rs.gone)
set_option maxRecDepth 100000 in
theorem raalive_any (h : Hid (RArrB U w a v Fs ps s sts)) (hk2 : sts.length < 1000000) :
    Calls Try.prog 48 #[.pointer (some ⟨a, 0, none⟩)] w fun e w' => e = .returned (.int .i64 (cnt (goneL sts))) ∧ Below w.heap.size w w' := by
  obtain ⟨A, c, hv, c0, hc⟩ := rarr_cells h.out
  have HC := Lib.hid hc
  clear hc
  go_enter Try.func48, Try.ntmps48
  go_wp2_with fail
  go_loopw [3, 4] (fun vn vi wr => ∃ i : Nat, i ≤ sts.length ∧ vn = .int .i64 (cnt (goneL (sts.take i))) ∧ vi = .int .i64 i ∧ wr = w) (fun _ vi _ => sts.length - (intOf vi).toNat)
  case atStart => exact ⟨0, Nat.zero_le _, rfl, rfl, rfl⟩
  case round =>
    obtain ⟨i, hi, rfl, rfl, rfl⟩ := hrel
    by_cases hlt : i < sts.length
    · obtain ⟨g, p, rs, rfl, hp, hst, cg, hD⟩ := HC.out i hlt
      obtain ⟨Sb, vL, vW, hB, _⟩ := hD
      have k3 := (ref_cells hB).2.2.2
      have h1 : (i : Int) < (sts.length : Int) := by omega
      have h2 : (0 : Int) ≤ (i : Int) := Int.natCast_nonneg _
      have h3 : (i : Int) < 1000000 := by omega
      have htk : goneL (sts.take (i + 1)) = goneL (sts.take i) ++ [!rs.gone] := by
        rw [List.take_succ_eq_append_getElem hlt, (List.getElem?_eq_some_iff.1 hst).2]; simp [goneL]
      have hcs := cnt_snoc (goneL (sts.take i)) (!rs.gone)
      rw [← htk] at hcs
      have hcl := cnt_le (goneL (sts.take i))
      have hcl2 : (goneL (sts.take i)).length ≤ i := by simp [goneL]; omega
      obtain ⟨C, hC⟩ : ∃ C, cnt (goneL (sts.take i)) = C := ⟨_, rfl⟩
      rw [hC] at hcs hcl ⊢
      have hw : IntKind.i64.wrap ((C : Int) + 1) = (C : Int) + 1 := by rw [IntKind.wrap_i64]; omega
      cases hg : rs.gone with
      | true =>
        rw [hg] at k3 hcs
        have HCS := Lib.hid hcs
        clear hcs htk hcl hcl2 hC hB hp hst hg
        go_wp2_with fail
        refine ⟨⟨i + 1, by omega, ?_, by go_num, trivial⟩, by simp [intOf]; omega⟩
        rw [HCS.out]; rfl
      | false =>
        rw [hg] at k3 hcs
        have HCS := Lib.hid hcs
        clear hcs htk hcl hcl2 hC hB hp hst hg
        go_wp2_with fail
        refine ⟨⟨i + 1, by omega, ?_, by go_num, trivial⟩, by simp [intOf]; omega⟩
        rw [HCS.out]; rfl
    · obtain rfl : i = sts.length := by omega
      have h1 : ¬ (sts.length : Int) < (sts.length : Int) := by omega
      go_wp2_with fail
      go_ret
      exact ⟨rfl, Below.refl _ _⟩
end
end Go.Proofs.Ytolmpopjonkfgaa

set_option linter.unusedSimpArgs false
set_option linter.unusedVariables false
namespace Go.Proofs.Ytolmpopjonkfgaa
open Go.RowKit Go.Cib
attribute [local go_sem] cell_set Later.cell Later.frozen Grw.cell Grw.frozen

def rstepTo (g : Nat → RSt → RSt) (i : Nat) (sts : List RSt) : List RSt := sts.mapIdx (fun j st => if j < i then g j st else st)
theorem rstepTo_get (g : Nat → RSt → RSt) (i : Nat) (sts : List RSt) (j : Nat) : (rstepTo g i sts)[j]? = (sts[j]?).map (fun st => if j < i then g j st else st) := by simp [rstepTo]
theorem rstepTo_len (g : Nat → RSt → RSt) (i : Nat) (sts : List RSt) : (rstepTo g i sts).length = sts.length := by simp [rstepTo]
theorem rstepTo_zero (g : Nat → RSt → RSt) (sts : List RSt) : rstepTo g 0 sts = sts := by
  apply List.ext_getElem?
  intro j
  rw [rstepTo_get]
  cases sts[j]? <;> simp
theorem rstepTo_at (g : Nat → RSt → RSt) (i : Nat) (sts : List RSt) {st : RSt} (h : sts[i]? = some st) : (rstepTo g i sts)[i]? = some st := by rw [rstepTo_get, h]; simp
theorem rstepTo_succ (g : Nat → RSt → RSt) (i : Nat) (sts : List RSt) {st : RSt} (h : sts[i]? = some st) : (rstepTo g i sts).set i (g i st) = rstepTo g (i + 1) sts := by
  apply List.ext_getElem?
  intro j
  rw [rstepTo_get]
  by_cases hj : i = j
  · subst hj
    rw [List.getElem?_set_self (by rw [rstepTo_len]; exact (List.getElem?_eq_some_iff.1 h).1), h]; simp
  · rw [List.getElem?_set_ne hj, rstepTo_get]
    cases sts[j]? with
    | none => rfl
    | some y =>
      simp only [Option.map_some, Option.some.injEq]
      by_cases h1 : j < i
      · rw [if_pos h1, if_pos (by omega)]
      · rw [if_neg h1, if_neg (by omega)]
theorem rstepTo_all (g : Nat → RSt → RSt) (sts : List RSt) : rstepTo g sts.length sts = sts.mapIdx g := by
  apply List.ext_getElem?
  intro j
  rw [rstepTo_get, List.getElem?_mapIdx]
  cases h : sts[j]? with
  | none => rfl
  | some y =>
    have := (List.getElem?_eq_some_iff.1 h).1
    simp [this]

theorem take_mapIdx_succR (f : Nat → RSt → Bool) (i : Nat) (sts : List RSt) {st : RSt} (h : sts[i]? = some st) : (sts.mapIdx f).take (i + 1) = (sts.mapIdx f).take i ++ [f i st] := by
  have hl := (List.getElem?_eq_some_iff.1 h).1
  have h2 : (sts.mapIdx f)[i]? = some (f i st) := by rw [List.getElem?_mapIdx, h]; rfl
  rw [List.take_succ_eq_append_getElem (by simpa using hl), (List.getElem?_eq_some_iff.1 h2).2]
theorem cnt_restR (f : Nat → RSt → Bool) (q : Nat) : ∀ (sts : List RSt) , (∀ d st, q ≤ d → f d st = false) → cnt ((sts.mapIdx f).take q) = cnt (sts.mapIdx f) := by
  intro sts hf
  have h1 : sts.mapIdx f = (sts.mapIdx f).take q ++ (sts.mapIdx f).drop q := (List.take_append_drop _ _).symm
  have h2 : ∀ x ∈ (sts.mapIdx f).drop q, x = false := by
    intro x hx
    obtain ⟨j, hj, rfl⟩ := List.mem_iff_getElem.1 hx
    rw [List.getElem_drop, List.getElem_mapIdx]
    exact hf _ _ (by omega)
  have h3 : ((sts.mapIdx f).drop q).count true = 0 := List.count_eq_zero.2 (fun hm => by cases h2 _ hm)
  unfold cnt
  conv => rhs; rw [h1, List.count_append, h3]
  omega
theorem rstepTo_rest (g : Nat → RSt → RSt) (q : Nat) (sts : List RSt) (hg : ∀ d st, q ≤ d → g d st = st) : rstepTo g q sts = sts.mapIdx g := by
  apply List.ext_getElem?
  intro j
  rw [rstepTo_get, List.getElem?_mapIdx]
  cases sts[j]? with
  | none => rfl
  | some y =>
    simp only [Option.map_some, Option.some.injEq]
    by_cases h : j < q
    · rw [if_pos h]
    · rw [if_neg h, hg j y (by omega)]

section
variable {U : Nat → Prop} {w : World} {a s : Nat} {v : Value} {Fs : Nat → Nat → Prop} {ps : List Nat} {sts : List RSt}
set_option maxRecDepth 100000 in
set_option maxHeartbeats 4000000 in
theorem raflush_any {sts : List RSt} (h : Hid (RArrAt U w a s sts)) (hk : 0 < sts.length) (hk2 : sts.length ≤ 600) (hg : Hid (∀ rs ∈ sts, RGood rs)) :
    Calls Try.prog 80 #[.pointer (some ⟨a, 0, none⟩)] w fun e w' => e = .returned (.int .i64 (cnt (goneL sts))) ∧ RAUpd U w w' a s (sts.map flR) := by
  obtain ⟨v, Fs, ps, hB⟩ := h.out
  obtain ⟨gb, cc, rfl⟩ := rarr_form hB hk
  have HA0 : Hid (RArrB U w a (.slice (some ⟨gb, 0, none⟩) sts.length cc) Fs ps s (rstepTo (fun _ => flR) 0 sts)) := Lib.hid (by rw [rstepTo_zero]; exact hB)
  clear hB
  go_enter Try.func80, Try.ntmps80
  go_wp2_with fail
  go_loopw [3, 4] (fun vn vi wr => ∃ (i : Nat) (U' : Nat → Prop) (Fs' : Nat → Nat → Prop), i ≤ sts.length ∧ vn = .int .i64 (cnt (goneL (sts.take i))) ∧ vi = .int .i64 i ∧ Hid (RArrB U' wr a (.slice (some ⟨gb, 0, none⟩) sts.length cc) Fs' ps s (rstepTo (fun _ => flR) i sts)) ∧ Hid (∀ k, U' k → k < w.heap.size → U k) ∧ Hid (Keep U w wr)) (fun _ vi _ => sts.length - (intOf vi).toNat)
  case atStart => exact ⟨0, U, Fs, Nat.zero_le _, rfl, rfl, HA0, Lib.hid (fun _ h _ => h), Lib.hid (Keep.refl _ _)⟩
  case round =>
    clear HA0
    obtain ⟨wo, rfl⟩ : ∃ wo, wo = wr := ⟨_, rfl⟩
    obtain ⟨i, U', Fs', hi, rfl, rfl, A, hU, K⟩ := hrel
    have c0 := rarr_c0 A.out
    by_cases hlt : i < sts.length
    · obtain ⟨rs, hst⟩ : ∃ rs, sts[i]? = some rs := ⟨_, List.getElem?_eq_getElem hlt⟩
      obtain ⟨p, hp, hD, _⟩ := A.out.p_at (rstepTo_at (fun _ => flR) i sts hst)
      have hgd := hg.out rs (List.mem_of_getElem? hst)
      have cg := rarr_cg A.out hp
      have h1 : (i : Int) < (sts.length : Int) := by omega
      have h2 : (0 : Int) ≤ (i : Int) := Int.natCast_nonneg _
      have h3 : (i : Int) < 600 := by omega
      have htk : goneL (sts.take (i + 1)) = goneL (sts.take i) ++ [!rs.gone] := by
        rw [List.take_succ_eq_append_getElem hlt, (List.getElem?_eq_some_iff.1 hst).2]; simp [goneL]
      have hcs := cnt_snoc (goneL (sts.take i)) (!rs.gone)
      rw [← htk] at hcs
      have hcl := cnt_le (goneL (sts.take i))
      have hcl2 : (goneL (sts.take i)).length ≤ i := by simp [goneL]; omega
      obtain ⟨C, hC⟩ : ∃ C, cnt (goneL (sts.take i)) = C := ⟨_, rfl⟩
      rw [hC] at hcs hcl ⊢
      have hw : IntKind.i64.wrap ((C : Int) + 1) = (C : Int) + 1 := by rw [IntKind.wrap_i64]; omega
      have HD := Lib.hid hD
      have HP := Lib.hid hp
      have HST := Lib.hid hst
      have hfl := rflush_exact HD hgd.few
      have hsz := K.out.size
      cases hgn : rs.gone with
      | true =>
        rw [hgn] at hcs hfl
        have HCS := Lib.hid hcs
        have HG := Lib.hid hgn
        clear hcs htk hcl hcl2 hC hD hp hst hgn
        go_wp2_with fail
        refine hfl.mono ?_
        rintro e w3 ⟨rfl, u3⟩
        obtain ⟨U2, Fs2, A2, hU2, K2⟩ := A.out.upd1 HP.out (st' := flR rs) (by unfold flR; rw [HG.out]; exact u3)
        rw [rstepTo_succ (fun _ => flR) _ _ HST.out] at A2
        have A3 := Lib.hid A2
        have hU3 := Lib.hid (fun k hu (hlt : k < w.heap.size) => hU.out k (hU2 k hu (by omega)) hlt)
        have K3 := Lib.hid (K.out.trans (G := U') K2 (fun k hu hlt => hU.out k hu hlt))
        clear A2 hU2 K2 u3 hfl c0 cg
        go_wp2_with fail
        refine ⟨⟨i + 1, U2, Fs2, by omega, ?_, by go_num, A3, hU3, K3⟩, by simp [intOf]; omega⟩
        rw [HCS.out]; rfl
      | false =>
        rw [hgn] at hcs hfl
        have HCS := Lib.hid hcs
        have HG := Lib.hid hgn
        clear hcs htk hcl hcl2 hC hD hp hst hgn
        go_wp2_with fail
        refine hfl.mono ?_
        rintro e w3 ⟨rfl, u3⟩
        obtain ⟨U2, Fs2, A2, hU2, K2⟩ := A.out.upd1 HP.out (st' := flR rs) (by unfold flR; rw [HG.out]; exact u3)
        rw [rstepTo_succ (fun _ => flR) _ _ HST.out] at A2
        have A3 := Lib.hid A2
        have hU3 := Lib.hid (fun k hu (hlt : k < w.heap.size) => hU.out k (hU2 k hu (by omega)) hlt)
        have K3 := Lib.hid (K.out.trans (G := U') K2 (fun k hu hlt => hU.out k hu hlt))
        clear A2 hU2 K2 u3 hfl c0 cg
        go_wp2_with fail
        refine ⟨⟨i + 1, U2, Fs2, by omega, ?_, by go_num, A3, hU3, K3⟩, by simp [intOf]; omega⟩
        rw [HCS.out]; rfl
    · obtain rfl : i = sts.length := by omega
      have h1 : ¬ (sts.length : Int) < (sts.length : Int) := by omega
      go_wp2_with fail
      go_ret
      rw [rstepTo_all] at A
      have e : sts.mapIdx (fun _ => flR) = sts.map flR := by
        apply List.ext_getElem?
        intro j
        rw [List.getElem?_mapIdx, List.getElem?_map]
      rw [e] at A
      exact ⟨rfl, U', ⟨_, Fs', ps, A.out⟩, hU.out, K.out⟩

def crR (ks : List (List Bool)) (d : Nat) (rs : RSt) : RSt := { rs with L := rs.L ++ keptE (keepOf (kAt ks d)) 0 rs.wait, wait := [] }
set_option maxRecDepth 100000 in
set_option maxHeartbeats 4000000 in
theorem racrash_any {sts : List RSt} (h : Hid (RArrAt U w a s sts)) (hk : 0 < sts.length) (hk2 : sts.length ≤ 600) (hg : Hid (∀ rs ∈ sts, RGood rs)) {S : Nat → Prop} {A : Option Addr} {m c : Nat} {ks : List (List Bool)} (R : Hid (RdL BoolsR 1 S w A m ks)) (hS : ∀ b, S b → ¬ U b ∧ b < w.heap.size) :
    Calls Try.prog 81 #[.pointer (some ⟨a, 0, none⟩), .slice A m c] w fun e w' => e = .returned (.tuple #[]) ∧ RAUpd U w w' a s (sts.mapIdx (crR ks)) := by
  obtain ⟨v, Fs, ps, hB⟩ := h.out
  obtain ⟨gb, cc, rfl⟩ := rarr_form hB hk
  have HA0 : Hid (RArrB U w a (.slice (some ⟨gb, 0, none⟩) sts.length cc) Fs ps s (rstepTo (crR ks) 0 sts)) := Lib.hid (by rw [rstepTo_zero]; exact hB)
  have HS := Lib.hid hS
  clear hB hS
  go_enter Try.func81, Try.ntmps81
  go_wp2_with fail
  go_loopw [4] (fun vi wr => ∃ (i : Nat) (U' : Nat → Prop) (Fs' : Nat → Nat → Prop), i ≤ sts.length ∧ vi = .int .i64 i ∧ Hid (RArrB U' wr a (.slice (some ⟨gb, 0, none⟩) sts.length cc) Fs' ps s (rstepTo (crR ks) i sts)) ∧ Hid (∀ k, U' k → k < w.heap.size → U k) ∧ Hid (Keep U w wr)) (fun vi _ => sts.length - (intOf vi).toNat)
  case atStart => exact ⟨0, U, Fs, Nat.zero_le _, rfl, HA0, Lib.hid (fun _ h _ => h), Lib.hid (Keep.refl _ _)⟩
  case round =>
    clear HA0
    obtain ⟨wo, rfl⟩ : ∃ wo, wo = wr := ⟨_, rfl⟩
    obtain ⟨i, U', Fs', hi, rfl, A, hU, K⟩ := hrel
    have c0 := rarr_c0 A.out
    by_cases hlt : i < sts.length
    · obtain ⟨rs, hst⟩ : ∃ rs, sts[i]? = some rs := ⟨_, List.getElem?_eq_getElem hlt⟩
      obtain ⟨p, hp, hD, _⟩ := A.out.p_at (rstepTo_at (crR ks) i sts hst)
      have hgd := hg.out rs (List.mem_of_getElem? hst)
      have cg := rarr_cg A.out hp
      have h1 : (i : Int) < (sts.length : Int) := by omega
      have h2 : (0 : Int) ≤ (i : Int) := Int.natCast_nonneg _
      have h3 : (i : Int) < 600 := by omega
      have HP := Lib.hid hp
      have HST := Lib.hid hst
      have hsz := K.out.size
      have RK := R.out.keep BoolsR.stable K.out (fun b hb => (HS.out b hb).1)
      by_cases him : i < m
      · obtain ⟨b, o, xs, A', m', c', rfl, hx, y0, hr⟩ := bools_at RK him
        obtain ⟨_, _, eA, hSb, hbl⟩ := RK.addr him
        simp only [Option.some.injEq, Addr.mk.injEq, and_true] at eA
        obtain ⟨rfl, rfl⟩ := eA
        have h4 : (i : Int) < (m : Int) := by omega
        have hxk : kAt ks i = xs := by simp [kAt, List.getD, hx]
        have HD := Lib.hid (hD.below (Below.refl _ _).drew)
        have hkr := hr.below BoolR.stable (Below.refl _ _).drew
        clear hD hp hst RK hx
        go_wp2_with fail
        refine wp_region_held_drew (S := fun w' => w'.cell? ⟨a, 0, none⟩ = some (.slice (some ⟨gb, 0, none⟩) sts.length cc) ∧ w'.cell? ⟨gb, i, none⟩ = some (.pointer (some ⟨p, 0, none⟩)) ∧ w'.cell? ⟨b, o + i, none⟩ = some (.slice A' m' c')) (by kernel_rfl) (by first | exact ⟨c0, cg, y0⟩ | exact ⟨c0', cg', y0'⟩) (fun hHeld => ?_)
        refine wpAnyH_take (i := 0) (v := ?_) rfl (by kernel_rfl) (by kernel_rfl) (by kernel_rfl) (fun _ _ _ h => h) (Or.inl ⟨by rfl, ?_⟩) (by assumption) ?_
        rotate_left
        · (intro wq hSw; (try dsimp only at hSw); (try simp only [List.getElem_toArray, List.getElem_cons_succ, List.getElem_cons_zero]); go_simp); try with_reducible rfl
        try simp only [List.getElem_toArray, List.getElem_cons_succ, List.getElem_cons_zero, Act.put, List.setIfInBounds_toArray, List.set_cons_zero, List.set_cons_succ]
        refine wpAnyH_take (i := 1) (v := ?_) rfl (by kernel_rfl) (by kernel_rfl) (by kernel_rfl) (fun _ _ _ h => h) (Or.inl ⟨by rfl, ?_⟩) (by assumption) ?_
        rotate_left
        · (intro wq hSw; (try dsimp only at hSw); (try simp only [List.getElem_toArray, List.getElem_cons_succ, List.getElem_cons_zero]); go_simp); try with_reducible rfl
        try simp only [List.getElem_toArray, List.getElem_cons_succ, List.getElem_cons_zero, Act.put, List.setIfInBounds_toArray, List.set_cons_zero, List.set_cons_succ]
        refine wpAnyH_take (i := 2) (v := ?_) rfl (by kernel_rfl) (by kernel_rfl) (by kernel_rfl) (fun _ _ _ h => h) (Or.inl ⟨by rfl, ?_⟩) (by assumption) ?_
        rotate_left
        · (intro wq hSw; (try dsimp only at hSw); (try simp only [List.getElem_toArray, List.getElem_cons_succ, List.getElem_cons_zero]); go_simp); try with_reducible rfl
        try simp only [List.getElem_toArray, List.getElem_cons_succ, List.getElem_cons_zero, Act.put, List.setIfInBounds_toArray, List.set_cons_zero, List.set_cons_succ]
        refine wpAnyH_take (i := 3) (v := ?_) rfl (by kernel_rfl) (by kernel_rfl) (by kernel_rfl) (fun _ _ _ h => h) (Or.inl ⟨by rfl, ?_⟩) (by assumption) ?_
        rotate_left
        · (intro wq hSw; (try dsimp only at hSw); (try simp only [List.getElem_toArray, List.getElem_cons_succ, List.getElem_cons_zero]); go_simp); try with_reducible rfl
        try simp only [List.getElem_toArray, List.getElem_cons_succ, List.getElem_cons_zero, Act.put, List.setIfInBounds_toArray, List.set_cons_zero, List.set_cons_succ]
        refine wpAnyH_take (i := 4) (v := ?_) rfl (by kernel_rfl) (by kernel_rfl) (by kernel_rfl) (fun _ _ _ h => h) (Or.inl ⟨by rfl, ?_⟩) (by assumption) ?_
        rotate_left
        · (intro wq hSw; (try dsimp only at hSw); (try simp only [List.getElem_toArray, List.getElem_cons_succ, List.getElem_cons_zero]); go_simp); try with_reducible rfl
        try simp only [List.getElem_toArray, List.getElem_cons_succ, List.getElem_cons_zero, Act.put, List.setIfInBounds_toArray, List.set_cons_zero, List.set_cons_succ]
        refine wpAnyH_take (i := 5) (v := ?_) rfl (by kernel_rfl) (by kernel_rfl) (by kernel_rfl) (fun _ _ _ h => h) (Or.inl ⟨by rfl, ?_⟩) (by assumption) ?_
        rotate_left
        · (intro wq hSw; (try dsimp only at hSw); (try simp only [List.getElem_toArray, List.getElem_cons_succ, List.getElem_cons_zero]); go_simp); try with_reducible rfl
        try simp only [List.getElem_toArray, List.getElem_cons_succ, List.getElem_cons_zero, Act.put, List.setIfInBounds_toArray, List.set_cons_zero, List.set_cons_succ]
        refine wpAnyH_take (i := 6) (v := ?_) rfl (by kernel_rfl) (by kernel_rfl) (by kernel_rfl) (fun _ _ _ h => h) (Or.inl ⟨by rfl, ?_⟩) (by assumption) ?_
        rotate_left
        · (intro wq hSw; (try dsimp only at hSw); (try simp only [List.getElem_toArray, List.getElem_cons_succ, List.getElem_cons_zero]); go_simp); try with_reducible rfl
        try simp only [List.getElem_toArray, List.getElem_cons_succ, List.getElem_cons_zero, Act.put, List.setIfInBounds_toArray, List.set_cons_zero, List.set_cons_succ]
        refine wpAnyH_take (i := 7) (v := ?_) rfl (by kernel_rfl) (by kernel_rfl) (by kernel_rfl) (fun _ _ _ h => h) (Or.inl ⟨by rfl, ?_⟩) (by assumption) ?_
        rotate_left
        · (intro wq hSw; (try dsimp only at hSw); (try simp only [List.getElem_toArray, List.getElem_cons_succ, List.getElem_cons_zero]); go_simp); try with_reducible rfl
        try simp only [List.getElem_toArray, List.getElem_cons_succ, List.getElem_cons_zero, Act.put, List.setIfInBounds_toArray, List.set_cons_zero, List.set_cons_succ]
        refine wpAnyH_take (i := 8) (v := ?_) rfl (by kernel_rfl) (by kernel_rfl) (by kernel_rfl) (fun _ _ _ h => h) (Or.inl ⟨by rfl, ?_⟩) (by assumption) ?_
        rotate_left
        · (intro wq hSw; (try dsimp only at hSw); (try simp only [List.getElem_toArray, List.getElem_cons_succ, List.getElem_cons_zero]); go_simp); try with_reducible rfl
        try simp only [List.getElem_toArray, List.getElem_cons_succ, List.getElem_cons_zero, Act.put, List.setIfInBounds_toArray, List.set_cons_zero, List.set_cons_succ]
        refine wpAnyH_take (i := 9) (v := ?_) rfl (by kernel_rfl) (by kernel_rfl) (by kernel_rfl) (fun _ _ _ h => h) (Or.inl ⟨by rfl, ?_⟩) (by assumption) ?_
        rotate_left
        · (intro wq hSw; (try dsimp only at hSw); (try simp only [List.getElem_toArray, List.getElem_cons_succ, List.getElem_cons_zero]); go_simp); try with_reducible rfl
        try simp only [List.getElem_toArray, List.getElem_cons_succ, List.getElem_cons_zero, Act.put, List.setIfInBounds_toArray, List.set_cons_zero, List.set_cons_succ]
        refine wpAnyH_take (i := 10) (v := ?_) rfl (by kernel_rfl) (by kernel_rfl) (by kernel_rfl) (fun _ _ _ h => h) (Or.inl ⟨by rfl, ?_⟩) (by assumption) ?_
        rotate_left
        · (intro wq hSw; (try dsimp only at hSw); (try simp only [List.getElem_toArray, List.getElem_cons_succ, List.getElem_cons_zero]); go_simp); try with_reducible rfl
        try simp only [List.getElem_toArray, List.getElem_cons_succ, List.getElem_cons_zero, Act.put, List.setIfInBounds_toArray, List.set_cons_zero, List.set_cons_succ]
        refine wpAnyH_ready (rs := [11]) (by kernel_rfl) (by simp) ?_
        refine AllReadyH.cons rfl (fun K hK => ?_) AllReadyH.nil
        try simp only [List.getElem_toArray, List.getElem_cons_succ, List.getElem_cons_zero]
        go_simp
        refine (rcrash_any HD (by have := hgd.few; omega) (Lib.hid hkr) (fun b' hb' hf => (HS.out b' hb').1 (hU.out b' (A.out.uf i b' hf) (HS.out b' hb').2))).mono ?_
        rintro e w4 ⟨rfl, u4⟩
        obtain ⟨U2, Fs2, A2, hU2, K2⟩ := (A.out.below (Below.refl _ _).drew).upd1 HP.out u4
        have c0' := rarr_c0 A2
        have cg' := rarr_cg A2 HP.out
        have y0' : w4.cell? ⟨b, o + i, none⟩ = some (.slice A' m' c') := (World.cell?_of_block (a := ⟨b, o + i, none⟩) (K2.block b hbl (fun hu => (HS.out b hSb).1 (hU.out b hu (HS.out b hSb).2)))).trans y0
        clear c0 cg y0
        try (go_wp2_with fail)
        refine hK.out _ _ (by first | exact ⟨c0, cg, y0⟩ | exact ⟨c0', cg', y0'⟩) (fun hHeld => ?_)
        clear hK K
        try simp only [List.getElem_toArray, List.getElem_cons_succ, List.getElem_cons_zero, Act.put, List.setIfInBounds_toArray, List.set_cons_zero, List.set_cons_succ]
        refine wpAnyH_done (by kernel_rfl) ?_ _
        go_wp2_with fail
        rw [← hxk] at A2
        have A3 := A2
        rw [show ({ rs with L := rs.L ++ keptE (keepOf (kAt ks i)) 0 rs.wait, wait := [] } : RSt) = crR ks i rs from rfl, rstepTo_succ _ _ _ HST.out] at A3
        exact ⟨⟨i + 1, U2, Fs2, by omega, by go_num, Lib.hid A3, Lib.hid (fun k hu hlt => hU.out k (hU2 k hu (by simp; omega)) hlt), Lib.hid ((K.out.trans (G := fun _ => False) (Keep.of_below (Below.refl _ _).drew) (fun _ h => h.elim)).trans (G := U') K2 (fun k hu hlt => hU.out k hu hlt))⟩, by simp [intOf]; omega⟩
      · have h4 : ¬ (i : Int) < (m : Int) := by omega
        have hxk : kAt ks i = [] := by simp [kAt, List.getD, List.getElem?_eq_none (show ks.length ≤ i by rw [R.out.1]; omega)]
        have HD := Lib.hid hD
        have hcr := rcrash_any HD (by have := hgd.few; omega) (S := fun _ => False) (A := none) (m := 0) (c := 0) (ks := []) (Lib.hid RdL.nil) (fun _ hb => hb.elim)
        clear hD hp hst RK
        go_wp2_with fail
        refine hcr.mono ?_
        rintro e w4 ⟨rfl, u4⟩
        rw [← hxk] at u4
        obtain ⟨U2, Fs2, A2, hU2, K2⟩ := A.out.upd1 HP.out u4
        rw [show ({ rs with L := rs.L ++ keptE (keepOf (kAt ks i)) 0 rs.wait, wait := [] } : RSt) = crR ks i rs from rfl, rstepTo_succ _ _ _ HST.out] at A2
        have A3 := Lib.hid A2
        have hU3 := Lib.hid (fun k hu (hlt : k < w.heap.size) => hU.out k (hU2 k hu (by omega)) hlt)
        have K3 := Lib.hid (K.out.trans (G := U') K2 (fun k hu hlt => hU.out k hu hlt))
        clear A2 hU2 K2 u4 hcr c0 cg
        go_wp2_with fail
        exact ⟨⟨i + 1, U2, Fs2, by omega, by go_num, A3, hU3, K3⟩, by simp [intOf]; omega⟩
    · obtain rfl : i = sts.length := by omega
      have h1 : ¬ (sts.length : Int) < (sts.length : Int) := by omega
      go_wp2_with fail
      go_end0
      rw [rstepTo_all] at A
      exact ⟨rfl, U', ⟨_, Fs', ps, A.out⟩, hU.out, K.out⟩
end
end Go.Proofs.Ytolmpopjonkfgaa

set_option linter.unusedSimpArgs false
set_option linter.unusedVariables false
namespace Go.Proofs.Ytolmpopjonkfgaa
open Go.RowKit Go.Cib
attribute [local go_sem] cell_set Later.cell Later.frozen Grw.cell Grw.frozen
attribute [local go_sem ↓] run_min_as run_max_as

def putRR (s : Nat) (z : Int) (rows : List (List Int)) (d : Nat) (rs : RSt) : RSt := if 0 < (rAt rows d).length then wrR s rs z (rAt rows d) else rs
def putOkR (s : Nat) (z : Int) (rows : List (List Int)) (d : Nat) (rs : RSt) : Bool := decide (0 < (rAt rows d).length) && (writeE rs.gone s z (rAt rows d).length == 0)
def PutER (U : Nat → Prop) (w : World) (a s : Nat) (z : Int) (rows : List (List Int)) (sts : List RSt) (e : Ending) (w' : World) : Prop := e = .returned (.int .i64 (cnt (sts.mapIdx (putOkR s z rows)))) ∧ RAUpd U w w' a s (sts.mapIdx (putRR s z rows))
section
variable {U : Nat → Prop} {w : World} {a s : Nat} {v : Value} {Fs : Nat → Nat → Prop} {ps : List Nat} {sts : List RSt}
set_option maxRecDepth 100000 in
set_option maxHeartbeats 8000000 in
theorem raput_any {sts : List RSt} (h : Hid (RArrAt U w a s sts)) (hk : 0 < sts.length) (hk2 : sts.length ≤ 600) (hg : Hid (∀ rs ∈ sts, RGood rs)) (z : Int) {S : Nat → Prop} {A : Option Addr} {m c : Nat} {rows : List (List Int)} (R : Hid (RdL BytesR 1 S w A m rows)) (hS : ∀ b, S b → ¬ U b ∧ b < w.heap.size) :
    Calls Try.prog 85 #[.pointer (some ⟨a, 0, none⟩), .int .i64 z, .slice A m c] w fun e w' => PutER U w a s z rows sts e w' := by
  obtain ⟨v, Fs, ps, hB⟩ := h.out
  obtain ⟨gb, cc, rfl⟩ := rarr_form hB hk
  have HA0 : Hid (RArrB U w a (.slice (some ⟨gb, 0, none⟩) sts.length cc) Fs ps s (rstepTo (putRR s z rows) 0 sts)) := Lib.hid (by rw [rstepTo_zero]; exact hB)
  have HS := Lib.hid hS
  clear hB hS
  obtain ⟨q, hqd⟩ : ∃ q, min sts.length m = q := ⟨_, rfl⟩
  have hq1 : q ≤ sts.length := by omega
  have hq2 : q ≤ m := by omega
  have hq3 : q = sts.length ∨ q = m := by omega
  clear hqd
  go_enter Try.func85, Try.ntmps85
  go_wp2_with fail
  go_loopw [7, 8] (fun vn vi wr => ∃ (i : Nat) (U' : Nat → Prop) (Fs' : Nat → Nat → Prop), i ≤ q ∧ vn = .int .i64 (cnt ((sts.mapIdx (putOkR s z rows)).take i)) ∧ vi = .int .i64 i ∧ Hid (RArrB U' wr a (.slice (some ⟨gb, 0, none⟩) sts.length cc) Fs' ps s (rstepTo (putRR s z rows) i sts)) ∧ Hid (∀ k, U' k → k < w.heap.size → U k) ∧ Hid (Keep U w wr)) (fun _ vi _ => q - (intOf vi).toNat)
  case atStart => exact ⟨0, U, Fs, Nat.zero_le _, rfl, rfl, HA0, Lib.hid (fun _ h _ => h), Lib.hid (Keep.refl _ _)⟩
  case round =>
    clear HA0
    obtain ⟨wo, rfl⟩ : ∃ wo, wo = wr := ⟨_, rfl⟩
    obtain ⟨i, U', Fs', hi, rfl, rfl, A, hU, K⟩ := hrel
    have c0 := rarr_c0 A.out
    by_cases hlt : i < q
    · obtain ⟨rs, hst⟩ : ∃ rs, sts[i]? = some rs := ⟨_, List.getElem?_eq_getElem (by omega)⟩
      obtain ⟨p, hp, hD, _⟩ := A.out.p_at (rstepTo_at (putRR s z rows) i sts hst)
      have hgd := hg.out rs (List.mem_of_getElem? hst)
      have cg := rarr_cg A.out hp
      have h1 : (i : Int) < (sts.length : Int) := by omega
      have h2 : (0 : Int) ≤ (i : Int) := Int.natCast_nonneg _
      have h3 : (i : Int) < 600 := by omega
      have h4 : (i : Int) < (m : Int) := by omega
      have HP := Lib.hid hp
      have HST := Lib.hid hst
      have hsz := K.out.size
      obtain ⟨b, o, x, A', m', c', rfl, hx, hbl, hSb, y0, hr⟩ := bytes_at (R.out.keep BytesR.stable K.out (fun b hb => (HS.out b hb).1)) (show i < m by omega)
      obtain rfl : x.length = m' := hr.1
      have hxr : rAt rows i = x := by simp [rAt, List.getD, hx]
      have hrd := hr.below U8R.stable (Below.refl _ _).drew
      have htk := take_mapIdx_succR (putOkR s z rows) i sts hst
      have hc := cnt_snoc ((sts.mapIdx (putOkR s z rows)).take i) (putOkR s z rows i rs)
      rw [← htk] at hc
      have hcl1 := cnt_le ((sts.mapIdx (putOkR s z rows)).take i)
      have hcl2 : ((sts.mapIdx (putOkR s z rows)).take i).length ≤ i := by simp; omega
      obtain ⟨C, hC⟩ : ∃ C, cnt ((sts.mapIdx (putOkR s z rows)).take i) = C := ⟨_, rfl⟩
      rw [hC] at hc hcl1 ⊢
      have hw : IntKind.i64.wrap ((C : Int) + 1) = (C : Int) + 1 := by rw [IntKind.wrap_i64]; omega
      have HD := Lib.hid (hD.below (Below.refl _ _).drew)
      clear hD hp hst htk hcl1 hcl2 hC hx hr
      by_cases h0 : 0 < x.length
      · have d0 : decide ((0 : Int) < (x.length : Int)) = true := decide_eq_true (by omega)
        have d1 : (0 : Int) < (x.length : Int) := by omega
        obtain ⟨E, hE⟩ : ∃ E, writeE rs.gone s z x.length = E := ⟨_, rfl⟩
        have HE := Lib.hid hE
        have hpk : putOkR s z rows i rs = (E == 0) := by unfold putOkR; rw [hxr, hE, decide_eq_true h0]; rfl
        have hpg : putRR s z rows i rs = wrR s rs z x := by unfold putRR; rw [hxr, if_pos h0]
        rw [hpk] at hc
        have HPG := Lib.hid hpg
        have HXR := Lib.hid hxr
        clear hE hpk hpg hxr
        by_cases hE0 : E = 0
        · have e0 : (E == 0) = true := by simpa using hE0
          rw [e0] at hc
          have HCC := Lib.hid hc
          clear hc hE0
          go_wp2_with fail
          refine wp_region_held_drew (S := fun w' => w'.cell? ⟨a, 0, none⟩ = some (.slice (some ⟨gb, 0, none⟩) sts.length cc) ∧ w'.cell? ⟨gb, i, none⟩ = some (.pointer (some ⟨p, 0, none⟩)) ∧ w'.cell? ⟨b, o + i, none⟩ = some (.slice A' x.length c')) (by kernel_rfl) (by first | exact ⟨c0, cg, y0⟩ | exact ⟨c0', cg', y0'⟩) (fun hHeld => ?_)
          refine wpAnyH_take (i := 0) (v := ?_) rfl (by kernel_rfl) (by kernel_rfl) (by kernel_rfl) (fun _ _ _ h => h) (Or.inl ⟨by rfl, ?_⟩) (by assumption) ?_
          rotate_left
          · (intro wq hSw; (try dsimp only at hSw); (try simp only [List.getElem_toArray, List.getElem_cons_succ, List.getElem_cons_zero]); go_simp); try with_reducible rfl
          try simp only [List.getElem_toArray, List.getElem_cons_succ, List.getElem_cons_zero, Act.put, List.setIfInBounds_toArray, List.set_cons_zero, List.set_cons_succ]
          refine wpAnyH_take (i := 1) (v := ?_) rfl (by kernel_rfl) (by kernel_rfl) (by kernel_rfl) (fun _ _ _ h => h) (Or.inl ⟨by rfl, ?_⟩) (by assumption) ?_
          rotate_left
          · (intro wq hSw; (try dsimp only at hSw); (try simp only [List.getElem_toArray, List.getElem_cons_succ, List.getElem_cons_zero]); go_simp); try with_reducible rfl
          try simp only [List.getElem_toArray, List.getElem_cons_succ, List.getElem_cons_zero, Act.put, List.setIfInBounds_toArray, List.set_cons_zero, List.set_cons_succ]
          refine wpAnyH_take (i := 2) (v := ?_) rfl (by kernel_rfl) (by kernel_rfl) (by kernel_rfl) (fun _ _ _ h => h) (Or.inl ⟨by rfl, ?_⟩) (by assumption) ?_
          rotate_left
          · (intro wq hSw; (try dsimp only at hSw); (try simp only [List.getElem_toArray, List.getElem_cons_succ, List.getElem_cons_zero]); go_simp); try with_reducible rfl
          try simp only [List.getElem_toArray, List.getElem_cons_succ, List.getElem_cons_zero, Act.put, List.setIfInBounds_toArray, List.set_cons_zero, List.set_cons_succ]
          refine wpAnyH_take (i := 3) (v := ?_) rfl (by kernel_rfl) (by kernel_rfl) (by kernel_rfl) (fun _ _ _ h => h) (Or.inl ⟨by rfl, ?_⟩) (by assumption) ?_
          rotate_left
          · (intro wq hSw; (try dsimp only at hSw); (try simp only [List.getElem_toArray, List.getElem_cons_succ, List.getElem_cons_zero]); go_simp); try with_reducible rfl
          try simp only [List.getElem_toArray, List.getElem_cons_succ, List.getElem_cons_zero, Act.put, List.setIfInBounds_toArray, List.set_cons_zero, List.set_cons_succ]
          refine wpAnyH_take (i := 4) (v := ?_) rfl (by kernel_rfl) (by kernel_rfl) (by kernel_rfl) (fun _ _ _ h => h) (Or.inl ⟨by rfl, ?_⟩) (by assumption) ?_
          rotate_left
          · (intro wq hSw; (try dsimp only at hSw); (try simp only [List.getElem_toArray, List.getElem_cons_succ, List.getElem_cons_zero]); go_simp); try with_reducible rfl
          try simp only [List.getElem_toArray, List.getElem_cons_succ, List.getElem_cons_zero, Act.put, List.setIfInBounds_toArray, List.set_cons_zero, List.set_cons_succ]
          refine wpAnyH_take (i := 5) (v := ?_) rfl (by kernel_rfl) (by kernel_rfl) (by kernel_rfl) (fun _ _ _ h => h) (Or.inl ⟨by rfl, ?_⟩) (by assumption) ?_
          rotate_left
          · (intro wq hSw; (try dsimp only at hSw); (try simp only [List.getElem_toArray, List.getElem_cons_succ, List.getElem_cons_zero]); go_simp); try with_reducible rfl
          try simp only [List.getElem_toArray, List.getElem_cons_succ, List.getElem_cons_zero, Act.put, List.setIfInBounds_toArray, List.set_cons_zero, List.set_cons_succ]
          refine wpAnyH_take (i := 6) (v := ?_) rfl (by kernel_rfl) (by kernel_rfl) (by kernel_rfl) (fun _ _ _ h => h) (Or.inl ⟨by rfl, ?_⟩) (by assumption) ?_
          rotate_left
          · (intro wq hSw; (try dsimp only at hSw); (try simp only [List.getElem_toArray, List.getElem_cons_succ, List.getElem_cons_zero]); go_simp); try with_reducible rfl
          try simp only [List.getElem_toArray, List.getElem_cons_succ, List.getElem_cons_zero, Act.put, List.setIfInBounds_toArray, List.set_cons_zero, List.set_cons_succ]
          refine wpAnyH_take (i := 7) (v := ?_) rfl (by kernel_rfl) (by kernel_rfl) (by kernel_rfl) (fun _ _ _ h => h) (Or.inl ⟨by rfl, ?_⟩) (by assumption) ?_
          rotate_left
          · (intro wq hSw; (try dsimp only at hSw); (try simp only [List.getElem_toArray, List.getElem_cons_succ, List.getElem_cons_zero]); go_simp); try with_reducible rfl
          try simp only [List.getElem_toArray, List.getElem_cons_succ, List.getElem_cons_zero, Act.put, List.setIfInBounds_toArray, List.set_cons_zero, List.set_cons_succ]
          refine wpAnyH_take (i := 8) (v := ?_) rfl (by kernel_rfl) (by kernel_rfl) (by kernel_rfl) (fun _ _ _ h => h) (Or.inl ⟨by rfl, ?_⟩) (by assumption) ?_
          rotate_left
          · (intro wq hSw; (try dsimp only at hSw); (try simp only [List.getElem_toArray, List.getElem_cons_succ, List.getElem_cons_zero]); go_simp); try with_reducible rfl
          try simp only [List.getElem_toArray, List.getElem_cons_succ, List.getElem_cons_zero, Act.put, List.setIfInBounds_toArray, List.set_cons_zero, List.set_cons_succ]
          refine wpAnyH_take (i := 9) (v := ?_) rfl (by kernel_rfl) (by kernel_rfl) (by kernel_rfl) (fun _ _ _ h => h) (Or.inl ⟨by rfl, ?_⟩) (by assumption) ?_
          rotate_left
          · (intro wq hSw; (try dsimp only at hSw); (try simp only [List.getElem_toArray, List.getElem_cons_succ, List.getElem_cons_zero]); go_simp); try with_reducible rfl
          try simp only [List.getElem_toArray, List.getElem_cons_succ, List.getElem_cons_zero, Act.put, List.setIfInBounds_toArray, List.set_cons_zero, List.set_cons_succ]
          refine wpAnyH_take (i := 10) (v := ?_) rfl (by kernel_rfl) (by kernel_rfl) (by kernel_rfl) (fun _ _ _ h => h) (Or.inl ⟨by rfl, ?_⟩) (by assumption) ?_
          rotate_left
          · (intro wq hSw; (try dsimp only at hSw); (try simp only [List.getElem_toArray, List.getElem_cons_succ, List.getElem_cons_zero]); go_simp); try with_reducible rfl
          try simp only [List.getElem_toArray, List.getElem_cons_succ, List.getElem_cons_zero, Act.put, List.setIfInBounds_toArray, List.set_cons_zero, List.set_cons_succ]
          refine wpAnyH_take (i := 11) (v := ?_) rfl (by kernel_rfl) (by kernel_rfl) (by kernel_rfl) (fun _ _ _ h => h) (Or.inl ⟨by rfl, ?_⟩) (by assumption) ?_
          rotate_left
          · (intro wq hSw; (try dsimp only at hSw); (try simp only [List.getElem_toArray, List.getElem_cons_succ, List.getElem_cons_zero]); go_simp); try with_reducible rfl
          try simp only [List.getElem_toArray, List.getElem_cons_succ, List.getElem_cons_zero, Act.put, List.setIfInBounds_toArray, List.set_cons_zero, List.set_cons_succ]
          refine wpAnyH_take (i := 12) (v := ?_) rfl (by kernel_rfl) (by kernel_rfl) (by kernel_rfl) (fun _ _ _ h => h) (Or.inl ⟨by rfl, ?_⟩) (by assumption) ?_
          rotate_left
          · (intro wq hSw; (try dsimp only at hSw); (try simp only [List.getElem_toArray, List.getElem_cons_succ, List.getElem_cons_zero]); go_simp); try with_reducible rfl
          try simp only [List.getElem_toArray, List.getElem_cons_succ, List.getElem_cons_zero, Act.put, List.setIfInBounds_toArray, List.set_cons_zero, List.set_cons_succ]
          refine wpAnyH_take (i := 13) (v := ?_) rfl (by kernel_rfl) (by kernel_rfl) (by kernel_rfl) (fun _ _ _ h => h) (Or.inl ⟨by rfl, ?_⟩) (by assumption) ?_
          rotate_left
          · (intro wq hSw; (try dsimp only at hSw); (try simp only [List.getElem_toArray, List.getElem_cons_succ, List.getElem_cons_zero]); go_simp); try with_reducible rfl
          try simp only [List.getElem_toArray, List.getElem_cons_succ, List.getElem_cons_zero, Act.put, List.setIfInBounds_toArray, List.set_cons_zero, List.set_cons_succ]
          refine wpAnyH_take (i := 14) (v := ?_) rfl (by kernel_rfl) (by kernel_rfl) (by kernel_rfl) (fun _ _ _ h => h) (Or.inl ⟨by rfl, ?_⟩) (by assumption) ?_
          rotate_left
          · (intro wq hSw; (try dsimp only at hSw); (try simp only [List.getElem_toArray, List.getElem_cons_succ, List.getElem_cons_zero]); go_simp); try with_reducible rfl
          try simp only [List.getElem_toArray, List.getElem_cons_succ, List.getElem_cons_zero, Act.put, List.setIfInBounds_toArray, List.set_cons_zero, List.set_cons_succ]
          refine wpAnyH_take (i := 15) (v := ?_) rfl (by kernel_rfl) (by kernel_rfl) (by kernel_rfl) (fun _ _ _ h => h) (Or.inl ⟨by rfl, ?_⟩) (by assumption) ?_
          rotate_left
          · (intro wq hSw; (try dsimp only at hSw); (try simp only [List.getElem_toArray, List.getElem_cons_succ, List.getElem_cons_zero]); go_simp); try with_reducible rfl
          try simp only [List.getElem_toArray, List.getElem_cons_succ, List.getElem_cons_zero, Act.put, List.setIfInBounds_toArray, List.set_cons_zero, List.set_cons_succ]
          refine wpAnyH_take (i := 16) (v := ?_) rfl (by kernel_rfl) (by kernel_rfl) (by kernel_rfl) (fun _ _ _ h => h) (Or.inl ⟨by rfl, ?_⟩) (by assumption) ?_
          rotate_left
          · (intro wq hSw; (try dsimp only at hSw); (try simp only [List.getElem_toArray, List.getElem_cons_succ, List.getElem_cons_zero]); go_simp); try with_reducible rfl
          try simp only [List.getElem_toArray, List.getElem_cons_succ, List.getElem_cons_zero, Act.put, List.setIfInBounds_toArray, List.set_cons_zero, List.set_cons_succ]
          refine wpAnyH_take (i := 17) (v := ?_) rfl (by kernel_rfl) (by kernel_rfl) (by kernel_rfl) (fun _ _ _ h => h) (Or.inl ⟨by rfl, ?_⟩) (by assumption) ?_
          rotate_left
          · (intro wq hSw; (try dsimp only at hSw); (try simp only [List.getElem_toArray, List.getElem_cons_succ, List.getElem_cons_zero]); go_simp); try with_reducible rfl
          try simp only [List.getElem_toArray, List.getElem_cons_succ, List.getElem_cons_zero, Act.put, List.setIfInBounds_toArray, List.set_cons_zero, List.set_cons_succ]
          refine wpAnyH_take (i := 18) (v := ?_) rfl (by kernel_rfl) (by kernel_rfl) (by kernel_rfl) (fun _ _ _ h => h) (Or.inl ⟨by rfl, ?_⟩) (by assumption) ?_
          rotate_left
          · (intro wq hSw; (try dsimp only at hSw); (try simp only [List.getElem_toArray, List.getElem_cons_succ, List.getElem_cons_zero]); go_simp); try with_reducible rfl
          try simp only [List.getElem_toArray, List.getElem_cons_succ, List.getElem_cons_zero, Act.put, List.setIfInBounds_toArray, List.set_cons_zero, List.set_cons_succ]
          refine wpAnyH_ready (rs := [19]) (by kernel_rfl) (by simp) ?_
          refine AllReadyH.cons rfl (fun K hK => ?_) AllReadyH.nil
          try simp only [List.getElem_toArray, List.getElem_cons_succ, List.getElem_cons_zero]
          go_simp
          refine (rwrite_exact HD z (Lib.hid hrd) (by have := hgd.few; omega)).mono ?_
          rintro e w4 ⟨rfl, u4⟩
          obtain ⟨U2, Fs2, A2, hU2, K2⟩ := (A.out.below (Below.refl _ _).drew).upd1 HP.out u4
          have c0' := rarr_c0 A2
          have cg' := rarr_cg A2 HP.out
          have y0' : w4.cell? ⟨b, o + i, none⟩ = some (.slice A' x.length c') := (World.cell?_of_block (a := ⟨b, o + i, none⟩) (K2.block b hbl (fun hu => (HS.out b hSb).1 (hU.out b hu (HS.out b hSb).2)))).trans y0
          rw [HE.out]
          clear c0 cg y0
          try (go_wp2_with fail)
          refine hK.out _ _ (by first | exact ⟨c0, cg, y0⟩ | exact ⟨c0', cg', y0'⟩) (fun hHeld => ?_)
          clear hK K
          try simp only [List.getElem_toArray, List.getElem_cons_succ, List.getElem_cons_zero, Act.put, List.setIfInBounds_toArray, List.set_cons_zero, List.set_cons_succ]
          refine wpAnyH_take (i := 20) (v := ?_) rfl (by kernel_rfl) (by kernel_rfl) (by kernel_rfl) (fun _ _ _ h => h) (Or.inl ⟨by rfl, ?_⟩) (by assumption) ?_
          rotate_left
          · (intro wq hSw; (try dsimp only at hSw); (try simp only [List.getElem_toArray, List.getElem_cons_succ, List.getElem_cons_zero]); go_simp); try with_reducible rfl
          try simp only [List.getElem_toArray, List.getElem_cons_succ, List.getElem_cons_zero, Act.put, List.setIfInBounds_toArray, List.set_cons_zero, List.set_cons_succ]
          refine wpAnyH_take (i := 21) (v := ?_) rfl (by kernel_rfl) (by kernel_rfl) (by kernel_rfl) (fun _ _ _ h => h) (Or.inl ⟨by rfl, ?_⟩) (by assumption) ?_
          rotate_left
          · (intro wq hSw; (try dsimp only at hSw); (try simp only [List.getElem_toArray, List.getElem_cons_succ, List.getElem_cons_zero]); go_simp); try with_reducible rfl
          try simp only [List.getElem_toArray, List.getElem_cons_succ, List.getElem_cons_zero, Act.put, List.setIfInBounds_toArray, List.set_cons_zero, List.set_cons_succ]
          refine wpAnyH_done (by kernel_rfl) ?_ _
          go_wp2_with fail
          have A3 : RArrB U2 w4 a (.slice (some ⟨gb, 0, none⟩) sts.length cc) Fs2 ps s ((rstepTo (putRR s z rows) i sts).set i (putRR s z rows i rs)) := by rw [HPG.out]; exact A2
          rw [rstepTo_succ (putRR s z rows) _ _ HST.out] at A3
          refine ⟨⟨i + 1, U2, Fs2, by omega, ?_, by go_num, Lib.hid A3, Lib.hid (fun k hu hlt => hU.out k (hU2 k hu (by simp; omega)) hlt), Lib.hid ((K.out.trans (G := fun _ => False) (Keep.of_below (Below.refl _ _).drew) (fun _ h => h.elim)).trans (G := U') K2 (fun k hu hlt => hU.out k hu hlt))⟩, by simp [intOf]; omega⟩
          rw [HCC.out]; rfl
        · have e0 : (E == 0) = false := by simpa using hE0
          rw [e0] at hc
          have HCC := Lib.hid hc
          clear hc hE0
          go_wp2_with fail
          refine wp_region_held_drew (S := fun w' => w'.cell? ⟨a, 0, none⟩ = some (.slice (some ⟨gb, 0, none⟩) sts.length cc) ∧ w'.cell? ⟨gb, i, none⟩ = some (.pointer (some ⟨p, 0, none⟩)) ∧ w'.cell? ⟨b, o + i, none⟩ = some (.slice A' x.length c')) (by kernel_rfl) (by first | exact ⟨c0, cg, y0⟩ | exact ⟨c0', cg', y0'⟩) (fun hHeld => ?_)
          refine wpAnyH_take (i := 0) (v := ?_) rfl (by kernel_rfl) (by kernel_rfl) (by kernel_rfl) (fun _ _ _ h => h) (Or.inl ⟨by rfl, ?_⟩) (by assumption) ?_
          rotate_left
          · (intro wq hSw; (try dsimp only at hSw); (try simp only [List.getElem_toArray, List.getElem_cons_succ, List.getElem_cons_zero]); go_simp); try with_reducible rfl
          try simp only [List.getElem_toArray, List.getElem_cons_succ, List.getElem_cons_zero, Act.put, List.setIfInBounds_toArray, List.set_cons_zero, List.set_cons_succ]
          refine wpAnyH_take (i := 1) (v := ?_) rfl (by kernel_rfl) (by kernel_rfl) (by kernel_rfl) (fun _ _ _ h => h) (Or.inl ⟨by rfl, ?_⟩) (by assumption) ?_
          rotate_left
          · (intro wq hSw; (try dsimp only at hSw); (try simp only [List.getElem_toArray, List.getElem_cons_succ, List.getElem_cons_zero]); go_simp); try with_reducible rfl
          try simp only [List.getElem_toArray, List.getElem_cons_succ, List.getElem_cons_zero, Act.put, List.setIfInBounds_toArray, List.set_cons_zero, List.set_cons_succ]
          refine wpAnyH_take (i := 2) (v := ?_) rfl (by kernel_rfl) (by kernel_rfl) (by kernel_rfl) (fun _ _ _ h => h) (Or.inl ⟨by rfl, ?_⟩) (by assumption) ?_
          rotate_left
          · (intro wq hSw; (try dsimp only at hSw); (try simp only [List.getElem_toArray, List.getElem_cons_succ, List.getElem_cons_zero]); go_simp); try with_reducible rfl
          try simp only [List.getElem_toArray, List.getElem_cons_succ, List.getElem_cons_zero, Act.put, List.setIfInBounds_toArray, List.set_cons_zero, List.set_cons_succ]
          refine wpAnyH_take (i := 3) (v := ?_) rfl (by kernel_rfl) (by kernel_rfl) (by kernel_rfl) (fun _ _ _ h => h) (Or.inl ⟨by rfl, ?_⟩) (by assumption) ?_
          rotate_left
          · (intro wq hSw; (try dsimp only at hSw); (try simp only [List.getElem_toArray, List.getElem_cons_succ, List.getElem_cons_zero]); go_simp); try with_reducible rfl
          try simp only [List.getElem_toArray, List.getElem_cons_succ, List.getElem_cons_zero, Act.put, List.setIfInBounds_toArray, List.set_cons_zero, List.set_cons_succ]
          refine wpAnyH_take (i := 4) (v := ?_) rfl (by kernel_rfl) (by kernel_rfl) (by kernel_rfl) (fun _ _ _ h => h) (Or.inl ⟨by rfl, ?_⟩) (by assumption) ?_
          rotate_left
          · (intro wq hSw; (try dsimp only at hSw); (try simp only [List.getElem_toArray, List.getElem_cons_succ, List.getElem_cons_zero]); go_simp); try with_reducible rfl
          try simp only [List.getElem_toArray, List.getElem_cons_succ, List.getElem_cons_zero, Act.put, List.setIfInBounds_toArray, List.set_cons_zero, List.set_cons_succ]
          refine wpAnyH_take (i := 5) (v := ?_) rfl (by kernel_rfl) (by kernel_rfl) (by kernel_rfl) (fun _ _ _ h => h) (Or.inl ⟨by rfl, ?_⟩) (by assumption) ?_
          rotate_left
          · (intro wq hSw; (try dsimp only at hSw); (try simp only [List.getElem_toArray, List.getElem_cons_succ, List.getElem_cons_zero]); go_simp); try with_reducible rfl
          try simp only [List.getElem_toArray, List.getElem_cons_succ, List.getElem_cons_zero, Act.put, List.setIfInBounds_toArray, List.set_cons_zero, List.set_cons_succ]
          refine wpAnyH_take (i := 6) (v := ?_) rfl (by kernel_rfl) (by kernel_rfl) (by kernel_rfl) (fun _ _ _ h => h) (Or.inl ⟨by rfl, ?_⟩) (by assumption) ?_
          rotate_left
          · (intro wq hSw; (try dsimp only at hSw); (try simp only [List.getElem_toArray, List.getElem_cons_succ, List.getElem_cons_zero]); go_simp); try with_reducible rfl
          try simp only [List.getElem_toArray, List.getElem_cons_succ, List.getElem_cons_zero, Act.put, List.setIfInBounds_toArray, List.set_cons_zero, List.set_cons_succ]
          refine wpAnyH_take (i := 7) (v := ?_) rfl (by kernel_rfl) (by kernel_rfl) (by kernel_rfl) (fun _ _ _ h => h) (Or.inl ⟨by rfl, ?_⟩) (by assumption) ?_
          rotate_left
          · (intro wq hSw; (try dsimp only at hSw); (try simp only [List.getElem_toArray, List.getElem_cons_succ, List.getElem_cons_zero]); go_simp); try with_reducible rfl
          try simp only [List.getElem_toArray, List.getElem_cons_succ, List.getElem_cons_zero, Act.put, List.setIfInBounds_toArray, List.set_cons_zero, List.set_cons_succ]
          refine wpAnyH_take (i := 8) (v := ?_) rfl (by kernel_rfl) (by kernel_rfl) (by kernel_rfl) (fun _ _ _ h => h) (Or.inl ⟨by rfl, ?_⟩) (by assumption) ?_
          rotate_left
          · (intro wq hSw; (try dsimp only at hSw); (try simp only [List.getElem_toArray, List.getElem_cons_succ, List.getElem_cons_zero]); go_simp); try with_reducible rfl
          try simp only [List.getElem_toArray, List.getElem_cons_succ, List.getElem_cons_zero, Act.put, List.setIfInBounds_toArray, List.set_cons_zero, List.set_cons_succ]
          refine wpAnyH_take (i := 9) (v := ?_) rfl (by kernel_rfl) (by kernel_rfl) (by kernel_rfl) (fun _ _ _ h => h) (Or.inl ⟨by rfl, ?_⟩) (by assumption) ?_
          rotate_left
          · (intro wq hSw; (try dsimp only at hSw); (try simp only [List.getElem_toArray, List.getElem_cons_succ, List.getElem_cons_zero]); go_simp); try with_reducible rfl
          try simp only [List.getElem_toArray, List.getElem_cons_succ, List.getElem_cons_zero, Act.put, List.setIfInBounds_toArray, List.set_cons_zero, List.set_cons_succ]
          refine wpAnyH_take (i := 10) (v := ?_) rfl (by kernel_rfl) (by kernel_rfl) (by kernel_rfl) (fun _ _ _ h => h) (Or.inl ⟨by rfl, ?_⟩) (by assumption) ?_
          rotate_left
          · (intro wq hSw; (try dsimp only at hSw); (try simp only [List.getElem_toArray, List.getElem_cons_succ, List.getElem_cons_zero]); go_simp); try with_reducible rfl
          try simp only [List.getElem_toArray, List.getElem_cons_succ, List.getElem_cons_zero, Act.put, List.setIfInBounds_toArray, List.set_cons_zero, List.set_cons_succ]
          refine wpAnyH_take (i := 11) (v := ?_) rfl (by kernel_rfl) (by kernel_rfl) (by kernel_rfl) (fun _ _ _ h => h) (Or.inl ⟨by rfl, ?_⟩) (by assumption) ?_
          rotate_left
          · (intro wq hSw; (try dsimp only at hSw); (try simp only [List.getElem_toArray, List.getElem_cons_succ, List.getElem_cons_zero]); go_simp); try with_reducible rfl
          try simp only [List.getElem_toArray, List.getElem_cons_succ, List.getElem_cons_zero, Act.put, List.setIfInBounds_toArray, List.set_cons_zero, List.set_cons_succ]
          refine wpAnyH_take (i := 12) (v := ?_) rfl (by kernel_rfl) (by kernel_rfl) (by kernel_rfl) (fun _ _ _ h => h) (Or.inl ⟨by rfl, ?_⟩) (by assumption) ?_
          rotate_left
          · (intro wq hSw; (try dsimp only at hSw); (try simp only [List.getElem_toArray, List.getElem_cons_succ, List.getElem_cons_zero]); go_simp); try with_reducible rfl
          try simp only [List.getElem_toArray, List.getElem_cons_succ, List.getElem_cons_zero, Act.put, List.setIfInBounds_toArray, List.set_cons_zero, List.set_cons_succ]
          refine wpAnyH_take (i := 13) (v := ?_) rfl (by kernel_rfl) (by kernel_rfl) (by kernel_rfl) (fun _ _ _ h => h) (Or.inl ⟨by rfl, ?_⟩) (by assumption) ?_
          rotate_left
          · (intro wq hSw; (try dsimp only at hSw); (try simp only [List.getElem_toArray, List.getElem_cons_succ, List.getElem_cons_zero]); go_simp); try with_reducible rfl
          try simp only [List.getElem_toArray, List.getElem_cons_succ, List.getElem_cons_zero, Act.put, List.setIfInBounds_toArray, List.set_cons_zero, List.set_cons_succ]
          refine wpAnyH_take (i := 14) (v := ?_) rfl (by kernel_rfl) (by kernel_rfl) (by kernel_rfl) (fun _ _ _ h => h) (Or.inl ⟨by rfl, ?_⟩) (by assumption) ?_
          rotate_left
          · (intro wq hSw; (try dsimp only at hSw); (try simp only [List.getElem_toArray, List.getElem_cons_succ, List.getElem_cons_zero]); go_simp); try with_reducible rfl
          try simp only [List.getElem_toArray, List.getElem_cons_succ, List.getElem_cons_zero, Act.put, List.setIfInBounds_toArray, List.set_cons_zero, List.set_cons_succ]
          refine wpAnyH_take (i := 15) (v := ?_) rfl (by kernel_rfl) (by kernel_rfl) (by kernel_rfl) (fun _ _ _ h => h) (Or.inl ⟨by rfl, ?_⟩) (by assumption) ?_
          rotate_left
          · (intro wq hSw; (try dsimp only at hSw); (try simp only [List.getElem_toArray, List.getElem_cons_succ, List.getElem_cons_zero]); go_simp); try with_reducible rfl
          try simp only [List.getElem_toArray, List.getElem_cons_succ, List.getElem_cons_zero, Act.put, List.setIfInBounds_toArray, List.set_cons_zero, List.set_cons_succ]
          refine wpAnyH_take (i := 16) (v := ?_) rfl (by kernel_rfl) (by kernel_rfl) (by kernel_rfl) (fun _ _ _ h => h) (Or.inl ⟨by rfl, ?_⟩) (by assumption) ?_
          rotate_left
          · (intro wq hSw; (try dsimp only at hSw); (try simp only [List.getElem_toArray, List.getElem_cons_succ, List.getElem_cons_zero]); go_simp); try with_reducible rfl
          try simp only [List.getElem_toArray, List.getElem_cons_succ, List.getElem_cons_zero, Act.put, List.setIfInBounds_toArray, List.set_cons_zero, List.set_cons_succ]
          refine wpAnyH_take (i := 17) (v := ?_) rfl (by kernel_rfl) (by kernel_rfl) (by kernel_rfl) (fun _ _ _ h => h) (Or.inl ⟨by rfl, ?_⟩) (by assumption) ?_
          rotate_left
          · (intro wq hSw; (try dsimp only at hSw); (try simp only [List.getElem_toArray, List.getElem_cons_succ, List.getElem_cons_zero]); go_simp); try with_reducible rfl
          try simp only [List.getElem_toArray, List.getElem_cons_succ, List.getElem_cons_zero, Act.put, List.setIfInBounds_toArray, List.set_cons_zero, List.set_cons_succ]
          refine wpAnyH_take (i := 18) (v := ?_) rfl (by kernel_rfl) (by kernel_rfl) (by kernel_rfl) (fun _ _ _ h => h) (Or.inl ⟨by rfl, ?_⟩) (by assumption) ?_
          rotate_left
          · (intro wq hSw; (try dsimp only at hSw); (try simp only [List.getElem_toArray, List.getElem_cons_succ, List.getElem_cons_zero]); go_simp); try with_reducible rfl
          try simp only [List.getElem_toArray, List.getElem_cons_succ, List.getElem_cons_zero, Act.put, List.setIfInBounds_toArray, List.set_cons_zero, List.set_cons_succ]
          refine wpAnyH_ready (rs := [19]) (by kernel_rfl) (by simp) ?_
          refine AllReadyH.cons rfl (fun K hK => ?_) AllReadyH.nil
          try simp only [List.getElem_toArray, List.getElem_cons_succ, List.getElem_cons_zero]
          go_simp
          refine (rwrite_exact HD z (Lib.hid hrd) (by have := hgd.few; omega)).mono ?_
          rintro e w4 ⟨rfl, u4⟩
          obtain ⟨U2, Fs2, A2, hU2, K2⟩ := (A.out.below (Below.refl _ _).drew).upd1 HP.out u4
          have c0' := rarr_c0 A2
          have cg' := rarr_cg A2 HP.out
          have y0' : w4.cell? ⟨b, o + i, none⟩ = some (.slice A' x.length c') := (World.cell?_of_block (a := ⟨b, o + i, none⟩) (K2.block b hbl (fun hu => (HS.out b hSb).1 (hU.out b hu (HS.out b hSb).2)))).trans y0
          rw [HE.out]
          clear c0 cg y0
          try (go_wp2_with fail)
          refine hK.out _ _ (by first | exact ⟨c0, cg, y0⟩ | exact ⟨c0', cg', y0'⟩) (fun hHeld => ?_)
          clear hK K
          try simp only [List.getElem_toArray, List.getElem_cons_succ, List.getElem_cons_zero, Act.put, List.setIfInBounds_toArray, List.set_cons_zero, List.set_cons_succ]
          refine wpAnyH_take (i := 20) (v := ?_) rfl (by kernel_rfl) (by kernel_rfl) (by kernel_rfl) (fun _ _ _ h => h) (Or.inl ⟨by rfl, ?_⟩) (by assumption) ?_
          rotate_left
          · (intro wq hSw; (try dsimp only at hSw); (try simp only [List.getElem_toArray, List.getElem_cons_succ, List.getElem_cons_zero]); go_simp); try with_reducible rfl
          try simp only [List.getElem_toArray, List.getElem_cons_succ, List.getElem_cons_zero, Act.put, List.setIfInBounds_toArray, List.set_cons_zero, List.set_cons_succ]
          refine wpAnyH_take (i := 21) (v := ?_) rfl (by kernel_rfl) (by kernel_rfl) (by kernel_rfl) (fun _ _ _ h => h) (Or.inl ⟨by rfl, ?_⟩) (by assumption) ?_
          rotate_left
          · (intro wq hSw; (try dsimp only at hSw); (try simp only [List.getElem_toArray, List.getElem_cons_succ, List.getElem_cons_zero]); go_simp); try with_reducible rfl
          try simp only [List.getElem_toArray, List.getElem_cons_succ, List.getElem_cons_zero, Act.put, List.setIfInBounds_toArray, List.set_cons_zero, List.set_cons_succ]
          refine wpAnyH_done (by kernel_rfl) ?_ _
          go_wp2_with fail
          have A3 : RArrB U2 w4 a (.slice (some ⟨gb, 0, none⟩) sts.length cc) Fs2 ps s ((rstepTo (putRR s z rows) i sts).set i (putRR s z rows i rs)) := by rw [HPG.out]; exact A2
          rw [rstepTo_succ (putRR s z rows) _ _ HST.out] at A3
          refine ⟨⟨i + 1, U2, Fs2, by omega, ?_, by go_num, Lib.hid A3, Lib.hid (fun k hu hlt => hU.out k (hU2 k hu (by simp; omega)) hlt), Lib.hid ((K.out.trans (G := fun _ => False) (Keep.of_below (Below.refl _ _).drew) (fun _ h => h.elim)).trans (G := U') K2 (fun k hu hlt => hU.out k hu hlt))⟩, by simp [intOf]; omega⟩
          rw [HCC.out]; rfl
      · have d0 : decide ((0 : Int) < (x.length : Int)) = false := decide_eq_false (by omega)
        have d1 : ¬ (0 : Int) < (x.length : Int) := by omega
        have hpk : putOkR s z rows i rs = false := by unfold putOkR; rw [hxr, decide_eq_false h0]; rfl
        have hpg : putRR s z rows i rs = rs := by unfold putRR; rw [hxr, if_neg h0]
        rw [hpk] at hc
        have hst2 := rstepTo_succ (putRR s z rows) i sts HST.out
        rw [hpg] at hst2
        have hsame : (rstepTo (putRR s z rows) i sts).set i rs = rstepTo (putRR s z rows) i sts := by
          apply List.ext_getElem?
          intro j
          by_cases hj : i = j
          · subst hj
            rw [List.getElem?_set_self (by rw [rstepTo_len]; exact (List.getElem?_eq_some_iff.1 HST.out).1), rstepTo_at _ _ _ HST.out]
          · rw [List.getElem?_set_ne hj]
        have A2 := A.out
        rw [← hsame, hst2] at A2
        have A3 := Lib.hid A2
        have HCC := Lib.hid hc
        clear A2 hst2 hsame hpk hpg hc hxr
        go_wp2_with fail
        refine wp_region_held_drew (S := fun w' => w'.cell? ⟨a, 0, none⟩ = some (.slice (some ⟨gb, 0, none⟩) sts.length cc) ∧ w'.cell? ⟨gb, i, none⟩ = some (.pointer (some ⟨p, 0, none⟩)) ∧ w'.cell? ⟨b, o + i, none⟩ = some (.slice A' x.length c')) (by kernel_rfl) (by exact ⟨c0, cg, y0⟩) (fun hHeld => ?_)
        refine wpAnyH_take (i := 0) (v := ?_) rfl (by kernel_rfl) (by kernel_rfl) (by kernel_rfl) (fun _ _ _ h => h) (Or.inl ⟨by rfl, ?_⟩) (by assumption) ?_
        rotate_left
        · (intro wq hSw; (try dsimp only at hSw); (try simp only [List.getElem_toArray, List.getElem_cons_succ, List.getElem_cons_zero]); go_simp); try with_reducible rfl
        try simp only [List.getElem_toArray, List.getElem_cons_succ, List.getElem_cons_zero, Act.put, List.setIfInBounds_toArray, List.set_cons_zero, List.set_cons_succ]
        refine wpAnyH_take (i := 1) (v := ?_) rfl (by kernel_rfl) (by kernel_rfl) (by kernel_rfl) (fun _ _ _ h => h) (Or.inl ⟨by rfl, ?_⟩) (by assumption) ?_
        rotate_left
        · (intro wq hSw; (try dsimp only at hSw); (try simp only [List.getElem_toArray, List.getElem_cons_succ, List.getElem_cons_zero]); go_simp); try with_reducible rfl
        try simp only [List.getElem_toArray, List.getElem_cons_succ, List.getElem_cons_zero, Act.put, List.setIfInBounds_toArray, List.set_cons_zero, List.set_cons_succ]
        refine wpAnyH_take (i := 2) (v := ?_) rfl (by kernel_rfl) (by kernel_rfl) (by kernel_rfl) (fun _ _ _ h => h) (Or.inl ⟨by rfl, ?_⟩) (by assumption) ?_
        rotate_left
        · (intro wq hSw; (try dsimp only at hSw); (try simp only [List.getElem_toArray, List.getElem_cons_succ, List.getElem_cons_zero]); go_simp); try with_reducible rfl
        try simp only [List.getElem_toArray, List.getElem_cons_succ, List.getElem_cons_zero, Act.put, List.setIfInBounds_toArray, List.set_cons_zero, List.set_cons_succ]
        refine wpAnyH_take (i := 3) (v := ?_) rfl (by kernel_rfl) (by kernel_rfl) (by kernel_rfl) (fun _ _ _ h => h) (Or.inl ⟨by rfl, ?_⟩) (by assumption) ?_
        rotate_left
        · (intro wq hSw; (try dsimp only at hSw); (try simp only [List.getElem_toArray, List.getElem_cons_succ, List.getElem_cons_zero]); go_simp); try with_reducible rfl
        try simp only [List.getElem_toArray, List.getElem_cons_succ, List.getElem_cons_zero, Act.put, List.setIfInBounds_toArray, List.set_cons_zero, List.set_cons_succ]
        refine wpAnyH_take (i := 4) (v := ?_) rfl (by kernel_rfl) (by kernel_rfl) (by kernel_rfl) (fun _ _ _ h => h) (Or.inl ⟨by rfl, ?_⟩) (by assumption) ?_
        rotate_left
        · (intro wq hSw; (try dsimp only at hSw); (try simp only [List.getElem_toArray, List.getElem_cons_succ, List.getElem_cons_zero]); go_simp); try with_reducible rfl
        try simp only [List.getElem_toArray, List.getElem_cons_succ, List.getElem_cons_zero, Act.put, List.setIfInBounds_toArray, List.set_cons_zero, List.set_cons_succ]
        refine wpAnyH_take (i := 5) (v := ?_) rfl (by kernel_rfl) (by kernel_rfl) (by kernel_rfl) (fun _ _ _ h => h) (Or.inl ⟨by rfl, ?_⟩) (by assumption) ?_
        rotate_left
        · (intro wq hSw; (try dsimp only at hSw); (try simp only [List.getElem_toArray, List.getElem_cons_succ, List.getElem_cons_zero]); go_simp); try with_reducible rfl
        try simp only [List.getElem_toArray, List.getElem_cons_succ, List.getElem_cons_zero, Act.put, List.setIfInBounds_toArray, List.set_cons_zero, List.set_cons_succ]
        refine wpAnyH_take (i := 6) (v := ?_) rfl (by kernel_rfl) (by kernel_rfl) (by kernel_rfl) (fun _ _ _ h => h) (Or.inl ⟨by rfl, ?_⟩) (by assumption) ?_
        rotate_left
        · (intro wq hSw; (try dsimp only at hSw); (try simp only [List.getElem_toArray, List.getElem_cons_succ, List.getElem_cons_zero]); go_simp); try with_reducible rfl
        try simp only [List.getElem_toArray, List.getElem_cons_succ, List.getElem_cons_zero, Act.put, List.setIfInBounds_toArray, List.set_cons_zero, List.set_cons_succ]
        refine wpAnyH_take (i := 7) (v := undef) rfl (by kernel_rfl) (by kernel_rfl) (by kernel_rfl) (fun _ _ _ h => h) (Or.inr ⟨by rfl, rfl⟩) (by assumption) ?_
        try simp only [List.getElem_toArray, List.getElem_cons_succ, List.getElem_cons_zero, Act.put, List.setIfInBounds_toArray, List.set_cons_zero, List.set_cons_succ]
        refine wpAnyH_take (i := 8) (v := undef) rfl (by kernel_rfl) (by kernel_rfl) (by kernel_rfl) (fun _ _ _ h => h) (Or.inr ⟨by rfl, rfl⟩) (by assumption) ?_
        try simp only [List.getElem_toArray, List.getElem_cons_succ, List.getElem_cons_zero, Act.put, List.setIfInBounds_toArray, List.set_cons_zero, List.set_cons_succ]
        refine wpAnyH_take (i := 9) (v := undef) rfl (by kernel_rfl) (by kernel_rfl) (by kernel_rfl) (fun _ _ _ h => h) (Or.inr ⟨by rfl, rfl⟩) (by assumption) ?_
        try simp only [List.getElem_toArray, List.getElem_cons_succ, List.getElem_cons_zero, Act.put, List.setIfInBounds_toArray, List.set_cons_zero, List.set_cons_succ]
        refine wpAnyH_take (i := 10) (v := undef) rfl (by kernel_rfl) (by kernel_rfl) (by kernel_rfl) (fun _ _ _ h => h) (Or.inr ⟨by rfl, rfl⟩) (by assumption) ?_
        try simp only [List.getElem_toArray, List.getElem_cons_succ, List.getElem_cons_zero, Act.put, List.setIfInBounds_toArray, List.set_cons_zero, List.set_cons_succ]
        refine wpAnyH_take (i := 11) (v := undef) rfl (by kernel_rfl) (by kernel_rfl) (by kernel_rfl) (fun _ _ _ h => h) (Or.inr ⟨by rfl, rfl⟩) (by assumption) ?_
        try simp only [List.getElem_toArray, List.getElem_cons_succ, List.getElem_cons_zero, Act.put, List.setIfInBounds_toArray, List.set_cons_zero, List.set_cons_succ]
        refine wpAnyH_take (i := 12) (v := undef) rfl (by kernel_rfl) (by kernel_rfl) (by kernel_rfl) (fun _ _ _ h => h) (Or.inr ⟨by rfl, rfl⟩) (by assumption) ?_
        try simp only [List.getElem_toArray, List.getElem_cons_succ, List.getElem_cons_zero, Act.put, List.setIfInBounds_toArray, List.set_cons_zero, List.set_cons_succ]
        refine wpAnyH_take (i := 13) (v := undef) rfl (by kernel_rfl) (by kernel_rfl) (by kernel_rfl) (fun _ _ _ h => h) (Or.inr ⟨by rfl, rfl⟩) (by assumption) ?_
        try simp only [List.getElem_toArray, List.getElem_cons_succ, List.getElem_cons_zero, Act.put, List.setIfInBounds_toArray, List.set_cons_zero, List.set_cons_succ]
        refine wpAnyH_take (i := 14) (v := undef) rfl (by kernel_rfl) (by kernel_rfl) (by kernel_rfl) (fun _ _ _ h => h) (Or.inr ⟨by rfl, rfl⟩) (by assumption) ?_
        try simp only [List.getElem_toArray, List.getElem_cons_succ, List.getElem_cons_zero, Act.put, List.setIfInBounds_toArray, List.set_cons_zero, List.set_cons_succ]
        refine wpAnyH_take (i := 15) (v := undef) rfl (by kernel_rfl) (by kernel_rfl) (by kernel_rfl) (fun _ _ _ h => h) (Or.inr ⟨by rfl, rfl⟩) (by assumption) ?_
        try simp only [List.getElem_toArray, List.getElem_cons_succ, List.getElem_cons_zero, Act.put, List.setIfInBounds_toArray, List.set_cons_zero, List.set_cons_succ]
        refine wpAnyH_take (i := 16) (v := undef) rfl (by kernel_rfl) (by kernel_rfl) (by kernel_rfl) (fun _ _ _ h => h) (Or.inr ⟨by rfl, rfl⟩) (by assumption) ?_
        try simp only [List.getElem_toArray, List.getElem_cons_succ, List.getElem_cons_zero, Act.put, List.setIfInBounds_toArray, List.set_cons_zero, List.set_cons_succ]
        refine wpAnyH_take (i := 17) (v := undef) rfl (by kernel_rfl) (by kernel_rfl) (by kernel_rfl) (fun _ _ _ h => h) (Or.inr ⟨by rfl, rfl⟩) (by assumption) ?_
        try simp only [List.getElem_toArray, List.getElem_cons_succ, List.getElem_cons_zero, Act.put, List.setIfInBounds_toArray, List.set_cons_zero, List.set_cons_succ]
        refine wpAnyH_take (i := 18) (v := undef) rfl (by kernel_rfl) (by kernel_rfl) (by kernel_rfl) (fun _ _ _ h => h) (Or.inr ⟨by rfl, rfl⟩) (by assumption) ?_
        try simp only [List.getElem_toArray, List.getElem_cons_succ, List.getElem_cons_zero, Act.put, List.setIfInBounds_toArray, List.set_cons_zero, List.set_cons_succ]
        refine wpAnyH_take (i := 19) (v := undef) rfl (by kernel_rfl) (by kernel_rfl) (by kernel_rfl) (fun _ _ _ h => h) (Or.inr ⟨by rfl, rfl⟩) (by assumption) ?_
        try simp only [List.getElem_toArray, List.getElem_cons_succ, List.getElem_cons_zero, Act.put, List.setIfInBounds_toArray, List.set_cons_zero, List.set_cons_succ]
        refine wpAnyH_take (i := 20) (v := undef) rfl (by kernel_rfl) (by kernel_rfl) (by kernel_rfl) (fun _ _ _ h => h) (Or.inr ⟨by rfl, rfl⟩) (by assumption) ?_
        try simp only [List.getElem_toArray, List.getElem_cons_succ, List.getElem_cons_zero, Act.put, List.setIfInBounds_toArray, List.set_cons_zero, List.set_cons_succ]
        refine wpAnyH_take (i := 21) (v := ?_) rfl (by kernel_rfl) (by kernel_rfl) (by kernel_rfl) (fun _ _ _ h => h) (Or.inl ⟨by rfl, ?_⟩) (by assumption) ?_
        rotate_left
        · (intro wq hSw; (try dsimp only at hSw); (try simp only [List.getElem_toArray, List.getElem_cons_succ, List.getElem_cons_zero]); go_simp); try with_reducible rfl
        try simp only [List.getElem_toArray, List.getElem_cons_succ, List.getElem_cons_zero, Act.put, List.setIfInBounds_toArray, List.set_cons_zero, List.set_cons_succ]
        refine wpAnyH_done (by kernel_rfl) ?_ _
        go_wp2_with fail
        refine ⟨⟨i + 1, U', Fs', by omega, ?_, by go_num, Lib.hid (A3.out.below (Below.refl _ _).drew), hU, Lib.hid (K.out.trans (G := fun _ => False) (Keep.of_below (Below.refl _ _).drew) (fun _ h => h.elim))⟩, by simp [intOf]; omega⟩
        rw [HCC.out]; rfl
    · obtain rfl : i = q := by omega
      have hr0 : ∀ d, m ≤ d → rAt rows d = [] := fun d hd => by simp [rAt, List.getD, List.getElem?_eq_none (show rows.length ≤ d by rw [R.out.1]; omega)]
      have hA : rstepTo (putRR s z rows) i sts = sts.mapIdx (putRR s z rows) := by
        rcases hq3 with h | h
        · rw [h, rstepTo_all]
        · exact rstepTo_rest _ _ _ (fun d st hd => by simp [putRR, hr0 d (by omega)])
      have hC : cnt ((sts.mapIdx (putOkR s z rows)).take i) = cnt (sts.mapIdx (putOkR s z rows)) := by
        rcases hq3 with h | h
        · rw [List.take_of_length_le (by simp; omega)]
        · exact cnt_restR _ _ _ (fun d st hd => by simp [putOkR, hr0 d (by omega)])
      rw [hA] at A
      rw [hC]
      clear hr0 hA hC
      by_cases him : i < m
      · have h1 : (i : Int) < (m : Int) := by omega
        have h2 : ¬ (i : Int) < (sts.length : Int) := by omega
        go_wp2_with fail
        go_ret
        exact ⟨rfl, U', ⟨_, Fs', ps, A.out⟩, hU.out, K.out⟩
      · have h1 : ¬ (i : Int) < (m : Int) := by omega
        go_wp2_with fail
        go_ret
        exact ⟨rfl, U', ⟨_, Fs', ps, A.out⟩, hU.out, K.out⟩
end
end Go.Proofs.Ytolmpopjonkfgaa

set_option linter.unusedSimpArgs false
set_option linter.unusedVariables false
namespace Go.Proofs.Ytolmpopjonkfgaa
open Go.RowKit Go.Cib
attribute [local go_sem] cell_set Later.cell Later.frozen Grw.cell Grw.frozen

set_option maxRecDepth 100000 in
set_option maxHeartbeats 4000000 in
theorem rread_good2 {G : Nat → Prop} {w : World} {x n : Nat} {rs : RSt} (h : Hid (RefAt G w x n rs)) (hd : rs.gone = false) (z : Nat) (hz : z < n) (hcl : rs.L.length < 1000000) (hcw : rs.wait.length < 1000000) (hok : Hid (∀ e ∈ rs.L, EvOk e)) (hw64 : Hid (∀ e ∈ rs.wait, e.b.length = 64)) :
    Calls Try.prog 68 #[.pointer (some ⟨x, 0, none⟩), .int .i64 z] w fun e w' => ∃ A c, e = .returned (.tuple #[.slice A 64 c, .int .i64 0]) ∧ RdL U8R 1 (fun b => G b ∨ w.heap.size ≤ b) w' A 64 (seenE rs z) ∧ Below w.heap.size w w' := by
  obtain ⟨Sb, vL, vW, hB, _⟩ := h.out
  obtain ⟨k0, k1, k2, k3⟩ := ref_cells hB
  clear hB
  rw [hd] at k3
  have e1 : decide (0 ≤ (z : Int) ∧ (z : Int) < n) = true := by simp; omega
  go_enter Try.func68, Try.ntmps68
  go_wp2_with fail
  refine (rhas_any h z).mono ?_
  rintro e w1 ⟨rfl, t1⟩
  rw [e1]
  clear e1 k0 k1 k2 k3
  have H1 := Lib.hid (h.out.below t1)
  obtain ⟨Sb, vL, vW, hB, g1, g2, g3, g4, lt⟩ := H1.out
  obtain ⟨AW, cW, rfl⟩ := ownL_form hB.oW
  have k2 : w1.cell? ⟨x, 2, none⟩ = some (.slice AW rs.wait.length cW) := hB.box.cell 2
  have OW := Lib.hid hB.oW
  have T1 := Lib.hid t1
  have hw1s := t1.size
  have hsub : IntKind.i64.wrap ((rs.wait.length : Int) - 1) = (rs.wait.length : Int) - 1 := by rw [IntKind.wrap_i64]; omega
  clear hB t1
  go_wp2_with fail
  clear hsub
  go_loopw [6] (fun vi wr => ∃ i : Nat, i ≤ rs.wait.length ∧ vi = .int .i64 ((i : Int) - 1) ∧ wr = w1 ∧ Hid (seenE rs z = waitE (rs.wait.take i) z (storedE rs.L z))) (fun vi _ => (intOf vi + 1).toNat)
  case atStart => exact ⟨rs.wait.length, Nat.le_refl _, rfl, rfl, Lib.hid (by rw [List.take_length]; rfl)⟩
  case round =>
    obtain ⟨i, hi, rfl, rfl, hs⟩ := hrel
    match i, hi, hs with
    | 0, _, hs =>
      have h1 : decide ((0 : Int) ≤ ((0 : Nat) : Int) - 1) = false := by decide
      go_wp2_with fail
      refine (rstored_good H1 hd z hz hcl hok).mono ?_
      rintro e w2 ⟨g, c, rfl, hg1, _, hr, t2⟩
      go_wp2_with fail
      go_ret2
      refine ⟨_, c, rfl, ?_, T1.out.trans (t2.mono hw1s)⟩
      rw [hs.out]
      exact hr.weaken U8R.stable (by rintro k rfl; exact .inr (Nat.le_trans hw1s hg1))
    | i + 1, hi, hs =>
      have hlt : i < rs.wait.length := by omega
      have h0 : ((i + 1 : Nat) : Int) - 1 = (i : Int) := by omega
      rw [h0]
      have h1 : (i : Int) < (rs.wait.length : Int) := by omega
      have h2 : (0 : Int) ≤ (i : Int) := Int.natCast_nonneg _
      have h3 : (i : Int) < 1000000 := by omega
      have hsub : IntKind.i64.wrap ((i : Int) - 1) = (i : Int) - 1 := by rw [IntKind.wrap_i64]; omega
      obtain ⟨ge, e, B, mm, d, rfl, he, hre, y0, y1, y2, y3⟩ := ev_at OW.out hlt
      have hee := hw64.out e (List.mem_of_getElem? he)
      have htk : rs.wait.take (i + 1) = rs.wait.take i ++ [e] := by rw [List.take_succ_eq_append_getElem hlt, (List.getElem?_eq_some_iff.1 he).2]
      have hs2 := hs.out
      rw [htk, waitE_snoc] at hs2
      obtain rfl : mm = 64 := hre.1.symm.trans hee
      have HR := Lib.hid hre
      clear hre he htk hee h0
      by_cases ha : e.at_ = z
      · rw [if_pos ha] at hs2
        have HS := Lib.hid hs2
        rw [ha] at y0
        clear hs2
        go_wp2_with fail
        go_ret2
        refine ⟨_, d, rfl, ?_, T1.out⟩
        rw [HS.out]
        exact HR.out.weaken U8R.stable (fun b hb => .inl (g2 b hb.1))
      · rw [if_neg ha] at hs2
        have HS := Lib.hid hs2
        have haf : (e.at_ == (z : Int)) = false := by simpa using ha
        clear hs2
        go_wp2_with fail
        exact ⟨⟨i, by omega, rfl, trivial, HS⟩, by simp [intOf]⟩

theorem rread_whole2 {G : Nat → Prop} {w : World} {x n : Nat} {rs : RSt} (h : Hid (RefAt G w x n rs)) (hg : RGood rs) (z : Int) :
    Calls Try.prog 68 #[.pointer (some ⟨x, 0, none⟩), .int .i64 z] w fun e w' => ReadE (fun b => G b ∨ w.heap.size ≤ b) w (readyE rs.gone n z) (rreadL rs n z) e w' := by
  unfold rreadL
  cases hd : rs.gone with
  | true =>
    refine (rread_gone h hd z).mono ?_
    rintro e w' ⟨rfl, hb⟩
    exact ⟨none, 0, 0, by simp [readyE], by simp [readyE]; exact RdL.nil, hb⟩
  | false =>
    by_cases hz : 0 ≤ z ∧ z < n
    · obtain ⟨k, rfl⟩ : ∃ k : Nat, z = k := ⟨z.toNat, by omega⟩
      refine (rread_good2 h hd k (by omega) (by have := hg.few; omega) (by have := hg.few; omega) (Lib.hid hg.ok) (Lib.hid hg.w64)).mono ?_
      rintro e w' ⟨A, c, rfl, hr, hb⟩
      have hE : readyE false n k = 0 := (ready_iff2 _ _ _).2 ⟨rfl, hz⟩
      rw [hE, if_pos rfl]
      exact ⟨A, 64, c, rfl, hr, hb⟩
    · refine (rread_out h hd z hz).mono ?_
      rintro e w' ⟨rfl, hb⟩
      have hE : readyE false n z = 2 := by simp [readyE, hz]
      rw [hE, if_neg (by omega)]
      exact ⟨none, 0, 0, rfl, RdL.nil, hb⟩
def RowER (w : World) (s : Nat) (z : Int) (sts : List RSt) (e : Ending) (w' : World) : Prop := ∃ A c, e = .returned (.slice A sts.length c) ∧ RdL BytesR 1 (fun _ => True) w' A sts.length (sts.map (fun rs => rreadL rs s z)) ∧ Below w.heap.size w w'
section
variable {U : Nat → Prop} {w : World} {a s : Nat} {v : Value} {Fs : Nat → Nat → Prop} {ps : List Nat} {sts : List RSt}
set_option maxRecDepth 100000 in
set_option maxHeartbeats 4000000 in
theorem rarow_any (h : Hid (RArrB U w a v Fs ps s sts)) (hk : 0 < sts.length) (hk2 : sts.length ≤ 255) (hg : Hid (∀ rs ∈ sts, RGood rs)) (z : Int) :
    Calls Try.prog 50 #[.pointer (some ⟨a, 0, none⟩), .int .i64 z] w fun e w' => RowER w s z sts e w' := by
  obtain ⟨gb, cc, rfl⟩ := rarr_form h.out hk
  go_enter Try.func50, Try.ntmps50
  go_wp2_with fail
  go_loopw [5, 6] (fun va vi wr => ∃ i : Nat, i ≤ sts.length ∧ vi = .int .i64 i ∧ Hid (OwnL BytesR 27 1 w.heap.size (fun k => U k ∨ w.heap.size ≤ k) wr va i ((sts.take i).map (fun rs => rreadL rs s z))) ∧ Hid (Below w.heap.size w wr)) (fun _ vi _ => sts.length - (intOf vi).toNat)
  case atStart => exact ⟨0, Nat.zero_le _, rfl, Lib.hid OwnL.nil_, Lib.hid (Below.refl _ _)⟩
  case round =>
    obtain ⟨wo, rfl⟩ : ∃ wo, wo = wr := ⟨_, rfl⟩
    obtain ⟨i, hi, rfl, O, T⟩ := hrel
    have HB := Lib.hid (h.out.below T.out)
    have c0 := rarr_c0 HB.out
    by_cases hlt : i < sts.length
    · obtain ⟨AA, ca, rfl, _⟩ := O.out.form
      obtain ⟨rs, hst⟩ : ∃ rs, sts[i]? = some rs := ⟨_, List.getElem?_eq_getElem hlt⟩
      obtain ⟨p, hp, hD, _⟩ := HB.out.p_at hst
      have hgd := hg.out rs (List.mem_of_getElem? hst)
      have cg := rarr_cg HB.out hp
      have h1 : (i : Int) < (sts.length : Int) := by omega
      have h2 : (0 : Int) ≤ (i : Int) := Int.natCast_nonneg _
      have h3 : (i : Int) < 600 := by omega
      have htk : (sts.take (i + 1)).map (fun rs => rreadL rs s z) = (sts.take i).map (fun rs => rreadL rs s z) ++ [rreadL rs s z] := by
        rw [List.take_succ_eq_append_getElem hlt, (List.getElem?_eq_some_iff.1 hst).2]; simp
      have HTK := Lib.hid htk
      have hrd := rread_whole2 (Lib.hid hD) hgd z
      clear hD hp hst htk
      go_wp2_with fail
      refine hrd.mono ?_
      rintro e w3 ⟨A3, m3, c3, rfl, r3, t3⟩
      have hown := O.out.keep BytesR.stable t3
      have T3 := T.out.trans (t3.mono T.out.size)
      have hsz := T3.size
      have hso := T.out.size
      have hy : BytesR (Go.Cib.Rest (fun k => U k ∨ w.heap.size ≤ k) (.slice AA i ca)) w3 [.slice A3 m3 c3] (rreadL rs s z) := ⟨_, _, _, rfl, r3.weaken U8R.stable (fun b hb => by
        rcases hb with hb | hb
        · have hu := HB.out.uf i b hb
          exact ⟨.inl hu, fun e => by have := (O.out.lt b e.symm).1; have := h.out.lt b hu; omega⟩
        · exact ⟨.inr (by omega), fun e => by have := (O.out.lt b e.symm).2; omega⟩)⟩
      clear hrd r3 t3 c0 cg
      go_wp2_with (at_builtin; go_must (refine wpList_push1 BytesR.stable BytesR.one slRows (by rfl) (by rfl) (base := w.heap.size) (S := fun k => U k ∨ w.heap.size ≤ k) (cs := #[.slice A3 m3 c3]) (y := rreadL rs s z) (by rfl) (by rfl) hown (by rfl) hy (by unfold maxLen; omega) (by omega) hsz ?_); intro A11 c11 u11 hc11 own11 hlt11 hb11 hat11)
      exact ⟨⟨i + 1, by omega, by go_num, Lib.hid (by rw [HTK.out]; exact own11), Lib.hid (T3.trans hb11)⟩, by simp [intOf]; omega⟩
    · obtain rfl : i = sts.length := by omega
      have h1 : ¬ (sts.length : Int) < (sts.length : Int) := by omega
      obtain ⟨AA, ca, e, _, RA⟩ := O.out.rd (S' := fun _ => True) (fun k hk => trivial) (fun cs x ⟨A, m, c, e, hr⟩ => ⟨A, m, c, e, hr.weaken U8R.stable (fun b hb => trivial)⟩)
      subst e
      rw [List.take_length] at RA
      have HRA := Lib.hid RA
      clear RA
      go_wp2_with fail
      go_ret
      exact ⟨AA, ca, rfl, HRA.out, T.out⟩
end
end Go.Proofs.Ytolmpopjonkfgaa
