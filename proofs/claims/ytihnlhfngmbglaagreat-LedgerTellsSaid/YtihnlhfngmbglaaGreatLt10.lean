/-
  The document's drives side by side: Read, Write, Fail, Replace, Rot; how many aren't gone.
  The document's drives side by side: Flush, Crash, PutRow.
  The document's drives side by side: PutRow.
  The document's drives side by side: Row.
  The document's drives side by side: New; where there is none, ours too.
  The document's stripes: is a name right?
  A stripe that can't be one.
  What comes of a stripe that can't be one, and of one that is too large.
  Geometry.Made, the coder's blocks known; a law's own boxes beside the drives.
  Drives and a coder in the midst of a law, beside the law's own blocks, which it writes.
  Bytes stay bytes: whatever befalls the drives.
  Drives side by side: where there is no such drive; Stored, Rotten, Rot whatever is asked.
  Does a drive answer as the document's?
  Acts among the arguments; are there few acts?
  A drive and the document's: they are the same, whatever is done.
-/
import Derived.Test.YtihnlhfngmbglaaGreatLt9
import Derived.Test.YtihnlhfngmbglaaGreatLt8
import Derived.Test.YtihnlhfngmbglaaGreatLt7
set_option linter.unusedSimpArgs false
set_option linter.unusedVariables false
namespace Go.Proofs.YtihnlhfngmbglaaGreat
open Go.RowKit Go.Cib
attribute [local go_sem] cell_set Later.cell Later.frozen Grw.cell Grw.frozen
section

section
variable {U : Nat → Prop} {w : World} {a s : Nat} {v : Value} {Fs : Nat → Nat → Prop} {ps : List Nat} {sts : List RSt}
theorem has_in {d k : Nat} (hd : d < k) : decide (0 ≤ (d : Int) ∧ (d : Int) < (k : Int)) = true := by simp; omega
theorem has_out {d : Int} {k : Nat} (hd : ¬ (0 ≤ d ∧ d < k)) : decide (0 ≤ d ∧ d < (k : Int)) = false := by simpa using hd
set_option maxRecDepth 100000 in
theorem raread_in (h : Hid (RArrB U w a v Fs ps s sts)) (d : Nat) {rs : RSt} (hst : sts[d]? = some rs) (hg : RGood rs) (z : Int) :
    Calls Tryz.prog 157 #[.pointer (some ⟨a, 0, none⟩), .int .i64 d, .int .i64 z] w fun e w' => ReadEC w (readyE rs.gone s z) (rreadL rs s z) e w' := by
  obtain ⟨p, hp, hD, hd⟩ := h.out.p_at hst
  have e1 := has_in hd
  obtain ⟨gb, cc, rfl⟩ := rarr_form h.out (by omega)
  have h0 : (0 : Int) ≤ (d : Int) := Int.natCast_nonneg _
  have h1 : (d : Int) < (sts.length : Int) := by omega
  have HD := Lib.hid hD
  clear hD
  go_enter Tryz.func157, Tryz.ntmps157
  go_wp2_with fail
  refine (rahas_any h d).mono ?_
  rintro e w1 ⟨rfl, t1⟩
  rw [e1]
  have c0 := rarr_c0 (h.out.below t1)
  have cg := rarr_cg (h.out.below t1) hp
  have T1 := Lib.hid t1
  clear t1 e1
  go_wp2_with fail
  refine (rread_whole (Lib.hid (HD.out.below T1.out)) hg z).mono ?_
  rintro e w2 ⟨A, m, c, rfl, r2, t2, hmc⟩
  have R2 := Lib.hid r2
  have HMC := Lib.hid hmc
  clear r2 hmc
  go_wp2_with fail
  go_ret2
  exact ⟨A, m, c, rfl, R2.out, T1.out.trans (t2.mono T1.out.size), HMC.out⟩
set_option maxRecDepth 100000 in
theorem rawrite_in (h : Hid (RArrB U w a v Fs ps s sts)) (d : Nat) {rs : RSt} (hst : sts[d]? = some rs) (hg : RGood rs) (z : Int) {S : Nat → Prop} {A : Option Addr} {m c : Nat} {bs : List Int} (hb : Hid (RdL U8R 1 S w A m bs)) :
    Calls Tryz.prog 101 #[.pointer (some ⟨a, 0, none⟩), .int .i64 d, .int .i64 z, .slice A m c] w fun e w' => e = .returned (.int .i64 (writeE rs.gone s z m)) ∧ RAUpd U w w' a s (sts.set d (wrR s rs z bs)) := by
  obtain ⟨p, hp, hD, hd⟩ := h.out.p_at hst
  have e1 := has_in hd
  obtain ⟨gb, cc, rfl⟩ := rarr_form h.out (by omega)
  have h0 : (0 : Int) ≤ (d : Int) := Int.natCast_nonneg _
  have h1 : (d : Int) < (sts.length : Int) := by omega
  have HD := Lib.hid hD
  clear hD
  go_enter Tryz.func101, Tryz.ntmps101
  go_wp2_with fail
  refine (rahas_any h d).mono ?_
  rintro e w1 ⟨rfl, t1⟩
  rw [e1]
  have c0 := rarr_c0 (h.out.below t1)
  have cg := rarr_cg (h.out.below t1) hp
  have T1 := Lib.hid t1
  clear t1 e1
  go_wp2_with fail
  refine (rwrite_exact (Lib.hid (HD.out.below T1.out)) z (Lib.hid (hb.out.below U8R.stable T1.out)) (by have := hg.few; omega)).mono ?_
  rintro e w2 ⟨rfl, u2⟩
  obtain rfl : bs.length = m := hb.out.1
  have U2 := Lib.hid (show RUpd (Fs d) w1 w2 p s (wrR s rs z bs) from u2)
  clear u2
  go_wp2_with fail
  go_ret
  exact ⟨rfl, h.out.upd2 T1.out hp U2.out⟩
set_option maxRecDepth 100000 in
theorem rafail_in (h : Hid (RArrB U w a v Fs ps s sts)) (d : Nat) {rs : RSt} (hst : sts[d]? = some rs) (hg : RGood rs) :
    Calls Tryz.prog 48 #[.pointer (some ⟨a, 0, none⟩), .int .i64 d] w fun e w' => e = .returned (.int .i64 0) ∧ RAUpd U w w' a s (sts.set d ⟨[], [], true⟩) := by
  obtain ⟨p, hp, hD, hd⟩ := h.out.p_at hst
  have e1 := has_in hd
  obtain ⟨gb, cc, rfl⟩ := rarr_form h.out (by omega)
  have h0 : (0 : Int) ≤ (d : Int) := Int.natCast_nonneg _
  have h1 : (d : Int) < (sts.length : Int) := by omega
  have HD := Lib.hid hD
  clear hD
  go_enter Tryz.func48, Tryz.ntmps48
  go_wp2_with fail
  refine (rahas_any h d).mono ?_
  rintro e w1 ⟨rfl, t1⟩
  rw [e1]
  have c0 := rarr_c0 (h.out.below t1)
  have cg := rarr_cg (h.out.below t1) hp
  have T1 := Lib.hid t1
  clear t1 e1
  go_wp2_with fail
  refine (rfail_any (Lib.hid (HD.out.below T1.out))).mono ?_
  rintro e w2 ⟨rfl, u2⟩
  have U2 := Lib.hid (show RUpd (Fs d) w1 w2 p s (⟨[], [], true⟩) from u2)
  clear u2
  go_wp2_with fail
  go_ret
  exact ⟨rfl, h.out.upd2 T1.out hp U2.out⟩
set_option maxRecDepth 100000 in
theorem rafail_out (h : Hid (RArrB U w a v Fs ps s sts)) (d : Int) (hd : ¬ (0 ≤ d ∧ d < sts.length)) (_z : Unit) :
    Calls Tryz.prog 48 #[.pointer (some ⟨a, 0, none⟩), .int .i64 d] w fun e w' => e = .returned (.int .i64 2) ∧ Below w.heap.size w w' := by
  have e1 := has_out hd
  clear hd
  go_enter Tryz.func48, Tryz.ntmps48
  go_wp2_with fail
  refine (rahas_any h d).mono ?_
  rintro e w1 ⟨rfl, t1⟩
  rw [e1]
  clear e1
  go_wp2_with fail
  go_ret
  exact ⟨rfl, t1⟩
set_option maxRecDepth 100000 in
theorem rarepl_in (h : Hid (RArrB U w a v Fs ps s sts)) (d : Nat) {rs : RSt} (hst : sts[d]? = some rs) (hg : RGood rs) :
    Calls Tryz.prog 50 #[.pointer (some ⟨a, 0, none⟩), .int .i64 d] w fun e w' => e = .returned (.int .i64 0) ∧ RAUpd U w w' a s (sts.set d ⟨[], [], false⟩) := by
  obtain ⟨p, hp, hD, hd⟩ := h.out.p_at hst
  have e1 := has_in hd
  obtain ⟨gb, cc, rfl⟩ := rarr_form h.out (by omega)
  have h0 : (0 : Int) ≤ (d : Int) := Int.natCast_nonneg _
  have h1 : (d : Int) < (sts.length : Int) := by omega
  have HD := Lib.hid hD
  clear hD
  go_enter Tryz.func50, Tryz.ntmps50
  go_wp2_with fail
  refine (rahas_any h d).mono ?_
  rintro e w1 ⟨rfl, t1⟩
  rw [e1]
  have c0 := rarr_c0 (h.out.below t1)
  have cg := rarr_cg (h.out.below t1) hp
  have T1 := Lib.hid t1
  clear t1 e1
  go_wp2_with fail
  refine (rreplace_any (Lib.hid (HD.out.below T1.out))).mono ?_
  rintro e w2 ⟨rfl, u2⟩
  have U2 := Lib.hid (show RUpd (Fs d) w1 w2 p s (⟨[], [], false⟩) from u2)
  clear u2
  go_wp2_with fail
  go_ret
  exact ⟨rfl, h.out.upd2 T1.out hp U2.out⟩
set_option maxRecDepth 100000 in
theorem rarepl_out (h : Hid (RArrB U w a v Fs ps s sts)) (d : Int) (hd : ¬ (0 ≤ d ∧ d < sts.length)) (_z : Unit) :
    Calls Tryz.prog 50 #[.pointer (some ⟨a, 0, none⟩), .int .i64 d] w fun e w' => e = .returned (.int .i64 2) ∧ Below w.heap.size w w' := by
  have e1 := has_out hd
  clear hd
  go_enter Tryz.func50, Tryz.ntmps50
  go_wp2_with fail
  refine (rahas_any h d).mono ?_
  rintro e w1 ⟨rfl, t1⟩
  rw [e1]
  clear e1
  go_wp2_with fail
  go_ret
  exact ⟨rfl, t1⟩
set_option maxRecDepth 100000 in
theorem rarot_in (h : Hid (RArrB U w a v Fs ps s sts)) (d : Nat) {rs : RSt} (hst : sts[d]? = some rs) (hg : RGood rs) (z off mask : Int) :
    Calls Tryz.prog 51 #[.pointer (some ⟨a, 0, none⟩), .int .i64 d, .int .i64 z, .int .i64 off, .int .u32 mask] w fun e w' => e = .returned (.int .i64 (rotC rs.gone s z off mask (badE rs.L z))) ∧ RAUpd U w w' a s (sts.set d (rtR s rs z off mask)) := by
  obtain ⟨p, hp, hD, hd⟩ := h.out.p_at hst
  have e1 := has_in hd
  obtain ⟨gb, cc, rfl⟩ := rarr_form h.out (by omega)
  have h0 : (0 : Int) ≤ (d : Int) := Int.natCast_nonneg _
  have h1 : (d : Int) < (sts.length : Int) := by omega
  have HD := Lib.hid hD
  clear hD
  go_enter Tryz.func51, Tryz.ntmps51
  go_wp2_with fail
  refine (rahas_any h d).mono ?_
  rintro e w1 ⟨rfl, t1⟩
  rw [e1]
  have c0 := rarr_c0 (h.out.below t1)
  have cg := rarr_cg (h.out.below t1) hp
  have T1 := Lib.hid t1
  clear t1 e1
  go_wp2_with fail
  refine (rrot_exact (Lib.hid (HD.out.below T1.out)) z off mask (by have := hg.few; omega)).mono ?_
  rintro e w2 ⟨rfl, u2⟩
  have U2 := Lib.hid (show RUpd (Fs d) w1 w2 p s (rtR s rs z off mask) from u2)
  clear u2
  go_wp2_with fail
  go_ret
  exact ⟨rfl, h.out.upd2 T1.out hp U2.out⟩
set_option maxRecDepth 100000 in
theorem rarot_out (h : Hid (RArrB U w a v Fs ps s sts)) (d : Int) (hd : ¬ (0 ≤ d ∧ d < sts.length)) (z off mask : Int) :
    Calls Tryz.prog 51 #[.pointer (some ⟨a, 0, none⟩), .int .i64 d, .int .i64 z, .int .i64 off, .int .u32 mask] w fun e w' => e = .returned (.int .i64 2) ∧ Below w.heap.size w w' := by
  have e1 := has_out hd
  clear hd
  go_enter Tryz.func51, Tryz.ntmps51
  go_wp2_with fail
  refine (rahas_any h d).mono ?_
  rintro e w1 ⟨rfl, t1⟩
  rw [e1]
  clear e1
  go_wp2_with fail
  go_ret
  exact ⟨rfl, t1⟩
def goneLZ (sts : List RSt) : List Bool := sts.map (fun rs => !rs.gone)
end
end
section

def rstepTo (g : Nat → RSt → RSt) (i : Nat) (sts : List RSt) : List RSt := sts.mapIdx (fun j st => if j < i then g j st else st)
theorem rstepTo_get (g : Nat → RSt → RSt) (i : Nat) (sts : List RSt) (j : Nat) : (rstepTo g i sts)[j]? = (sts[j]?).map (fun st => if j < i then g j st else st) := by simp [rstepTo]
theorem rstepTo_len (g : Nat → RSt → RSt) (i : Nat) (sts : List RSt) : (rstepTo g i sts).length = sts.length := by simp [rstepTo]
theorem rstepTo_zero (g : Nat → RSt → RSt) (sts : List RSt) : rstepTo g 0 sts = sts := by
  apply List.ext_getElem?
  intro j
  rw [rstepTo_get]
  cases sts[j]? <;> simp
theorem rstepTo_at (g : Nat → RSt → RSt) (i : Nat) (sts : List RSt) {st : RSt} (h : sts[i]? = some st) : (rstepTo g i sts)[i]? = some st := by rw [rstepTo_get, h]; simp
theorem rstepTo_succ (g : Nat → RSt → RSt) (i : Nat) (sts : List RSt) {st : RSt} (h : sts[i]? = some st) : (rstepTo g i sts).set i (g i st) = rstepTo g (i + 1) sts := by
  apply List.ext_getElem?
  intro j
  rw [rstepTo_get]
  by_cases hj : i = j
  · subst hj
    rw [List.getElem?_set_self (by rw [rstepTo_len]; exact (List.getElem?_eq_some_iff.1 h).1), h]; simp
  · rw [List.getElem?_set_ne hj, rstepTo_get]
    cases sts[j]? with
    | none => rfl
    | some y =>
      simp only [Option.map_some, Option.some.injEq]
      by_cases h1 : j < i
      · rw [if_pos h1, if_pos (by omega)]
      · rw [if_neg h1, if_neg (by omega)]
theorem rstepTo_all (g : Nat → RSt → RSt) (sts : List RSt) : rstepTo g sts.length sts = sts.mapIdx g := by
  apply List.ext_getElem?
  intro j
  rw [rstepTo_get, List.getElem?_mapIdx]
  cases h : sts[j]? with
  | none => rfl
  | some y =>
    have := (List.getElem?_eq_some_iff.1 h).1
    simp [this]

section
variable {U : Nat → Prop} {w : World} {a s : Nat} {v : Value} {Fs : Nat → Nat → Prop} {ps : List Nat} {sts : List RSt}
set_option maxRecDepth 100000 in
set_option maxHeartbeats 4000000 in
theorem raflush_any {sts : List RSt} (h : Hid (RArrAt U w a s sts)) (hk : 0 < sts.length) (hk2 : sts.length ≤ 600) (hg : Hid (∀ rs ∈ sts, RGood rs)) :
    Calls Tryz.prog 45 #[.pointer (some ⟨a, 0, none⟩)] w fun e w' => e = .returned (.int .i64 (cnt (goneLZ sts))) ∧ RAUpd U w w' a s (sts.map flR) := by
  obtain ⟨v, Fs, ps, hB⟩ := h.out
  obtain ⟨gb, cc, rfl⟩ := rarr_form hB hk
  have HA0 : Hid (RArrB U w a (.slice (some ⟨gb, 0, none⟩) sts.length cc) Fs ps s (rstepTo (fun _ => flR) 0 sts)) := Lib.hid (by rw [rstepTo_zero]; exact hB)
  clear hB
  go_enter Tryz.func45, Tryz.ntmps45
  go_wp2_with fail
  go_loopw [3, 4] (fun vn vi wr => ∃ (i : Nat) (U' : Nat → Prop) (Fs' : Nat → Nat → Prop), i ≤ sts.length ∧ vn = .int .i64 (cnt (goneLZ (sts.take i))) ∧ vi = .int .i64 i ∧ Hid (RArrB U' wr a (.slice (some ⟨gb, 0, none⟩) sts.length cc) Fs' ps s (rstepTo (fun _ => flR) i sts)) ∧ Hid (∀ k, U' k → k < w.heap.size → U k) ∧ Hid (Keep U w wr)) (fun _ vi _ => sts.length - (intOf vi).toNat)
  case atStart => exact ⟨0, U, Fs, Nat.zero_le _, rfl, rfl, HA0, Lib.hid (fun _ h _ => h), Lib.hid (Keep.refl _ _)⟩
  case round =>
    clear HA0
    obtain ⟨wo, rfl⟩ : ∃ wo, wo = wr := ⟨_, rfl⟩
    obtain ⟨i, U', Fs', hi, rfl, rfl, A, hU, K⟩ := hrel
    have c0 := rarr_c0 A.out
    by_cases hlt : i < sts.length
    · obtain ⟨rs, hst⟩ : ∃ rs, sts[i]? = some rs := ⟨_, List.getElem?_eq_getElem hlt⟩
      obtain ⟨p, hp, hD, _⟩ := A.out.p_at (rstepTo_at (fun _ => flR) i sts hst)
      have hgd := hg.out rs (List.mem_of_getElem? hst)
      have cg := rarr_cg A.out hp
      have h1 : (i : Int) < (sts.length : Int) := by omega
      have h2 : (0 : Int) ≤ (i : Int) := Int.natCast_nonneg _
      have h3 : (i : Int) < 600 := by omega
      have htk : goneLZ (sts.take (i + 1)) = goneLZ (sts.take i) ++ [!rs.gone] := by
        rw [List.take_succ_eq_append_getElem hlt, (List.getElem?_eq_some_iff.1 hst).2]; simp [goneLZ]
      have hcs := cnt_snoc (goneLZ (sts.take i)) (!rs.gone)
      rw [← htk] at hcs
      have hcl := cnt_le (goneLZ (sts.take i))
      have hcl2 : (goneLZ (sts.take i)).length ≤ i := by simp [goneLZ]; omega
      obtain ⟨C, hC⟩ : ∃ C, cnt (goneLZ (sts.take i)) = C := ⟨_, rfl⟩
      rw [hC] at hcs hcl ⊢
      have hw : IntKind.i64.wrap ((C : Int) + 1) = (C : Int) + 1 := by rw [IntKind.wrap_i64]; omega
      have HD := Lib.hid hD
      have HP := Lib.hid hp
      have HST := Lib.hid hst
      have hfl := rflush_exact HD hgd.few
      have hsz := K.out.size
      cases hgn : rs.gone with
      | true =>
        rw [hgn] at hcs hfl
        have HCS := Lib.hid hcs
        have HG := Lib.hid hgn
        clear hcs htk hcl hcl2 hC hD hp hst hgn
        go_wp2_with fail
        refine hfl.mono ?_
        rintro e w3 ⟨rfl, u3⟩
        obtain ⟨U2, Fs2, A2, hU2, K2⟩ := A.out.upd1 HP.out (st' := flR rs) (by unfold flR; rw [HG.out]; exact u3)
        rw [rstepTo_succ (fun _ => flR) _ _ HST.out] at A2
        have A3 := Lib.hid A2
        have hU3 := Lib.hid (fun k hu (hlt : k < w.heap.size) => hU.out k (hU2 k hu (by omega)) hlt)
        have K3 := Lib.hid (K.out.trans (G := U') K2 (fun k hu hlt => hU.out k hu hlt))
        clear A2 hU2 K2 u3 hfl c0 cg
        go_wp2_with fail
        refine ⟨⟨i + 1, U2, Fs2, by omega, ?_, by go_num, A3, hU3, K3⟩, by simp [intOf]; omega⟩
        rw [HCS.out]; rfl
      | false =>
        rw [hgn] at hcs hfl
        have HCS := Lib.hid hcs
        have HG := Lib.hid hgn
        clear hcs htk hcl hcl2 hC hD hp hst hgn
        go_wp2_with fail
        refine hfl.mono ?_
        rintro e w3 ⟨rfl, u3⟩
        obtain ⟨U2, Fs2, A2, hU2, K2⟩ := A.out.upd1 HP.out (st' := flR rs) (by unfold flR; rw [HG.out]; exact u3)
        rw [rstepTo_succ (fun _ => flR) _ _ HST.out] at A2
        have A3 := Lib.hid A2
        have hU3 := Lib.hid (fun k hu (hlt : k < w.heap.size) => hU.out k (hU2 k hu (by omega)) hlt)
        have K3 := Lib.hid (K.out.trans (G := U') K2 (fun k hu hlt => hU.out k hu hlt))
        clear A2 hU2 K2 u3 hfl c0 cg
        go_wp2_with fail
        refine ⟨⟨i + 1, U2, Fs2, by omega, ?_, by go_num, A3, hU3, K3⟩, by simp [intOf]; omega⟩
        rw [HCS.out]; rfl
    · obtain rfl : i = sts.length := by omega
      have h1 : ¬ (sts.length : Int) < (sts.length : Int) := by omega
      go_wp2_with fail
      go_ret
      rw [rstepTo_all] at A
      have e : sts.mapIdx (fun _ => flR) = sts.map flR := by
        apply List.ext_getElem?
        intro j
        rw [List.getElem?_mapIdx, List.getElem?_map]
      rw [e] at A
      exact ⟨rfl, U', ⟨_, Fs', ps, A.out⟩, hU.out, K.out⟩

def crR (ks : List (List Bool)) (d : Nat) (rs : RSt) : RSt := { rs with L := rs.L ++ keptE (keepOf (kAt ks d)) 0 rs.wait, wait := [] }
end
end
section
attribute [local go_sem ↓] run_min_as run_max_as

section
variable {U : Nat → Prop} {w : World} {a s : Nat} {v : Value} {Fs : Nat → Nat → Prop} {ps : List Nat} {sts : List RSt}
end
end
section

section
variable {U : Nat → Prop} {w : World} {a s : Nat} {v : Value} {Fs : Nat → Nat → Prop} {ps : List Nat} {sts : List RSt}
end
end
section

set_option maxRecDepth 100000 in
set_option maxHeartbeats 8000000 in
theorem ranew_any (k s : Nat) (h1 : 1 ≤ k) (h2 : k ≤ 255) (h3 : 1 ≤ s) (h4 : s ≤ 600) (w : World) :
    Calls Tryz.prog 92 #[.int .i64 k, .int .i64 s] w fun e w' => ∃ a U, e = .returned (.pointer (some ⟨a, 0, none⟩)) ∧ RArrAt U w' a s (List.replicate k RSt.new) ∧ (∀ b, U b → w.heap.size ≤ b) ∧ Below w.heap.size w w' := by
  have d1 : (1 : Int) ≤ k := by omega
  have d2 : (k : Int) ≤ 255 := by omega
  go_enter Tryz.func92, Tryz.ntmps92
  go_wp2_with fail
  refine (rnew_good s h3 h4 w).mono ?_
  rintro e w0 ⟨x0, G0, rfl, _, _, t0⟩
  have T0 := Lib.hid t0
  have hE := RArrB.empty w0 s 100
  have bE : Below w0.heap.size w0 (w0.alloc (.cells #[.slice none 0 0] 100)) := (Below.refl _ _).alloc (Nat.le_refl _) _
  obtain ⟨w1, hw1⟩ : ∃ w1, w0.alloc (.cells #[.slice none 0 0] 100) = w1 := ⟨_, rfl⟩
  obtain ⟨a, ha⟩ : ∃ a, w0.heap.size = a := ⟨_, rfl⟩
  rw [hw1] at hE bE
  rw [ha] at hE
  have HE := Lib.hid hE
  have BE := Lib.hid (below_then bE T0.out)
  have hla : w.heap.size ≤ a := by have := T0.out.size; omega
  clear hE bE t0
  go_wp2_with fail
  clear hw1 ha
  go_loopw [6] (fun vi wr => ∃ (i : Nat) (U : Nat → Prop) (v : Value) (Fs : Nat → Nat → Prop) (ps : List Nat), i ≤ k ∧ vi = .int .i64 i ∧ Hid (RArrB U wr a v Fs ps s (List.replicate i RSt.new)) ∧ Hid (∀ b, U b → w.heap.size ≤ b) ∧ Hid (Below w.heap.size w wr)) (fun vi _ => k - (intOf vi).toNat)
  case atStart => exact ⟨0, _, _, _, _, Nat.zero_le _, rfl, HE, Lib.hid (by rintro b rfl; exact hla), BE⟩
  case round =>
    clear HE BE
    obtain ⟨wo, rfl⟩ : ∃ wo, wo = wr := ⟨_, rfl⟩
    obtain ⟨i, U, v, Fs, ps, hi, rfl, A, hU, K⟩ := hrel
    by_cases hlt : i < k
    · have h5 : (i : Int) < (k : Int) := by omega
      have h6 : (0 : Int) ≤ (i : Int) := Int.natCast_nonneg _
      have h7 : (i : Int) < 600 := by omega
      have hlen := A.out.len
      rw [List.length_replicate] at hlen
      obtain ⟨AA, c2, rfl, _⟩ := A.out.own.form
      have hps : ps.length < 255 := by omega
      clear hlen
      have q0 : wo.cell? ⟨a, 0, none⟩ = some (.slice AA ps.length c2) := A.out.box.cell 0
      have qd : wo.drew.cell? ⟨a, 0, none⟩ = some (.slice AA ps.length c2) := q0
      have z0 : wo.frozen? ⟨a, 0, none⟩ = false := A.out.box.frozen 0
      have hlc : a < wo.heap.size := A.out.box.lt
      have hne : some a ≠ (Value.slice AA ps.length c2).ownBlock := fun e => A.out.va e.symm
      go_wp2_with fail
      refine wp_region_held_drew (S := fun _ => True) (by kernel_rfl) (by trivial) (fun hHeld => ?_)
      refine wpAnyH_take (i := 0) (v := ?_) rfl (by kernel_rfl) (by kernel_rfl) (by kernel_rfl) (fun _ _ _ h => h) (Or.inl ⟨by rfl, ?_⟩) (by assumption) ?_
      rotate_left
      · (intro wq hSw; (try dsimp only at hSw); (try simp only [zz1, zz2, zz3]); go_simp); try with_reducible rfl
      try simp only [zz1, zz2, zz3, Act.put, zz4, zz5, zz6]
      refine wpAnyH_take (i := 1) (v := ?_) rfl (by kernel_rfl) (by kernel_rfl) (by kernel_rfl) (fun _ _ _ h => h) (Or.inl ⟨by rfl, ?_⟩) (by assumption) ?_
      rotate_left
      · (intro wq hSw; (try dsimp only at hSw); (try simp only [zz1, zz2, zz3]); go_simp); try with_reducible rfl
      try simp only [zz1, zz2, zz3, Act.put, zz4, zz5, zz6]
      refine wpAnyH_take (i := 2) (v := ?_) rfl (by kernel_rfl) (by kernel_rfl) (by kernel_rfl) (fun _ _ _ h => h) (Or.inl ⟨by rfl, ?_⟩) (by assumption) ?_
      rotate_left
      · (intro wq hSw; (try dsimp only at hSw); (try simp only [zz1, zz2, zz3]); go_simp); try with_reducible rfl
      try simp only [zz1, zz2, zz3, Act.put, zz4, zz5, zz6]
      refine wpAnyH_take (i := 3) (v := ?_) rfl (by kernel_rfl) (by kernel_rfl) (by kernel_rfl) (fun _ _ _ h => h) (Or.inl ⟨by rfl, ?_⟩) (by assumption) ?_
      rotate_left
      · (intro wq hSw; (try dsimp only at hSw); (try simp only [zz1, zz2, zz3]); go_simp); try with_reducible rfl
      try simp only [zz1, zz2, zz3, Act.put, zz4, zz5, zz6]
      refine wpAnyH_take (i := 5) (v := ?_) rfl (by kernel_rfl) (by kernel_rfl) (by kernel_rfl) (fun _ _ _ h => h) (Or.inl ⟨by rfl, ?_⟩) (by assumption) ?_
      rotate_left
      · (intro wq hSw; (try dsimp only at hSw); (try simp only [zz1, zz2, zz3]); go_simp); try with_reducible rfl
      try simp only [zz1, zz2, zz3, Act.put, zz4, zz5, zz6]
      refine wpAnyH_ready (rs := [4, 6]) (by kernel_rfl) (by simp) ?_
      refine AllReadyH.cons rfl (fun K hK => ?_) (AllReadyH.cons rfl (fun K hK => ?_) AllReadyH.nil)
      · try simp only [zz1, zz2, zz3]
        go_simp
        refine hK.out _ _ (by trivial) (fun hHeld => ?_)
        clear hK K
        try simp only [zz1, zz2, zz3, Act.put, zz4, zz5, zz6]
        refine rdH 6 rfl fun K hK => ?_
        try simp only [zz1, zz2, zz3]
        go_simp
        refine (rnew_good s h3 h4 wo.drew).mono ?_
        rintro e w3 ⟨p', F', rfl, D3, hF3, t3⟩
        have T3 : Below wo.heap.size wo w3 := below_then t3 (Below.refl _ _).drew
        have c3 : w3.cell? ⟨a, 0, none⟩ = some (.slice AA ps.length c2) := (T3.cell (p := ⟨a, 0, none⟩) hlc).trans q0
        have c3a : ∀ o, (w3.alloc o).cell? ⟨a, 0, none⟩ = some (.slice AA ps.length c2) := fun o => cell_alloc2 c3 o
        have z3 := (T3.frozen (p := ⟨a, 0, none⟩) hlc).trans z0
        have own3 := A.out.own.keep PtrR.stable T3
        replace D3 := Lib.hid D3
        replace hF3 := Lib.hid hF3
        replace T3 := Lib.hid T3
        clear t3
        try (go_wp2_with fail)
        refine hK.out _ _ (by trivial) (fun hHeld => ?_)
        clear hK K
        try simp only [zz1, zz2, zz3, Act.put, zz4, zz5, zz6]
        refine rdH 7 rfl fun K hK => ?_
        try simp only [zz1, zz2, zz3]
        go_simp
        refine hK.out _ _ (by trivial) (fun hHeld => ?_)
        clear hK K
        try simp only [zz1, zz2, zz3, Act.put, zz4, zz5, zz6]
        refine rdH 8 rfl fun K hK => ?_
        refine step_of_list (by rfl) (wpList_push1 PtrR.stable PtrR.one slRPtr (by rfl) (by rfl) (base := 0) (S := fun _ => False) (cs := #[.pointer (some ⟨p', 0, none⟩)]) (y := p') (by rfl) (by rfl) own3 (by rfl) (show PtrR _ _ _ p' from rfl) (by unfold maxLen; omega) (by omega) (Nat.zero_le _) ?_)
        intro A11 c11 u11 hc11 own11 hlt11 hb11 hat11
        refine And.intro rfl ?_
        have y0 := cell_far2 c3 u11.ok hne
        have y1 := frozen_far2 c3 z3 u11.ok hne
        refine hK.out _ _ (by trivial) (fun hHeld => ?_)
        clear hK K
        try simp only [zz1, zz2, zz3, Act.put, zz4, zz5, zz6]
        refine wpAnyH_take (i := 9) (v := ?_) rfl (by kernel_rfl) (by kernel_rfl) (by kernel_rfl) (fun _ _ _ h => h) (Or.inl ⟨by rfl, ?_⟩) (by assumption) ?_
        rotate_left
        · (intro wq hSw; (try dsimp only at hSw); (try simp only [zz1, zz2, zz3]); go_simp); try with_reducible rfl
        try simp only [zz1, zz2, zz3, Act.put, zz4, zz5, zz6]
        refine wpAnyH_take (i := 10) (v := ?_) rfl (by kernel_rfl) (by kernel_rfl) (by kernel_rfl) (fun _ _ _ h => h) (Or.inl ⟨by rfl, ?_⟩) (by assumption) ?_
        rotate_left
        · (intro wq hSw; (try dsimp only at hSw); (try simp only [zz1, zz2, zz3]); go_simp); try with_reducible rfl
        try simp only [zz1, zz2, zz3, Act.put, zz4, zz5, zz6]
        refine rdH 11 rfl fun K hK => ?_
        try simp only [zz1, zz2, zz3]
        go_simp
        refine hK.out _ _ (by trivial) (fun hHeld => ?_)
        clear hK K
        try simp only [zz1, zz2, zz3, Act.put, zz4, zz5, zz6]
        refine wpAnyH_done (by kernel_rfl) ?_ _
        go_wp2_with fail
        obtain ⟨U', Fs', A3, hU3, hK3⟩ := (A.out.below T3.out).push D3.out (fun b hf hu => by have h1 := hF3.out b hf; have h2 := A.out.lt b hu; simp only [World.size_drew] at h1; omega) u11.ok hlt11 own11 hat11
        have hsz := K.out.size
        have hs2 := T3.out.size
        refine ⟨⟨i + 1, U', _, Fs', ps ++ [p'], by omega, by go_num, Lib.hid (by rw [List.replicate_succ']; exact A3), Lib.hid (fun b hb => ?_), Lib.hid (K.out.trans ((T3.out.mono hsz).trans (hK3.below (by omega) hU.out)))⟩, by simp [intOf]; omega⟩
        by_cases hblt : b < w3.heap.size
        · rcases hU3 b hb hblt with h | h
          · exact hU.out b h
          · have h1 := hF3.out b h
            simp only [World.size_drew] at h1
            omega
        · omega
      · try simp only [zz1, zz2, zz3]
        go_simp
        refine (rnew_good s h3 h4 wo.drew).mono ?_
        rintro e w3 ⟨p', F', rfl, D3, hF3, t3⟩
        have T3 : Below wo.heap.size wo w3 := below_then t3 (Below.refl _ _).drew
        have c3 : w3.cell? ⟨a, 0, none⟩ = some (.slice AA ps.length c2) := (T3.cell (p := ⟨a, 0, none⟩) hlc).trans q0
        have c3a : ∀ o, (w3.alloc o).cell? ⟨a, 0, none⟩ = some (.slice AA ps.length c2) := fun o => cell_alloc2 c3 o
        have z3 := (T3.frozen (p := ⟨a, 0, none⟩) hlc).trans z0
        have own3 := A.out.own.keep PtrR.stable T3
        replace D3 := Lib.hid D3
        replace hF3 := Lib.hid hF3
        replace T3 := Lib.hid T3
        clear t3
        try (go_wp2_with fail)
        refine hK.out _ _ (by trivial) (fun hHeld => ?_)
        clear hK K
        try simp only [zz1, zz2, zz3, Act.put, zz4, zz5, zz6]
        refine wpAnyH_ready (rs := [4, 7]) (by kernel_rfl) (by simp) ?_
        refine AllReadyH.cons rfl (fun K hK => ?_) (AllReadyH.cons rfl (fun K hK => ?_) AllReadyH.nil)
        · try simp only [zz1, zz2, zz3]
          go_simp
          refine hK.out _ _ (by trivial) (fun hHeld => ?_)
          clear hK K
          try simp only [zz1, zz2, zz3, Act.put, zz4, zz5, zz6]
          refine rdH 7 rfl fun K hK => ?_
          try simp only [zz1, zz2, zz3]
          go_simp
          refine hK.out _ _ (by trivial) (fun hHeld => ?_)
          clear hK K
          try simp only [zz1, zz2, zz3, Act.put, zz4, zz5, zz6]
          refine rdH 8 rfl fun K hK => ?_
          refine step_of_list (by rfl) (wpList_push1 PtrR.stable PtrR.one slRPtr (by rfl) (by rfl) (base := 0) (S := fun _ => False) (cs := #[.pointer (some ⟨p', 0, none⟩)]) (y := p') (by rfl) (by rfl) own3 (by rfl) (show PtrR _ _ _ p' from rfl) (by unfold maxLen; omega) (by omega) (Nat.zero_le _) ?_)
          intro A11 c11 u11 hc11 own11 hlt11 hb11 hat11
          refine And.intro rfl ?_
          have y0 := cell_far2 c3 u11.ok hne
          have y1 := frozen_far2 c3 z3 u11.ok hne
          refine hK.out _ _ (by trivial) (fun hHeld => ?_)
          clear hK K
          try simp only [zz1, zz2, zz3, Act.put, zz4, zz5, zz6]
          refine wpAnyH_take (i := 9) (v := ?_) rfl (by kernel_rfl) (by kernel_rfl) (by kernel_rfl) (fun _ _ _ h => h) (Or.inl ⟨by rfl, ?_⟩) (by assumption) ?_
          rotate_left
          · (intro wq hSw; (try dsimp only at hSw); (try simp only [zz1, zz2, zz3]); go_simp); try with_reducible rfl
          try simp only [zz1, zz2, zz3, Act.put, zz4, zz5, zz6]
          refine wpAnyH_take (i := 10) (v := ?_) rfl (by kernel_rfl) (by kernel_rfl) (by kernel_rfl) (fun _ _ _ h => h) (Or.inl ⟨by rfl, ?_⟩) (by assumption) ?_
          rotate_left
          · (intro wq hSw; (try dsimp only at hSw); (try simp only [zz1, zz2, zz3]); go_simp); try with_reducible rfl
          try simp only [zz1, zz2, zz3, Act.put, zz4, zz5, zz6]
          refine rdH 11 rfl fun K hK => ?_
          try simp only [zz1, zz2, zz3]
          go_simp
          refine hK.out _ _ (by trivial) (fun hHeld => ?_)
          clear hK K
          try simp only [zz1, zz2, zz3, Act.put, zz4, zz5, zz6]
          refine wpAnyH_done (by kernel_rfl) ?_ _
          go_wp2_with fail
          obtain ⟨U', Fs', A3, hU3, hK3⟩ := (A.out.below T3.out).push D3.out (fun b hf hu => by have h1 := hF3.out b hf; have h2 := A.out.lt b hu; simp only [World.size_drew] at h1; omega) u11.ok hlt11 own11 hat11
          have hsz := K.out.size
          have hs2 := T3.out.size
          refine ⟨⟨i + 1, U', _, Fs', ps ++ [p'], by omega, by go_num, Lib.hid (by rw [List.replicate_succ']; exact A3), Lib.hid (fun b hb => ?_), Lib.hid (K.out.trans ((T3.out.mono hsz).trans (hK3.below (by omega) hU.out)))⟩, by simp [intOf]; omega⟩
          by_cases hblt : b < w3.heap.size
          · rcases hU3 b hb hblt with h | h
            · exact hU.out b h
            · have h1 := hF3.out b h
              simp only [World.size_drew] at h1
              omega
          · omega
        · try simp only [zz1, zz2, zz3]
          go_simp
          refine hK.out _ _ (by trivial) (fun hHeld => ?_)
          clear hK K
          try simp only [zz1, zz2, zz3, Act.put, zz4, zz5, zz6]
          refine rdH 4 rfl fun K hK => ?_
          try simp only [zz1, zz2, zz3]
          go_simp
          refine hK.out _ _ (by trivial) (fun hHeld => ?_)
          clear hK K
          try simp only [zz1, zz2, zz3, Act.put, zz4, zz5, zz6]
          refine rdH 8 rfl fun K hK => ?_
          refine step_of_list (by rfl) (wpList_push1 PtrR.stable PtrR.one slRPtr (by rfl) (by rfl) (base := 0) (S := fun _ => False) (cs := #[.pointer (some ⟨p', 0, none⟩)]) (y := p') (by rfl) (by rfl) own3 (by rfl) (show PtrR _ _ _ p' from rfl) (by unfold maxLen; omega) (by omega) (Nat.zero_le _) ?_)
          intro A11 c11 u11 hc11 own11 hlt11 hb11 hat11
          refine And.intro rfl ?_
          have y0 := cell_far2 c3 u11.ok hne
          have y1 := frozen_far2 c3 z3 u11.ok hne
          refine hK.out _ _ (by trivial) (fun hHeld => ?_)
          clear hK K
          try simp only [zz1, zz2, zz3, Act.put, zz4, zz5, zz6]
          refine wpAnyH_take (i := 9) (v := ?_) rfl (by kernel_rfl) (by kernel_rfl) (by kernel_rfl) (fun _ _ _ h => h) (Or.inl ⟨by rfl, ?_⟩) (by assumption) ?_
          rotate_left
          · (intro wq hSw; (try dsimp only at hSw); (try simp only [zz1, zz2, zz3]); go_simp); try with_reducible rfl
          try simp only [zz1, zz2, zz3, Act.put, zz4, zz5, zz6]
          refine wpAnyH_take (i := 10) (v := ?_) rfl (by kernel_rfl) (by kernel_rfl) (by kernel_rfl) (fun _ _ _ h => h) (Or.inl ⟨by rfl, ?_⟩) (by assumption) ?_
          rotate_left
          · (intro wq hSw; (try dsimp only at hSw); (try simp only [zz1, zz2, zz3]); go_simp); try with_reducible rfl
          try simp only [zz1, zz2, zz3, Act.put, zz4, zz5, zz6]
          refine rdH 11 rfl fun K hK => ?_
          try simp only [zz1, zz2, zz3]
          go_simp
          refine hK.out _ _ (by trivial) (fun hHeld => ?_)
          clear hK K
          try simp only [zz1, zz2, zz3, Act.put, zz4, zz5, zz6]
          refine wpAnyH_done (by kernel_rfl) ?_ _
          go_wp2_with fail
          obtain ⟨U', Fs', A3, hU3, hK3⟩ := (A.out.below T3.out).push D3.out (fun b hf hu => by have h1 := hF3.out b hf; have h2 := A.out.lt b hu; simp only [World.size_drew] at h1; omega) u11.ok hlt11 own11 hat11
          have hsz := K.out.size
          have hs2 := T3.out.size
          refine ⟨⟨i + 1, U', _, Fs', ps ++ [p'], by omega, by go_num, Lib.hid (by rw [List.replicate_succ']; exact A3), Lib.hid (fun b hb => ?_), Lib.hid (K.out.trans ((T3.out.mono hsz).trans (hK3.below (by omega) hU.out)))⟩, by simp [intOf]; omega⟩
          by_cases hblt : b < w3.heap.size
          · rcases hU3 b hb hblt with h | h
            · exact hU.out b h
            · have h1 := hF3.out b h
              simp only [World.size_drew] at h1
              omega
          · omega
    · obtain rfl : i = k := by omega
      have h5 : ¬ (i : Int) < (i : Int) := by omega
      go_wp2_with fail
      go_ret
      exact ⟨a, rfl, U, ⟨v, Fs, ps, A.out⟩, hU.out, K.out⟩

/-! ### None -/
end
section
def rrtB (kd : Nat) (pl : Int) (n : Nat) : Bool := decide (1 ≤ kd ∧ kd ≤ 4 ∧ 0 ≤ pl ∧ pl < n)
section
variable {V : Nat → Prop} {w : World} {x s : Nat} {v : Value} {Fs : Nat → Nat → Prop} {ps : List Nat} {ra : List RSt}
theorem rarr_n (h : RArrB V w x v Fs ps s ra) (hk : 0 < ra.length) : ∃ g c p, v = .slice (some ⟨g, 0, none⟩) ra.length c ∧ w.cell? ⟨x, 0, none⟩ = some (.slice (some ⟨g, 0, none⟩) ra.length c) ∧ w.cell? ⟨g, 0, none⟩ = some (.pointer (some ⟨p, 0, none⟩)) ∧ w.cell? ⟨p, 0, none⟩ = some (.int .i64 (s : Int)) := by
  obtain ⟨g, c, rfl⟩ := rarr_form h hk
  obtain ⟨rs, hrs⟩ : ∃ rs, ra[0]? = some rs := ⟨_, List.getElem?_eq_getElem hk⟩
  obtain ⟨p, hp, hR, _⟩ := h.p_at hrs
  obtain ⟨Sb, vL, vW, hB, _⟩ := hR
  exact ⟨g, c, p, rfl, rarr_c0 h, rarr_cg h hp, hB.box.cell 0⟩
end
set_option maxRecDepth 100000 in
set_option maxHeartbeats 8000000 in
theorem rright_any {V : Nat → Prop} {w : World} {x n sb kd gn K M : Nat} {pl : Int} {v : Value} {Fs : Nat → Nat → Prop} {ps : List Nat} {ra : List RSt} (hS : BoxAt w sb #[.pointer (some ⟨x, 0, none⟩), .int .i64 (K : Int), .int .i64 (M : Int)]) (h : RArrB V w x v Fs ps n ra) (hk : 0 < ra.length) :
    Calls Tryz.prog 99 #[.pointer (some ⟨sb, 0, none⟩), .agg #[.int .u8 (kd : Int), .int .i64 pl, .int .u64 (gn : Int)]] w fun e w' => e = .returned (.bool (rrtB kd pl n)) ∧ Below w.heap.size w w' := by
  have b0 := BoxAt.new w #[.int .u8 (kd : Int), .int .i64 pl, .int .u64 (gn : Int)] 38
  have hb0 : Below w.heap.size w (w.alloc (.cells #[.int .u8 (kd : Int), .int .i64 pl, .int .u64 (gn : Int)] 38)) := (Below.refl _ _).alloc (Nat.le_refl _) _
  have h1 := h.below hb0
  have hS1 := hS.below hb0
  obtain ⟨W, hW⟩ : ∃ W, w.alloc (.cells #[.int .u8 (kd : Int), .int .i64 pl, .int .u64 (gn : Int)] 38) = W := ⟨_, rfl⟩
  rw [hW] at b0 hb0 h1 hS1
  obtain ⟨g, c, p, rfl, c1, c2, c3⟩ := rarr_n h1 hk
  obtain ⟨p0, hp0⟩ : ∃ p0, w.heap.size = p0 := ⟨_, rfl⟩
  rw [hp0] at b0
  have bd : BoxAt W.drew p0 #[.int .u8 (kd : Int), .int .i64 pl, .int .u64 (gn : Int)] := b0.keep rfl
  have Sd : BoxAt W.drew sb #[.pointer (some ⟨x, 0, none⟩), .int .i64 (K : Int), .int .i64 (M : Int)] := hS1.keep rfl
  have hdr : Below W.heap.size W W.drew := (Below.refl _ _).drew
  have c1d : W.drew.cell? ⟨x, 0, none⟩ = some (.slice (some ⟨g, 0, none⟩) ra.length c) := c1
  have c2d : W.drew.cell? ⟨g, 0, none⟩ = some (.pointer (some ⟨p, 0, none⟩)) := c2
  have c3d : W.drew.cell? ⟨p, 0, none⟩ = some (.int .i64 (n : Int)) := c3
  have s0 := show W.drew.cell? ⟨p0, 0, none⟩ = some (.int .u8 (kd : Int)) ∧ W.drew.cell? ⟨p0, 1, none⟩ = some (.int .i64 pl) ∧ W.drew.cell? ⟨sb, 0, none⟩ = some (.pointer (some ⟨x, 0, none⟩)) ∧ W.drew.cell? ⟨x, 0, none⟩ = some (.slice (some ⟨g, 0, none⟩) ra.length c) ∧ W.drew.cell? ⟨g, 0, none⟩ = some (.pointer (some ⟨p, 0, none⟩)) ∧ W.drew.cell? ⟨p, 0, none⟩ = some (.int .i64 (n : Int)) from ⟨bd.cell 0, bd.cell 1, Sd.cell 0, c1d, c2d, c3d⟩
  have hbd := hb0.drew
  rw [hp0] at hbd
  have HBD := Lib.hid hbd
  clear hbd
  have hk0 : (0 : Int) < (ra.length : Int) := by omega
  clear h h1 hS hS1 b0 hb0 bd Sd hdr c1 c2 c3 c1d c2d c3d
  by_cases t1 : (1 : Int) ≤ (kd : Int)
  · by_cases t2 : (kd : Int) ≤ 4
    · by_cases t3 : (0 : Int) ≤ pl
      · have t1' : (kd : Int) ≥ 1 := t1
        have t3' : pl ≥ 0 := t3
        have d4 : decide ((0 : Int) ≤ pl) = true := decide_eq_true t3
        have HRB := Lib.hid (show rrtB kd pl n = decide (pl < (n : Int)) by unfold rrtB; by_cases h9 : pl < (n : Int) <;> simp [h9] <;> omega)
        go_enter Tryz.func99, Tryz.ntmps99
        go_wp2_with fail
        refine wp_region_held_drew (S := fun w' => w'.cell? ⟨p0, 0, none⟩ = some (.int .u8 (kd : Int)) ∧ w'.cell? ⟨p0, 1, none⟩ = some (.int .i64 pl) ∧ w'.cell? ⟨sb, 0, none⟩ = some (.pointer (some ⟨x, 0, none⟩)) ∧ w'.cell? ⟨x, 0, none⟩ = some (.slice (some ⟨g, 0, none⟩) ra.length c) ∧ w'.cell? ⟨g, 0, none⟩ = some (.pointer (some ⟨p, 0, none⟩)) ∧ w'.cell? ⟨p, 0, none⟩ = some (.int .i64 (n : Int))) (by kernel_rfl) (by exact s0) (fun hHeld => ?_)
        refine tkH 0 rfl ?_
        refine tkH 1 rfl ?_
        refine tkH 2 rfl ?_
        refine tkH 3 rfl ?_
        refine tkH 4 rfl ?_
        refine tkH 5 rfl ?_
        refine tkH 6 rfl ?_
        refine tkH 7 rfl ?_
        refine tkH 8 rfl ?_
        refine tkH 9 rfl ?_
        refine tkH 10 rfl ?_
        refine tkH 11 rfl ?_
        refine tkH 12 rfl ?_
        refine tkH 13 rfl ?_
        refine tkH 14 rfl ?_
        refine tkH 15 rfl ?_
        refine tkH 16 rfl ?_
        refine tkH 17 rfl ?_
        refine tkH 18 rfl ?_
        refine tkH 19 rfl ?_
        refine tkH 20 rfl ?_
        refine tkH 21 rfl ?_
        refine tkH 22 rfl ?_
        refine tkH 23 rfl ?_
        refine tkH 24 rfl ?_
        refine tkH 25 rfl ?_
        refine tkH 26 rfl ?_
        refine tkH 27 rfl ?_
        refine tkH 28 rfl ?_
        refine tkH 29 rfl ?_
        refine tkH 30 rfl ?_
        refine wpAnyH_done (by kernel_rfl) ?_ _
        go_wp2_with fail
        go_ret
        exact ⟨by rw [HRB.out]; rfl, by first | exact HBD.out | (rw [hp0]; exact HBD.out)⟩
      · have HRB := Lib.hid (show rrtB kd pl n = false from decide_eq_false (by omega))
        have t3' : ¬ pl ≥ 0 := t3
        have d4 : decide ((0 : Int) ≤ pl) = false := decide_eq_false t3
        have t1' : (kd : Int) ≥ 1 := t1
        go_enter Tryz.func99, Tryz.ntmps99
        go_wp2_with fail
        refine wp_region_held_drew (S := fun w' => w'.cell? ⟨p0, 0, none⟩ = some (.int .u8 (kd : Int)) ∧ w'.cell? ⟨p0, 1, none⟩ = some (.int .i64 pl) ∧ w'.cell? ⟨sb, 0, none⟩ = some (.pointer (some ⟨x, 0, none⟩)) ∧ w'.cell? ⟨x, 0, none⟩ = some (.slice (some ⟨g, 0, none⟩) ra.length c) ∧ w'.cell? ⟨g, 0, none⟩ = some (.pointer (some ⟨p, 0, none⟩)) ∧ w'.cell? ⟨p, 0, none⟩ = some (.int .i64 (n : Int))) (by kernel_rfl) (by exact s0) (fun hHeld => ?_)
        refine tkH 0 rfl ?_
        refine tkH 1 rfl ?_
        refine tkH 2 rfl ?_
        refine tkH 3 rfl ?_
        refine tkH 4 rfl ?_
        refine tkH 5 rfl ?_
        refine tkH 6 rfl ?_
        refine tkH 7 rfl ?_
        refine tkH 8 rfl ?_
        refine tkH 9 rfl ?_
        refine tkH 10 rfl ?_
        refine tkH 11 rfl ?_
        refine tkH 12 rfl ?_
        refine tkH 13 rfl ?_
        refine skH 14 rfl ?_
        refine skH 15 rfl ?_
        refine skH 16 rfl ?_
        refine skH 17 rfl ?_
        refine skH 18 rfl ?_
        refine skH 19 rfl ?_
        refine skH 20 rfl ?_
        refine skH 21 rfl ?_
        refine skH 22 rfl ?_
        refine skH 23 rfl ?_
        refine skH 24 rfl ?_
        refine skH 25 rfl ?_
        refine skH 26 rfl ?_
        refine skH 27 rfl ?_
        refine skH 28 rfl ?_
        refine tkH 29 rfl ?_
        refine tkH 30 rfl ?_
        refine wpAnyH_done (by kernel_rfl) ?_ _
        go_wp2_with fail
        go_ret
        exact ⟨by rw [HRB.out]; rfl, by first | exact HBD.out | (rw [hp0]; exact HBD.out)⟩
    · have HRB := Lib.hid (show rrtB kd pl n = false from decide_eq_false (by omega))
      have t1' : (kd : Int) ≥ 1 := t1
      have d2 : decide ((kd : Int) ≤ 4) = false := decide_eq_false t2
      have d3 : ¬ kd ≤ 4 := by omega
      go_enter Tryz.func99, Tryz.ntmps99
      go_wp2_with fail
      refine wp_region_held_drew (S := fun w' => w'.cell? ⟨p0, 0, none⟩ = some (.int .u8 (kd : Int)) ∧ w'.cell? ⟨p0, 1, none⟩ = some (.int .i64 pl) ∧ w'.cell? ⟨sb, 0, none⟩ = some (.pointer (some ⟨x, 0, none⟩)) ∧ w'.cell? ⟨x, 0, none⟩ = some (.slice (some ⟨g, 0, none⟩) ra.length c) ∧ w'.cell? ⟨g, 0, none⟩ = some (.pointer (some ⟨p, 0, none⟩)) ∧ w'.cell? ⟨p, 0, none⟩ = some (.int .i64 (n : Int))) (by kernel_rfl) (by exact s0) (fun hHeld => ?_)
      refine tkH 0 rfl ?_
      refine tkH 1 rfl ?_
      refine tkH 2 rfl ?_
      refine tkH 3 rfl ?_
      refine tkH 4 rfl ?_
      refine tkH 5 rfl ?_
      refine tkH 6 rfl ?_
      refine tkH 7 rfl ?_
      refine tkH 8 rfl ?_
      refine skH 9 rfl ?_
      refine skH 10 rfl ?_
      refine skH 11 rfl ?_
      refine tkH 12 rfl ?_
      refine tkH 13 rfl ?_
      refine skH 14 rfl ?_
      refine skH 15 rfl ?_
      refine skH 16 rfl ?_
      refine skH 17 rfl ?_
      refine skH 18 rfl ?_
      refine skH 19 rfl ?_
      refine skH 20 rfl ?_
      refine skH 21 rfl ?_
      refine skH 22 rfl ?_
      refine skH 23 rfl ?_
      refine skH 24 rfl ?_
      refine skH 25 rfl ?_
      refine skH 26 rfl ?_
      refine skH 27 rfl ?_
      refine skH 28 rfl ?_
      refine tkH 29 rfl ?_
      refine tkH 30 rfl ?_
      refine wpAnyH_done (by kernel_rfl) ?_ _
      go_wp2_with fail
      go_ret
      exact ⟨by rw [HRB.out]; rfl, by first | exact HBD.out | (rw [hp0]; exact HBD.out)⟩
  · have HRB := Lib.hid (show rrtB kd pl n = false from decide_eq_false (by omega))
    have t1' : ¬ (kd : Int) ≥ 1 := t1
    have d2 : decide ((1 : Int) ≤ (kd : Int)) = false := decide_eq_false t1
    have d3 : ¬ 1 ≤ kd := by omega
    go_enter Tryz.func99, Tryz.ntmps99
    go_wp2_with fail
    refine wp_region_held_drew (S := fun w' => w'.cell? ⟨p0, 0, none⟩ = some (.int .u8 (kd : Int)) ∧ w'.cell? ⟨p0, 1, none⟩ = some (.int .i64 pl) ∧ w'.cell? ⟨sb, 0, none⟩ = some (.pointer (some ⟨x, 0, none⟩)) ∧ w'.cell? ⟨x, 0, none⟩ = some (.slice (some ⟨g, 0, none⟩) ra.length c) ∧ w'.cell? ⟨g, 0, none⟩ = some (.pointer (some ⟨p, 0, none⟩)) ∧ w'.cell? ⟨p, 0, none⟩ = some (.int .i64 (n : Int))) (by kernel_rfl) (by exact s0) (fun hHeld => ?_)
    refine tkH 0 rfl ?_
    refine tkH 1 rfl ?_
    refine tkH 2 rfl ?_
    refine tkH 3 rfl ?_
    refine skH 4 rfl ?_
    refine skH 5 rfl ?_
    refine skH 6 rfl ?_
    refine tkH 7 rfl ?_
    refine tkH 8 rfl ?_
    refine skH 9 rfl ?_
    refine skH 10 rfl ?_
    refine skH 11 rfl ?_
    refine tkH 12 rfl ?_
    refine tkH 13 rfl ?_
    refine skH 14 rfl ?_
    refine skH 15 rfl ?_
    refine skH 16 rfl ?_
    refine skH 17 rfl ?_
    refine skH 18 rfl ?_
    refine skH 19 rfl ?_
    refine skH 20 rfl ?_
    refine skH 21 rfl ?_
    refine skH 22 rfl ?_
    refine skH 23 rfl ?_
    refine skH 24 rfl ?_
    refine skH 25 rfl ?_
    refine skH 26 rfl ?_
    refine skH 27 rfl ?_
    refine skH 28 rfl ?_
    refine tkH 29 rfl ?_
    refine tkH 30 rfl ?_
    refine wpAnyH_done (by kernel_rfl) ?_ _
    go_wp2_with fail
    go_ret
    exact ⟨by rw [HRB.out]; rfl, by first | exact HBD.out | (rw [hp0]; exact HBD.out)⟩
end
section
section
variable {U : Nat → Prop} {w : World} {a n cb b k m kd gn : Nat} {pl : Int} {v : Value} {Fs : Nat → Nat → Prop} {ps : List Nat} {sts : List DSt}
set_option maxRecDepth 100000 in
set_option maxHeartbeats 16000000 in
theorem meant_bad (h : Hid (ArrB U w a v Fs ps n sts)) (HC : CodAt w cb b k m) (hlen : sts.length = k + m) (hn : n ≤ 60000) (hno : rrtB kd pl n = false) :
    Calls Tryz.prog 86 #[.pointer (some ⟨a, 0, none⟩), .pointer (some ⟨cb, 0, none⟩), .agg #[.int .u8 (kd : Int), .int .i64 pl, .int .u64 (gn : Int)]] w fun e w' => e = .returned (.tuple #[.pointer none, .int .i64 2]) ∧ Below w.heap.size w w' := by
  have hk1 := HC.k1
  have hN := fun w' (hb : Below w.heap.size w w') => an_any (w := w') (Lib.hid (h.out.below hb)) (by omega)
  have hSc := fun w' (hb : Below w.heap.size w w') => asectors_any (w := w') (Lib.hid (h.out.below hb)) (by omega)
  have hCn := fun w' (hb : Below w.heap.size w w') => cn_any (HC.below hb)
  obtain ⟨N, hNe⟩ : ∃ N, k + m = N := ⟨_, rfl⟩
  simp only [hlen] at hN
  rw [hNe] at hN hCn
  have hN1 : 1 ≤ N := by omega
  have e0 : ((N : Int) == 0) = false := by simp; omega
  have e1 : ((N : Int) != (N : Int)) = false := by simp
  have hrr : ¬ (1 ≤ kd ∧ kd ≤ 4 ∧ 0 ≤ pl ∧ pl < n) := of_decide_eq_false hno
  clear h HC hlen hNe hk1 hno
  by_cases t1 : (kd : Int) < 1
  · have z1 : decide ((kd : Int) < 1) = true := decide_eq_true t1
    have y1 : decide (kd < 1) = true := decide_eq_true (by omega)
    clear hrr
    go_enter Tryz.func86, Tryz.ntmps86
    go_wp2_with fail
    have bR := BoxAt.new w #[.int .u8 (kd : Int), .int .i64 pl, .int .u64 (gn : Int)] 38
    have hb0 : Below w.heap.size w (w.alloc (.cells #[.int .u8 (kd : Int), .int .i64 pl, .int .u64 (gn : Int)] 38)) := (Below.refl _ _).alloc (Nat.le_refl _) _
    change Calls _ _ _ (w.alloc (.cells #[.int .u8 (kd : Int), .int .i64 pl, .int .u64 (gn : Int)] 38)) _
    obtain ⟨wA, hwA⟩ : ∃ wA, w.alloc (.cells #[.int .u8 (kd : Int), .int .i64 pl, .int .u64 (gn : Int)] 38) = wA := ⟨_, rfl⟩
    rw [hwA] at bR hb0 ⊢
    clear hwA
    obtain ⟨q, hq⟩ : ∃ q, w.heap.size = q := ⟨_, rfl⟩
    rw [hq] at bR ⊢
    refine (hN _ hb0).mono ?_
    rintro e w1 ⟨rfl, hb1⟩
    have hw1 := hb0.trans (hb1.mono hb0.size)
    have bR1 := bR.below hb1
    go_wp2_with fail
    refine (hCn _ hw1).mono ?_
    rintro e w2 ⟨rfl, hb2⟩
    have hw2 := hw1.trans (hb2.mono hw1.size)
    have bR2 := bR1.below hb2
    clear bR hb0 hb1 hw1 bR1 hb2
    have bRd : BoxAt w2.drew q #[.int .u8 (kd : Int), .int .i64 pl, .int .u64 (gn : Int)] := bR2.keep rfl
    have hwd : Below w.heap.size w w2.drew := hw2.drew
    have s0 : w2.drew.cell? ⟨q, 0, none⟩ = some (.int .u8 (kd : Int)) ∧ w2.drew.cell? ⟨q, 1, none⟩ = some (.int .i64 pl) := ⟨bRd.cell 0, bRd.cell 1⟩
    clear bR2 hw2
    go_wp2_with fail
    refine wp_region_held_drew (S := fun w' => w'.cell? ⟨q, 0, none⟩ = some (.int .u8 (kd : Int)) ∧ w'.cell? ⟨q, 1, none⟩ = some (.int .i64 pl)) (by kernel_rfl) (by first | exact s0 | exact s5 | exact s6 | exact s7) (fun hHeld => ?_)
    refine tkH 0 rfl ?_
    refine tkH 2 rfl ?_
    refine rdH 1 rfl fun K hK => ?_
    try simp (maxSteps := 2000000) only [zz1, zz2, zz3]
    go_simp
    go_at_call 83
    refine (hN _ hwd).mono ?_
    rintro e w5 ⟨rfl, hb5⟩
    have hw5 := hwd.trans (hb5.mono hwd.size)
    have bR5 := bRd.below hb5
    have s5 : w5.cell? ⟨q, 0, none⟩ = some (.int .u8 (kd : Int)) ∧ w5.cell? ⟨q, 1, none⟩ = some (.int .i64 pl) := ⟨bR5.cell 0, bR5.cell 1⟩
    try (go_wp2_with fail)
    refine hK.out _ _ (by first | exact s0 | exact s5 | exact s6 | exact s7) (fun hHeld => ?_)
    clear hK K
    try simp (maxSteps := 2000000) only [zz1, zz2, zz3, Act.put, zz4, zz5, zz6]
    refine rdH 3 rfl fun K hK => ?_
    try simp (maxSteps := 2000000) only [zz1, zz2, zz3]
    go_simp
    go_at_call 57
    refine (hCn _ hw5).mono ?_
    rintro e w6 ⟨rfl, hb6⟩
    have hw6 := hw5.trans (hb6.mono hw5.size)
    have bR6 := bR5.below hb6
    have s6 : w6.cell? ⟨q, 0, none⟩ = some (.int .u8 (kd : Int)) ∧ w6.cell? ⟨q, 1, none⟩ = some (.int .i64 pl) := ⟨bR6.cell 0, bR6.cell 1⟩
    try (go_wp2_with fail)
    refine hK.out _ _ (by first | exact s0 | exact s5 | exact s6 | exact s7) (fun hHeld => ?_)
    clear hK K
    try simp (maxSteps := 2000000) only [zz1, zz2, zz3, Act.put, zz4, zz5, zz6]
    refine tkH 4 rfl ?_
    refine tkH 5 rfl ?_
    refine tkH 6 rfl ?_
    refine tkH 7 rfl ?_
    refine tkH 8 rfl ?_
    refine tkH 9 rfl ?_
    refine tkH 10 rfl ?_
    refine skH 11 rfl ?_
    refine skH 12 rfl ?_
    refine skH 13 rfl ?_
    refine tkH 14 rfl ?_
    refine tkH 15 rfl ?_
    refine skH 16 rfl ?_
    refine skH 17 rfl ?_
    refine skH 18 rfl ?_
    refine tkH 19 rfl ?_
    refine tkH 20 rfl ?_
    refine skH 21 rfl ?_
    refine skH 22 rfl ?_
    refine skH 23 rfl ?_
    refine skH 24 rfl ?_
    refine skH 25 rfl ?_
    refine tkH 26 rfl ?_
    refine tkH 27 rfl ?_
    refine wpAnyH_done (by kernel_rfl) ?_ _
    have HW7 := Lib.hid hw6
    clear hN hCn hSc hw5 hw6 bR5 bR6 bRd hwd
    go_wp2_with fail
    go_ret2
    exact ⟨rfl, by first | exact HW7.out | (rw [hq]; exact HW7.out)⟩
  · have z1 : decide ((kd : Int) < 1) = false := decide_eq_false t1
    have y1 : decide (kd < 1) = false := decide_eq_false (by omega)
    by_cases t2 : (kd : Int) > 4
    · have z2 : decide ((kd : Int) > 4) = true := decide_eq_true t2
      have y2 : decide (4 < (kd : Int)) = true := decide_eq_true t2
      have y3 : decide (4 < kd) = true := decide_eq_true (by omega)
      clear hrr
      go_enter Tryz.func86, Tryz.ntmps86
      go_wp2_with fail
      have bR := BoxAt.new w #[.int .u8 (kd : Int), .int .i64 pl, .int .u64 (gn : Int)] 38
      have hb0 : Below w.heap.size w (w.alloc (.cells #[.int .u8 (kd : Int), .int .i64 pl, .int .u64 (gn : Int)] 38)) := (Below.refl _ _).alloc (Nat.le_refl _) _
      change Calls _ _ _ (w.alloc (.cells #[.int .u8 (kd : Int), .int .i64 pl, .int .u64 (gn : Int)] 38)) _
      obtain ⟨wA, hwA⟩ : ∃ wA, w.alloc (.cells #[.int .u8 (kd : Int), .int .i64 pl, .int .u64 (gn : Int)] 38) = wA := ⟨_, rfl⟩
      rw [hwA] at bR hb0 ⊢
      clear hwA
      obtain ⟨q, hq⟩ : ∃ q, w.heap.size = q := ⟨_, rfl⟩
      rw [hq] at bR ⊢
      refine (hN _ hb0).mono ?_
      rintro e w1 ⟨rfl, hb1⟩
      have hw1 := hb0.trans (hb1.mono hb0.size)
      have bR1 := bR.below hb1
      go_wp2_with fail
      refine (hCn _ hw1).mono ?_
      rintro e w2 ⟨rfl, hb2⟩
      have hw2 := hw1.trans (hb2.mono hw1.size)
      have bR2 := bR1.below hb2
      clear bR hb0 hb1 hw1 bR1 hb2
      have bRd : BoxAt w2.drew q #[.int .u8 (kd : Int), .int .i64 pl, .int .u64 (gn : Int)] := bR2.keep rfl
      have hwd : Below w.heap.size w w2.drew := hw2.drew
      have s0 : w2.drew.cell? ⟨q, 0, none⟩ = some (.int .u8 (kd : Int)) ∧ w2.drew.cell? ⟨q, 1, none⟩ = some (.int .i64 pl) := ⟨bRd.cell 0, bRd.cell 1⟩
      clear bR2 hw2
      go_wp2_with fail
      refine wp_region_held_drew (S := fun w' => w'.cell? ⟨q, 0, none⟩ = some (.int .u8 (kd : Int)) ∧ w'.cell? ⟨q, 1, none⟩ = some (.int .i64 pl)) (by kernel_rfl) (by first | exact s0 | exact s5 | exact s6 | exact s7) (fun hHeld => ?_)
      refine tkH 0 rfl ?_
      refine tkH 2 rfl ?_
      refine rdH 1 rfl fun K hK => ?_
      try simp (maxSteps := 2000000) only [zz1, zz2, zz3]
      go_simp
      go_at_call 83
      refine (hN _ hwd).mono ?_
      rintro e w5 ⟨rfl, hb5⟩
      have hw5 := hwd.trans (hb5.mono hwd.size)
      have bR5 := bRd.below hb5
      have s5 : w5.cell? ⟨q, 0, none⟩ = some (.int .u8 (kd : Int)) ∧ w5.cell? ⟨q, 1, none⟩ = some (.int .i64 pl) := ⟨bR5.cell 0, bR5.cell 1⟩
      try (go_wp2_with fail)
      refine hK.out _ _ (by first | exact s0 | exact s5 | exact s6 | exact s7) (fun hHeld => ?_)
      clear hK K
      try simp (maxSteps := 2000000) only [zz1, zz2, zz3, Act.put, zz4, zz5, zz6]
      refine rdH 3 rfl fun K hK => ?_
      try simp (maxSteps := 2000000) only [zz1, zz2, zz3]
      go_simp
      go_at_call 57
      refine (hCn _ hw5).mono ?_
      rintro e w6 ⟨rfl, hb6⟩
      have hw6 := hw5.trans (hb6.mono hw5.size)
      have bR6 := bR5.below hb6
      have s6 : w6.cell? ⟨q, 0, none⟩ = some (.int .u8 (kd : Int)) ∧ w6.cell? ⟨q, 1, none⟩ = some (.int .i64 pl) := ⟨bR6.cell 0, bR6.cell 1⟩
      try (go_wp2_with fail)
      refine hK.out _ _ (by first | exact s0 | exact s5 | exact s6 | exact s7) (fun hHeld => ?_)
      clear hK K
      try simp (maxSteps := 2000000) only [zz1, zz2, zz3, Act.put, zz4, zz5, zz6]
      refine tkH 4 rfl ?_
      refine tkH 5 rfl ?_
      refine tkH 6 rfl ?_
      refine tkH 7 rfl ?_
      refine tkH 8 rfl ?_
      refine tkH 9 rfl ?_
      refine tkH 10 rfl ?_
      refine tkH 11 rfl ?_
      refine tkH 12 rfl ?_
      refine tkH 13 rfl ?_
      refine tkH 14 rfl ?_
      refine tkH 15 rfl ?_
      refine skH 16 rfl ?_
      refine skH 17 rfl ?_
      refine skH 18 rfl ?_
      refine tkH 19 rfl ?_
      refine tkH 20 rfl ?_
      refine skH 21 rfl ?_
      refine skH 22 rfl ?_
      refine skH 23 rfl ?_
      refine skH 24 rfl ?_
      refine skH 25 rfl ?_
      refine tkH 26 rfl ?_
      refine tkH 27 rfl ?_
      refine wpAnyH_done (by kernel_rfl) ?_ _
      have HW7 := Lib.hid hw6
      clear hN hCn hSc hw5 hw6 bR5 bR6 bRd hwd
      go_wp2_with fail
      go_ret2
      exact ⟨rfl, by first | exact HW7.out | (rw [hq]; exact HW7.out)⟩
    · have z2 : decide ((kd : Int) > 4) = false := decide_eq_false t2
      have y2 : decide (4 < (kd : Int)) = false := decide_eq_false t2
      have y3 : decide (4 < kd) = false := decide_eq_false (by omega)
      by_cases t3 : pl < 0
      · have z3 : decide (pl < 0) = true := decide_eq_true t3
        clear hrr
        go_enter Tryz.func86, Tryz.ntmps86
        go_wp2_with fail
        have bR := BoxAt.new w #[.int .u8 (kd : Int), .int .i64 pl, .int .u64 (gn : Int)] 38
        have hb0 : Below w.heap.size w (w.alloc (.cells #[.int .u8 (kd : Int), .int .i64 pl, .int .u64 (gn : Int)] 38)) := (Below.refl _ _).alloc (Nat.le_refl _) _
        change Calls _ _ _ (w.alloc (.cells #[.int .u8 (kd : Int), .int .i64 pl, .int .u64 (gn : Int)] 38)) _
        obtain ⟨wA, hwA⟩ : ∃ wA, w.alloc (.cells #[.int .u8 (kd : Int), .int .i64 pl, .int .u64 (gn : Int)] 38) = wA := ⟨_, rfl⟩
        rw [hwA] at bR hb0 ⊢
        clear hwA
        obtain ⟨q, hq⟩ : ∃ q, w.heap.size = q := ⟨_, rfl⟩
        rw [hq] at bR ⊢
        refine (hN _ hb0).mono ?_
        rintro e w1 ⟨rfl, hb1⟩
        have hw1 := hb0.trans (hb1.mono hb0.size)
        have bR1 := bR.below hb1
        go_wp2_with fail
        refine (hCn _ hw1).mono ?_
        rintro e w2 ⟨rfl, hb2⟩
        have hw2 := hw1.trans (hb2.mono hw1.size)
        have bR2 := bR1.below hb2
        clear bR hb0 hb1 hw1 bR1 hb2
        have bRd : BoxAt w2.drew q #[.int .u8 (kd : Int), .int .i64 pl, .int .u64 (gn : Int)] := bR2.keep rfl
        have hwd : Below w.heap.size w w2.drew := hw2.drew
        have s0 : w2.drew.cell? ⟨q, 0, none⟩ = some (.int .u8 (kd : Int)) ∧ w2.drew.cell? ⟨q, 1, none⟩ = some (.int .i64 pl) := ⟨bRd.cell 0, bRd.cell 1⟩
        clear bR2 hw2
        go_wp2_with fail
        refine wp_region_held_drew (S := fun w' => w'.cell? ⟨q, 0, none⟩ = some (.int .u8 (kd : Int)) ∧ w'.cell? ⟨q, 1, none⟩ = some (.int .i64 pl)) (by kernel_rfl) (by first | exact s0 | exact s5 | exact s6 | exact s7) (fun hHeld => ?_)
        refine tkH 0 rfl ?_
        refine tkH 2 rfl ?_
        refine rdH 1 rfl fun K hK => ?_
        try simp (maxSteps := 2000000) only [zz1, zz2, zz3]
        go_simp
        go_at_call 83
        refine (hN _ hwd).mono ?_
        rintro e w5 ⟨rfl, hb5⟩
        have hw5 := hwd.trans (hb5.mono hwd.size)
        have bR5 := bRd.below hb5
        have s5 : w5.cell? ⟨q, 0, none⟩ = some (.int .u8 (kd : Int)) ∧ w5.cell? ⟨q, 1, none⟩ = some (.int .i64 pl) := ⟨bR5.cell 0, bR5.cell 1⟩
        try (go_wp2_with fail)
        refine hK.out _ _ (by first | exact s0 | exact s5 | exact s6 | exact s7) (fun hHeld => ?_)
        clear hK K
        try simp (maxSteps := 2000000) only [zz1, zz2, zz3, Act.put, zz4, zz5, zz6]
        refine rdH 3 rfl fun K hK => ?_
        try simp (maxSteps := 2000000) only [zz1, zz2, zz3]
        go_simp
        go_at_call 57
        refine (hCn _ hw5).mono ?_
        rintro e w6 ⟨rfl, hb6⟩
        have hw6 := hw5.trans (hb6.mono hw5.size)
        have bR6 := bR5.below hb6
        have s6 : w6.cell? ⟨q, 0, none⟩ = some (.int .u8 (kd : Int)) ∧ w6.cell? ⟨q, 1, none⟩ = some (.int .i64 pl) := ⟨bR6.cell 0, bR6.cell 1⟩
        try (go_wp2_with fail)
        refine hK.out _ _ (by first | exact s0 | exact s5 | exact s6 | exact s7) (fun hHeld => ?_)
        clear hK K
        try simp (maxSteps := 2000000) only [zz1, zz2, zz3, Act.put, zz4, zz5, zz6]
        refine tkH 4 rfl ?_
        refine tkH 5 rfl ?_
        refine tkH 6 rfl ?_
        refine tkH 7 rfl ?_
        refine tkH 8 rfl ?_
        refine tkH 9 rfl ?_
        refine tkH 10 rfl ?_
        refine tkH 11 rfl ?_
        refine tkH 12 rfl ?_
        refine tkH 13 rfl ?_
        refine tkH 14 rfl ?_
        refine tkH 15 rfl ?_
        refine tkH 16 rfl ?_
        refine tkH 17 rfl ?_
        refine tkH 18 rfl ?_
        refine tkH 19 rfl ?_
        refine tkH 20 rfl ?_
        refine skH 21 rfl ?_
        refine skH 22 rfl ?_
        refine skH 23 rfl ?_
        refine skH 24 rfl ?_
        refine skH 25 rfl ?_
        refine tkH 26 rfl ?_
        refine tkH 27 rfl ?_
        refine wpAnyH_done (by kernel_rfl) ?_ _
        have HW7 := Lib.hid hw6
        clear hN hCn hSc hw5 hw6 bR5 bR6 bRd hwd
        go_wp2_with fail
        go_ret2
        exact ⟨rfl, by first | exact HW7.out | (rw [hq]; exact HW7.out)⟩
      · have z3 : decide (pl < 0) = false := decide_eq_false t3
        have z4 : decide (pl ≥ (n : Int)) = true := decide_eq_true (by omega)
        have y4 : decide ((n : Int) ≤ pl) = true := z4
        have t4 : (n : Int) ≤ pl := of_decide_eq_true z4
        clear hrr
        go_enter Tryz.func86, Tryz.ntmps86
        go_wp2_with fail
        have bR := BoxAt.new w #[.int .u8 (kd : Int), .int .i64 pl, .int .u64 (gn : Int)] 38
        have hb0 : Below w.heap.size w (w.alloc (.cells #[.int .u8 (kd : Int), .int .i64 pl, .int .u64 (gn : Int)] 38)) := (Below.refl _ _).alloc (Nat.le_refl _) _
        change Calls _ _ _ (w.alloc (.cells #[.int .u8 (kd : Int), .int .i64 pl, .int .u64 (gn : Int)] 38)) _
        obtain ⟨wA, hwA⟩ : ∃ wA, w.alloc (.cells #[.int .u8 (kd : Int), .int .i64 pl, .int .u64 (gn : Int)] 38) = wA := ⟨_, rfl⟩
        rw [hwA] at bR hb0 ⊢
        clear hwA
        obtain ⟨q, hq⟩ : ∃ q, w.heap.size = q := ⟨_, rfl⟩
        rw [hq] at bR ⊢
        refine (hN _ hb0).mono ?_
        rintro e w1 ⟨rfl, hb1⟩
        have hw1 := hb0.trans (hb1.mono hb0.size)
        have bR1 := bR.below hb1
        go_wp2_with fail
        refine (hCn _ hw1).mono ?_
        rintro e w2 ⟨rfl, hb2⟩
        have hw2 := hw1.trans (hb2.mono hw1.size)
        have bR2 := bR1.below hb2
        clear bR hb0 hb1 hw1 bR1 hb2
        have bRd : BoxAt w2.drew q #[.int .u8 (kd : Int), .int .i64 pl, .int .u64 (gn : Int)] := bR2.keep rfl
        have hwd : Below w.heap.size w w2.drew := hw2.drew
        have s0 : w2.drew.cell? ⟨q, 0, none⟩ = some (.int .u8 (kd : Int)) ∧ w2.drew.cell? ⟨q, 1, none⟩ = some (.int .i64 pl) := ⟨bRd.cell 0, bRd.cell 1⟩
        clear bR2 hw2
        go_wp2_with fail
        refine wp_region_held_drew (S := fun w' => w'.cell? ⟨q, 0, none⟩ = some (.int .u8 (kd : Int)) ∧ w'.cell? ⟨q, 1, none⟩ = some (.int .i64 pl)) (by kernel_rfl) (by first | exact s0 | exact s5 | exact s6 | exact s7) (fun hHeld => ?_)
        refine tkH 0 rfl ?_
        refine tkH 2 rfl ?_
        refine rdH 1 rfl fun K hK => ?_
        try simp (maxSteps := 2000000) only [zz1, zz2, zz3]
        go_simp
        go_at_call 83
        refine (hN _ hwd).mono ?_
        rintro e w5 ⟨rfl, hb5⟩
        have hw5 := hwd.trans (hb5.mono hwd.size)
        have bR5 := bRd.below hb5
        have s5 : w5.cell? ⟨q, 0, none⟩ = some (.int .u8 (kd : Int)) ∧ w5.cell? ⟨q, 1, none⟩ = some (.int .i64 pl) := ⟨bR5.cell 0, bR5.cell 1⟩
        try (go_wp2_with fail)
        refine hK.out _ _ (by first | exact s0 | exact s5 | exact s6 | exact s7) (fun hHeld => ?_)
        clear hK K
        try simp (maxSteps := 2000000) only [zz1, zz2, zz3, Act.put, zz4, zz5, zz6]
        refine rdH 3 rfl fun K hK => ?_
        try simp (maxSteps := 2000000) only [zz1, zz2, zz3]
        go_simp
        go_at_call 57
        refine (hCn _ hw5).mono ?_
        rintro e w6 ⟨rfl, hb6⟩
        have hw6 := hw5.trans (hb6.mono hw5.size)
        have bR6 := bR5.below hb6
        have s6 : w6.cell? ⟨q, 0, none⟩ = some (.int .u8 (kd : Int)) ∧ w6.cell? ⟨q, 1, none⟩ = some (.int .i64 pl) := ⟨bR6.cell 0, bR6.cell 1⟩
        try (go_wp2_with fail)
        refine hK.out _ _ (by first | exact s0 | exact s5 | exact s6 | exact s7) (fun hHeld => ?_)
        clear hK K
        try simp (maxSteps := 2000000) only [zz1, zz2, zz3, Act.put, zz4, zz5, zz6]
        refine tkH 4 rfl ?_
        refine tkH 5 rfl ?_
        refine tkH 6 rfl ?_
        refine tkH 7 rfl ?_
        refine tkH 8 rfl ?_
        refine tkH 9 rfl ?_
        refine tkH 10 rfl ?_
        refine tkH 11 rfl ?_
        refine tkH 12 rfl ?_
        refine tkH 13 rfl ?_
        refine tkH 14 rfl ?_
        refine tkH 15 rfl ?_
        refine tkH 16 rfl ?_
        refine tkH 17 rfl ?_
        refine tkH 18 rfl ?_
        refine tkH 19 rfl ?_
        refine tkH 20 rfl ?_
        refine tkH 21 rfl ?_
        refine tkH 22 rfl ?_
        refine tkH 23 rfl ?_
        refine rdH 24 rfl fun K hK => ?_
        try simp (maxSteps := 2000000) only [zz1, zz2, zz3]
        go_simp
        go_at_call 138
        refine (hSc _ hw6).mono ?_
        rintro e w7 ⟨rfl, hb7⟩
        have hw7 := hw6.trans (hb7.mono hw6.size)
        have bR7 := bR6.below hb7
        have s7 : w7.cell? ⟨q, 0, none⟩ = some (.int .u8 (kd : Int)) ∧ w7.cell? ⟨q, 1, none⟩ = some (.int .i64 pl) := ⟨bR7.cell 0, bR7.cell 1⟩
        try (go_wp2_with fail)
        refine hK.out _ _ (by first | exact s0 | exact s5 | exact s6 | exact s7) (fun hHeld => ?_)
        clear hK K
        try simp (maxSteps := 2000000) only [zz1, zz2, zz3, Act.put, zz4, zz5, zz6]
        refine tkH 25 rfl ?_
        refine tkH 26 rfl ?_
        refine tkH 27 rfl ?_
        refine wpAnyH_done (by kernel_rfl) ?_ _
        have HW7 := Lib.hid hw7
        clear hN hCn hSc hw5 hw6 hw7 bR7 bR5 bR6 bRd hwd
        go_wp2_with fail
        go_ret2
        exact ⟨rfl, by first | exact HW7.out | (rw [hq]; exact HW7.out)⟩
end
end
section
section
variable {U : Nat → Prop} {w : World} {a n cb b k m kd gn : Nat} {pl : Int} {sts : List DSt}
theorem meant_bads (hA : ArrAt U w a n sts) (HC : CodAt w cb b k m) (hlen : sts.length = k + m) (hn : n ≤ 60000) (hno : rrtB kd pl n = false) :
    ∀ W, Below w.heap.size w W → Calls Tryz.prog 86 #[.pointer (some ⟨a, 0, none⟩), .pointer (some ⟨cb, 0, none⟩), .agg #[.int .u8 (kd : Int), .int .i64 pl, .int .u64 (gn : Int)]] W fun e w' => e = .returned (.tuple #[.pointer none, .int .i64 2]) ∧ Below W.heap.size W w' := by
  intro W hb
  obtain ⟨v, Fs, ps, hB⟩ := hA
  exact meant_bad (Lib.hid (hB.below hb)) (HC.below hb) hlen hn hno
set_option maxRecDepth 100000 in
set_option maxHeartbeats 4000000 in
theorem sput_no (hA : ArrAt U w a n sts) (HC : CodAt w cb b k m) (hlen : sts.length = k + m) (hn : n ≤ 60000) (hno : rrtB kd pl n = false) (x : Value) :
    Calls Tryz.prog 43 #[.pointer (some ⟨a, 0, none⟩), .pointer (some ⟨cb, 0, none⟩), .agg #[.int .u8 (kd : Int), .int .i64 pl, .int .u64 (gn : Int)], x] w fun e w' => e = .returned (.tuple #[.int .i64 0, .int .i64 2]) ∧ Below w.heap.size w w' := by
  have HM := Lib.hid (meant_bads (gn := gn) hA HC hlen hn hno)
  have hb0 : Below w.heap.size w (w.alloc (.cells #[.int .u8 (kd : Int), .int .i64 pl, .int .u64 (gn : Int)] 38)) := (Below.refl _ _).alloc (Nat.le_refl _) _
  have HB0 := Lib.hid hb0
  clear hA HC hlen hno hb0
  go_enter Tryz.func43, Tryz.ntmps43
  go_wp2_with fail
  refine (HM.out _ (by first | exact Below.refl _ _ | exact HB0.out)).mono ?_
  rintro e w1 ⟨rfl, hb1⟩
  have HB1 := Lib.hid (show Below w.heap.size w w1 from by first | exact HB0.out.trans (hb1.mono HB0.out.size) | exact hb1)
  clear hb1
  go_wp2_with fail
  go_ret2
  exact ⟨rfl, HB1.out⟩
set_option maxRecDepth 100000 in
set_option maxHeartbeats 4000000 in
theorem swh_no (hA : ArrAt U w a n sts) (HC : CodAt w cb b k m) (hlen : sts.length = k + m) (hn : n ≤ 60000) (hno : rrtB kd pl n = false) :
    Calls Tryz.prog 64 #[.pointer (some ⟨a, 0, none⟩), .pointer (some ⟨cb, 0, none⟩), .agg #[.int .u8 (kd : Int), .int .i64 pl, .int .u64 (gn : Int)]] w fun e w' => e = .returned (.slice none 0 0) ∧ Below w.heap.size w w' := by
  have HM := Lib.hid (meant_bads (gn := gn) hA HC hlen hn hno)
  have HB0 : Hid (Below w.heap.size w (w.alloc (.cells #[.int .u8 (kd : Int), .int .i64 pl, .int .u64 (gn : Int)] 38))) := Lib.hid ((Below.refl _ _).alloc (Nat.le_refl _) _)
  clear hA HC hlen hno
  go_enter Tryz.func64, Tryz.ntmps64
  go_wp2_with fail
  refine (HM.out _ HB0.out).mono ?_
  rintro e w1 ⟨rfl, hb1⟩
  have HB1 := Lib.hid (HB0.out.trans (hb1.mono HB0.out.size))
  clear hb1
  go_wp2_with fail
  go_ret
  exact ⟨rfl, HB1.out⟩
set_option maxRecDepth 100000 in
set_option maxHeartbeats 4000000 in
theorem sput_large {r : Ref} (hA : ArrAt U w a n sts) (HC : CodAt w cb b k m) (hlen : sts.length = k + m) (hr : r.ok n) {A : Option Addr} {c len : Nat} (hlx : k * 44 < len) (hl : len ≤ 100000) :
    Calls Tryz.prog 43 #[.pointer (some ⟨a, 0, none⟩), .pointer (some ⟨cb, 0, none⟩), .agg (refC r), .slice A len c] w fun e w' => e = .returned (.tuple #[.int .i64 0, .int .i64 260]) ∧ Below w.heap.size w w' := by
  have hb0 : Below w.heap.size w (w.alloc (.cells (refC r) 38)) := (Below.refl _ _).alloc (Nat.le_refl _) _
  obtain ⟨v, Fs, ps, hAB⟩ := hA
  have hme := meant_good (Lib.hid (hAB)) (HC) hlen hr
  have hme2 := meant_good (Lib.hid (hAB.below hb0)) (HC.below hb0) hlen hr
  have HRO := Lib.hid (fun w' (hb : Below w.heap.size w w') => room_any (HC.below hb))
  have hlk : (len : Int) > ((k * 44 : Nat) : Int) := by omega
  have HME := Lib.hid hme
  have HME2 := Lib.hid hme2
  have HB0 := Lib.hid hb0
  clear hAB HC hlen hr hme hme2 hb0
  unfold refC at HME HME2 HB0 ⊢
  go_enter Tryz.func43, Tryz.ntmps43
  go_wp2_with fail
  refine (by first | exact HME2.out | exact HME.out : Calls _ _ _ _ _).mono ?_
  rintro e w1 ⟨s, rfl, hs1, bS1, hb1⟩
  have hw1 : Below w.heap.size w w1 := by first | exact HB0.out.trans (hb1.mono HB0.out.size) | exact hb1
  have hro1 := HRO.out w1 hw1
  have HW1 := Lib.hid hw1
  clear hb1 hs1 hw1 bS1
  go_wp2_with (go_at_call 93; refine hro1.mono ?_; rintro e w2 ⟨rfl, hw2⟩; rw [hw2]; clear hw2 hro1)
  go_ret2
  exact ⟨rfl, HW1.out⟩
end
end
section
set_option maxRecDepth 100000 in
set_option maxHeartbeats 8000000 in
theorem made_lawC {w : World} {k m n : Nat} (k1 : 1 ≤ k) (m1 : 1 ≤ m) (km : k + m ≤ 255) (n1 : 1 ≤ n) (n2 : n ≤ 600) :
    Calls Tryz.prog 35 #[.agg (geoC k m n)] w fun e w' => ∃ a cb bf C, e = .returned (.tuple #[.pointer (some ⟨a, 0, none⟩), .pointer (some ⟨cb, 0, none⟩)]) ∧ SMidX (fun j => j < w.heap.size ∨ C j) w w' a cb bf k m n (newS n (k + m)) ∧ CodF C w' cb bf k m ∧ (∀ j, C j → w.heap.size ≤ j) ∧ Below w.heap.size w w' := by
  have hb0 : Below w.heap.size w (w.alloc (.cells (geoC k m n) 23)) := (Below.refl _ _).alloc (Nat.le_refl _) _
  have bG := BoxAt.new w (geoC k m n) 23
  obtain ⟨N, hN⟩ : ∃ N, k + m = N := ⟨_, rfl⟩
  have hnw := fun w => anew_any N n (by omega) (by omega) n1 n2 w
  have hfn := fun w => fldnew_any (w := w)
  have hcn := fun w b base F hb => new_anyS (w := w) (b := b) (base := base) (k := k) (m := m) F hb k1 m1 km
  have q0 : (k : Int) + (m : Int) = (N : Int) := by omega
  have q1 : IntKind.i64.wrap (N : Int) = (N : Int) := by rw [IntKind.wrap_i64]; omega
  have HN := Lib.hid hN
  unfold geoC at hb0 bG ⊢
  go_enter Tryz.func35, Tryz.ntmps35
  go_wp2_with fail
  obtain ⟨wA, hwA⟩ : ∃ wA, w.alloc (.cells #[.int .i64 (k : Int), .int .i64 (m : Int), .int .i64 (n : Int)] 23) = wA := ⟨_, rfl⟩
  rw [hwA] at hb0 bG ⊢
  obtain ⟨q, hq⟩ : ∃ q, w.heap.size = q := ⟨_, rfl⟩
  have HQ := Lib.hid hq
  rw [hq] at bG ⊢
  clear hwA hN hq
  have bGd : BoxAt wA.drew q #[.int .i64 (k : Int), .int .i64 (m : Int), .int .i64 (n : Int)] := bG.keep rfl
  have hd : Below w.heap.size w wA.drew := hb0.drew
  have s0 : wA.drew.cell? ⟨q, 0, none⟩ = some (.int .i64 (k : Int)) ∧ wA.drew.cell? ⟨q, 1, none⟩ = some (.int .i64 (m : Int)) ∧ wA.drew.cell? ⟨q, 2, none⟩ = some (.int .i64 (n : Int)) := ⟨bGd.cell 0, bGd.cell 1, bGd.cell 2⟩
  refine wp_region_held_drew (S := fun w' => w'.cell? ⟨q, 0, none⟩ = some (.int .i64 (k : Int)) ∧ w'.cell? ⟨q, 1, none⟩ = some (.int .i64 (m : Int)) ∧ w'.cell? ⟨q, 2, none⟩ = some (.int .i64 (n : Int))) (by kernel_rfl) (by first | exact s0 | exact s5 | exact s6 | exact s7) (fun hHeld => ?_)
  refine tkH 0 rfl ?_
  refine tkH 1 rfl ?_
  refine tkH 2 rfl ?_
  refine tkH 3 rfl ?_
  refine tkH 4 rfl ?_
  refine tkH 5 rfl ?_
  refine tkH 6 rfl ?_
  refine tkH 9 rfl ?_
  refine tkH 10 rfl ?_
  refine tkH 11 rfl ?_
  refine tkH 12 rfl ?_
  refine rdH 7 rfl fun K hK => ?_
  try simp (maxSteps := 2000000) only [zz1, zz2, zz3]
  go_simp
  go_at_call 79
  refine (hnw _).mono ?_
  clear hnw
  rintro e w5 ⟨a, U, rfl, hA, hU, hb5⟩
  have bG5 := bGd.below hb5
  have s5 : w5.cell? ⟨q, 0, none⟩ = some (.int .i64 (k : Int)) ∧ w5.cell? ⟨q, 1, none⟩ = some (.int .i64 (m : Int)) ∧ w5.cell? ⟨q, 2, none⟩ = some (.int .i64 (n : Int)) := ⟨bG5.cell 0, bG5.cell 1, bG5.cell 2⟩
  have hw5 : Below w.heap.size w w5 := hd.trans (hb5.mono hd.size)
  have HA5 := Lib.hid hA
  have HU5 := Lib.hid hU
  clear hA hU
  try (go_wp2_with fail)
  refine hK.out _ _ (by first | exact s0 | exact s5 | exact s6 | exact s7) (fun hHeld => ?_)
  clear hK K
  try simp (maxSteps := 2000000) only [zz1, zz2, zz3, Act.put, zz4, zz5, zz6]
  refine rdH 8 rfl fun K hK => ?_
  try simp (maxSteps := 2000000) only [zz1, zz2, zz3]
  go_simp
  go_at_call 81
  refine (hfn _).mono ?_
  clear hfn
  rintro e w6 ⟨rfl, hF, hb6⟩
  have bG6 := bG5.below hb6
  have s6 : w6.cell? ⟨q, 0, none⟩ = some (.int .i64 (k : Int)) ∧ w6.cell? ⟨q, 1, none⟩ = some (.int .i64 (m : Int)) ∧ w6.cell? ⟨q, 2, none⟩ = some (.int .i64 (n : Int)) := ⟨bG6.cell 0, bG6.cell 1, bG6.cell 2⟩
  have hw6 : Below w.heap.size w w6 := hw5.trans (hb6.mono hw5.size)
  have HF6 := Lib.hid hF
  clear hF
  try (go_wp2_with fail)
  refine hK.out _ _ (by first | exact s0 | exact s5 | exact s6 | exact s7) (fun hHeld => ?_)
  clear hK K
  try simp (maxSteps := 2000000) only [zz1, zz2, zz3, Act.put, zz4, zz5, zz6]
  refine rdH 13 rfl fun K hK => ?_
  try simp (maxSteps := 2000000) only [zz1, zz2, zz3]
  go_simp
  go_at_call 80
  refine (hcn _ _ w5.heap.size HF6.out (Nat.le_refl _)).mono ?_
  clear hcn
  rintro e w7 ⟨cb, rfl, hC, hkp⟩
  have hk57 : Keep (fun j => w5.heap.size ≤ j) w5 w7 := (Keep.of_below (F := fun j => w5.heap.size ≤ j) hb6).trans hkp (fun j e _ => by rw [e]; exact Nat.le_refl _)
  have hb57 : Below w5.heap.size w5 w7 := hk57.below (Nat.le_refl _) (fun j h => h)
  have bG7 := bG5.below hb57
  have s7 : w7.cell? ⟨q, 0, none⟩ = some (.int .i64 (k : Int)) ∧ w7.cell? ⟨q, 1, none⟩ = some (.int .i64 (m : Int)) ∧ w7.cell? ⟨q, 2, none⟩ = some (.int .i64 (n : Int)) := ⟨bG7.cell 0, bG7.cell 1, bG7.cell 2⟩
  have hw7 : Below w.heap.size w w7 := hw5.trans (hb57.mono hw5.size)
  have HC7 := Lib.hid hC
  clear hC
  try (go_wp2_with fail)
  refine hK.out _ _ (by first | exact s0 | exact s5 | exact s6 | exact s7) (fun hHeld => ?_)
  clear hK K
  try simp (maxSteps := 2000000) only [zz1, zz2, zz3, Act.put, zz4, zz5, zz6]
  refine tkH 14 rfl ?_
  refine tkH 15 rfl ?_
  refine wpAnyH_done (by kernel_rfl) ?_ _
  have hsz0 : w.heap.size ≤ wA.drew.heap.size := hd.size
  have hUw : ∀ j, U j → w.heap.size ≤ j := fun j hj => by have h1 := HU5.out j hj; omega
  have HFIN := Lib.hid (show SMidX (fun j => j < w.heap.size ∨ (w5.heap.size ≤ j ∧ j < w7.heap.size)) w w7 a cb w5.heap.size k m n (List.replicate N (DSt.new n)) from
    ⟨hw7, ⟨U, fun j => w5.heap.size ≤ j ∧ j < w7.heap.size, HA5.out.below hb57, HC7.out.bound, hUw, fun j hj => ⟨fun hu => by have := HA5.out.lt hu; omega, hj.2⟩, fun j hj => hj.elim (fun h => ⟨fun hu => by have := hUw j hu; omega, Nat.lt_of_lt_of_le h hw7.size⟩) (fun h => ⟨fun hu => by have := HA5.out.lt hu; omega, h.2⟩)⟩, by rw [List.length_replicate, HN.out], n1, n2⟩)
  have HCF := Lib.hid HC7.out.bound
  have HSZ := Lib.hid hw5.size
  have HB7 := Lib.hid hw7
  clear s0 s5 s6 s7 bG bGd bG5 bG6 bG7 hHeld hb5 hb6 hkp hk57 hb57 hw5 hw6 hw7 hd hb0
  go_wp2_with fail
  go_ret2
  exact ⟨a, cb, _, fun j => w5.heap.size ≤ j ∧ j < w7.heap.size, rfl, by rw [HN.out]; exact HFIN.out, HCF.out, fun j hj => Nat.le_trans HSZ.out hj.1, HB7.out⟩
section
variable {X C : Nat → Prop} {w0 w1 w w' : World} {a cb bf k m n : Nat} {sts : List DSt}
theorem SMidX.rebase (h : SMidX X w1 w a cb bf k m n sts) (hb : Below w0.heap.size w0 w1) : SMidX X w0 w a cb bf k m n sts := by
  obtain ⟨h0, ⟨U, C, hA, hC, hU, hd, hx⟩, hl, h1, h2⟩ := h
  exact ⟨hb.trans (h0.mono hb.size), ⟨U, C, hA, hC, fun j hj => Nat.le_trans hb.size (hU j hj), hd, hx⟩, hl, h1, h2⟩
theorem CodF.kp (h : CodF C w cb bf k m) (hM : SMidX X w0 w a cb bf k m n sts) {sts' : List DSt} (hM' : SMidX X w0 w' a cb bf k m n sts') (hk : KpX X w w') (hc : ∀ j, C j → X j) : CodF C w' cb bf k m :=
  h.keep (G := fun j => ¬ C j) ⟨hM'.bel.os.trans hM.bel.os.symm, hM'.bel.tape.trans hM.bel.tape.symm, hM'.bel.output.trans hM.bel.output.symm, hk.2, fun j _ hj => hk.1 j (hc j (Classical.not_not.1 hj))⟩ (fun j hj hn => hn hj)
end
end
section
def NoB (_ : Nat) : Prop := False
/-- Drives and a coder, beside blocks X. -/
def MX (X : Nat → Prop) (w0 w : World) (a cb bf k m n : Nat) (sts : List DSt) : Prop := MidP NoB X w0 w a cb bf k m n sts
section
variable {P X Y C : Nat → Prop} {w0 w1 w w' : World} {a cb bf k m n : Nat} {sts : List DSt} {r : Ref}
theorem mx_of (h : SMidX (fun j => X j ∨ C j) w0 w a cb bf k m n sts) (hC : CodF C w cb bf k m) (hd : ∀ j, X j → ¬ C j) : MX X w0 w a cb bf k m n sts := by
  obtain ⟨h0, ⟨U, _, hA, _, hU, _, hx⟩, hl, h1, h2⟩ := h
  exact ⟨h0, ⟨U, C, hA, hC, hU, fun j hj => hx j (.inr hj), fun j hj => ⟨(hx j (.inl hj)).1, hd j hj, (hx j (.inl hj)).2⟩, fun j hj => hj.elim⟩, fun j hj => hj.elim, hl, h1, h2⟩
theorem MX.x (h : MX X w0 w a cb bf k m n sts) : SMidX X w0 w a cb bf k m n sts := MidP.x h
theorem MX.mid (h : MX X w0 w a cb bf k m n sts) : SMid w0 w a cb bf k m n sts := MidP.mid h
theorem MX.bel (h : MX X w0 w a cb bf k m n sts) : Below w0.heap.size w0 w := h.1
theorem MX.len (h : MX X w0 w a cb bf k m n sts) : sts.length = k + m := MidP.len h
theorem MX.pos (h : MX X w0 w a cb bf k m n sts) : 1 ≤ k ∧ 1 ≤ m ∧ k + m ≤ 255 ∧ 1 ≤ n ∧ n ≤ 600 := MidP.pos h
theorem MX.cod (h : MX X w0 w a cb bf k m n sts) : CodAt w cb bf k m := MidP.cod h
theorem MX.lt (h : MX X w0 w a cb bf k m n sts) {j : Nat} (hj : X j) : j < w.heap.size := MidP.lt h hj
theorem MX.sub (h : MX X w0 w a cb bf k m n sts) (hy : ∀ j, Y j → X j) : MX Y w0 w a cb bf k m n sts := MidP.sub h hy
theorem MX.below (h : MX X w0 w a cb bf k m n sts) (hb : Below w.heap.size w w') : MX (fun j => X j ∨ (w.heap.size ≤ j ∧ j < w'.heap.size)) w0 w' a cb bf k m n sts := MidP.below h hb
theorem MX.below' (h : MX X w0 w a cb bf k m n sts) (hb : Below w.heap.size w w') : MX X w0 w' a cb bf k m n sts := MidP.below' h hb
/-- A block of X's is written. -/
theorem MX.own {F : Nat → Prop} (h : MX X w0 w a cb bf k m n sts) (hK : Keep F w w') (hF : ∀ j, F j → X j ∧ w0.heap.size ≤ j) : MX X w0 w' a cb bf k m n sts := MidP.own h hK hF
theorem MX.ownN {F : Nat → Prop} (h : MX X w0 w a cb bf k m n sts) (hK : Keep F w w') (hF : ∀ j, F j → X j ∧ w0.heap.size ≤ j) : MX (fun j => X j ∨ (w.heap.size ≤ j ∧ j < w'.heap.size)) w0 w' a cb bf k m n sts := MidP.ownN h hK hF
theorem MX.rebase (h : MX X w1 w a cb bf k m n sts) (hb : Below w0.heap.size w0 w1) : MX X w0 w a cb bf k m n sts := by
  obtain ⟨h0, ⟨U, C, hA, hC, hU, hd, hx, hp⟩, hpx, hl, h1, h2⟩ := h
  exact ⟨hb.trans (h0.mono hb.size), ⟨U, C, hA, hC, fun j hj => Nat.le_trans hb.size (hU j hj), hd, hx, fun j hj => hj.elim⟩, hpx, hl, h1, h2⟩
theorem MX.step {sts' : List DSt} {f : FuncId} {args : Array Value} {Q : Ending → World → Prop} (h : MX X w0 w a cb bf k m n sts) (hl : sts'.length = sts.length)
    (hc : ∀ U, ArrAt U w a n sts → (∀ j, U j → w0.heap.size ≤ j) → (∀ j, X j → ¬ U j ∧ j < w.heap.size) → Calls Tryz.prog f args w fun e w' => Q e w' ∧ AUpd U w w' a n sts') :
    Calls Tryz.prog f args w fun e w' => Q e w' ∧ MX X w0 w' a cb bf k m n sts' ∧ KpX X w w' :=
  (MidP.step h hl hc).mono fun _ _ ⟨h1, h2, h3⟩ => ⟨h1, h2, h3.mono fun _ hj => .inl hj⟩
theorem kx_or {w w' : World} (h : KpX (fun j => X j ∨ NoB j) w w') : KpX X w w' := h.mono fun _ hj => .inl hj
theorem put_m (h : MX X w0 w a cb bf k m n sts) (hr : r.ok n) (hg : Hid (r.gen < 2 ^ 64)) (hcl : ∀ st ∈ sts, st.cache.length < 900000)
    {A : Option Addr} {c len : Nat} {S : Nat → Prop} {xs : List Nat} (R : RdL ByR 1 S w A len xs) (hc : len ≤ c) (hlx : len ≤ k * 44) :
    Calls Tryz.prog 43 #[.pointer (some ⟨a, 0, none⟩), .pointer (some ⟨cb, 0, none⟩), .agg (refC r), .slice A len c] w fun e w' =>
      e = .returned (.tuple #[.int .i64 (liveC sts : Int), .int .i64 0]) ∧ MX X w0 w' a cb bf k m n (sts.mapIdx (putQ n k (k + m) r xs)) ∧ KpX X w w' :=
  (put_p h hr hg hcl R hc hlx).mono fun _ _ ⟨h1, h2, h3⟩ => ⟨h1, h2, kx_or h3⟩
theorem fail_m (h : MX X w0 w a cb bf k m n sts) (d : Int) :
    Calls Tryz.prog 18 #[.pointer (some ⟨a, 0, none⟩), .int .i64 d] w fun e w' => e = .returned (.int .i64 (if 0 ≤ d ∧ d < sts.length then 0 else 2)) ∧ MX X w0 w' a cb bf k m n (failA n sts d) ∧ KpX X w w' :=
  (fail_p h d).mono fun _ _ ⟨h1, h2, h3⟩ => ⟨h1, h2, kx_or h3⟩
theorem rot_m (h : MX X w0 w a cb bf k m n sts) (d z off mask : Int) :
    Calls Tryz.prog 32 #[.pointer (some ⟨a, 0, none⟩), .int .i64 d, .int .i64 z, .int .i64 off, .int .u32 mask] w fun e w' => e = .returned (.int .i64 (rotE n sts d z off mask)) ∧ MX X w0 w' a cb bf k m n (rotA n sts d z off mask) ∧ KpX X w w' :=
  (rot_p h d z off mask).mono fun _ _ ⟨h1, h2, h3⟩ => ⟨h1, h2, kx_or h3⟩
theorem flush_m (h : MX X w0 w a cb bf k m n sts) (hcl : ∀ st ∈ sts, st.cache.length < 1000000) :
    Calls Tryz.prog 30 #[.pointer (some ⟨a, 0, none⟩)] w fun e w' => e = .returned (.int .i64 (cnt (aliveL sts))) ∧ MX X w0 w' a cb bf k m n (sts.map flushG) ∧ KpX X w w' :=
  (flush_p h hcl).mono fun _ _ ⟨h1, h2, h3⟩ => ⟨h1, h2, kx_or h3⟩
theorem repl_m (h : MX X w0 w a cb bf k m n sts) (d : Int) :
    Calls Tryz.prog 49 #[.pointer (some ⟨a, 0, none⟩), .int .i64 d] w fun e w' => e = .returned (.int .i64 (if 0 ≤ d ∧ d < sts.length then 0 else 2)) ∧ MX X w0 w' a cb bf k m n (replA n sts d) ∧ KpX X w w' :=
  h.step (Q := fun e _ => e = .returned (.int .i64 (if 0 ≤ d ∧ d < sts.length then 0 else 2))) (by unfold replA; split <;> simp) fun U hA _ _ => arepl_any (Lib.hid hA) (by have := h.len; have := h.pos; omega) d
/-- What a law's Made gives. -/
theorem made_m {w0 w : World} {k m n : Nat} (hbel : Below w0.heap.size w0 w) (k1 : 1 ≤ k) (m1 : 1 ≤ m) (km : k + m ≤ 255) (n1 : 1 ≤ n) (n2 : n ≤ 600) :
    Calls Tryz.prog 35 #[.agg (geoC k m n)] w fun e w' => ∃ a cb bf, e = .returned (.tuple #[.pointer (some ⟨a, 0, none⟩), .pointer (some ⟨cb, 0, none⟩)]) ∧ MX (fun j => j < w.heap.size) w0 w' a cb bf k m n (newS n (k + m)) ∧ Below w.heap.size w w' :=
  (made_lawC k1 m1 km n1 n2).mono fun _ _ ⟨a, cb, bf, C, he, hM, hC, hc, hb⟩ => ⟨a, cb, bf, he, (mx_of hM hC (fun j h1 h2 => by have := hc j h2; omega)).rebase hbel, hb⟩
end
end
section
structure GdS (t : Nat) (st : DSt) : Prop where
  s : ∀ x ∈ st.stored, GoodV x
  c : ∀ p ∈ st.cache, GoodV p.2
  f : st.cache.length ≤ t
def GdA (t : Nat) (sts : List DSt) : Prop := ∀ st ∈ sts, GdS t st
section
variable {t n k N : Nat} {st : DSt} {sts : List DSt}
theorem GdS.seen (h : GdS t st) {z : Nat} (hz : z < st.stored.length) : GoodV (st.seen z) := by
  unfold DSt.seen
  split
  · rename_i i hi
    obtain ⟨s, hs⟩ := lastIx_some hi
    rw [hs]
    exact h.c _ (List.mem_of_getElem? hs)
  · rw [List.getElem?_eq_getElem hz]
    exact h.s _ (List.getElem_mem hz)
theorem GdS.mono (h : GdS t st) {t' : Nat} (ht : t ≤ t') : GdS t' st := ⟨h.s, h.c, Nat.le_trans h.f ht⟩
theorem GdA.mono (h : GdA t sts) {t' : Nat} (ht : t ≤ t') : GdA t' sts := fun st hst => (h st hst).mono ht
theorem GdS.new (n : Nat) : GdS 0 (DSt.new n) := ⟨fun x hx => by rw [(List.mem_replicate.1 hx).2]; exact goodV_zero, fun p hp => absurd (show p ∈ ([] : List (Int × List Int)) from hp) (by simp), Nat.le_refl _⟩
theorem GdS.gone (n : Nat) : GdS 0 (DSt.gone n) := ⟨fun x hx => by
    have : x = List.replicate 64 0 := by
      unfold DSt.gone at hx
      exact (List.mem_replicate.1 hx).2
    rw [this]; exact goodV_zero, fun p hp => absurd (show p ∈ ([] : List (Int × List Int)) from hp) (by simp), Nat.le_refl _⟩
theorem GdS.wr (h : GdS t st) {bs : List Int} (hb : GoodV bs) (z : Int) : GdS (t + 1) (wrDA n st z bs) := by
  unfold wrDA
  split
  · refine ⟨h.s, fun p hp => ?_, ?_⟩
    · rcases List.mem_append.1 hp with h1 | h1
      · exact h.c p h1
      · rw [List.mem_singleton] at h1
        subst h1
        exact hb
    · have := h.f
      show (st.cache ++ [(z, bs)]).length ≤ t + 1
      rw [List.length_append, List.length_singleton]; omega
  · exact h.mono (Nat.le_succ t)
theorem GdS.flush (h : GdS t st) : GdS t (flushG st) := by
  unfold flushG
  split
  · refine ⟨fun x hx => putL_all (fun _ => true) (Q := GoodV) st.cache 0 st.stored h.c h.s x hx, fun p hp => ?_, Nat.zero_le _⟩
    simp [DSt.settle] at hp
  · exact h
theorem goodV_rotAny {V : List Int} (h : GoodV V) {off mask : Nat} (ho : off ≤ 60) : GoodV (rotTo V off (mask : Int) 4) := by
  have hb : Byt (V.map Int.toNat) := fun x hx => by
    obtain ⟨y, hy, rfl⟩ := List.mem_map.1 hx
    have := h.2 y hy
    omega
  have e : V = (V.map Int.toNat).map fun b : Nat => (b : Int) := by
    rw [List.map_map]
    refine (List.map_id V).symm.trans (List.map_congr_left fun x hx => ?_)
    have := h.2 x hx
    show x = ((x.toNat : Nat) : Int)
    omega
  have hl : (V.map Int.toNat).length = 64 := by rw [List.length_map, h.1]
  rw [e, rotTo_nat hb (by omega) 4 (Nat.le_refl _)]
  exact goodV_nat (by rw [rotN_len, hl]) (rotN_byt hb off mask 4)
theorem GdS.rot (h : GdS t st) (z : Int) {off mask : Nat} (ho : off ≤ 60) : GdS t (rtDA n st z (off : Int) (mask : Int)) := by
  unfold rtDA
  split
  · refine ⟨fun x hx => ?_, h.c, h.f⟩
    have hx' : x ∈ st.stored.set z.toNat (rotTo ((st.stored[z.toNat]?).getD []) off (mask : Int) 4) := hx
    by_cases hz : z.toNat < st.stored.length
    · rcases List.mem_or_eq_of_mem_set hx' with h1 | rfl
      · exact h.s x h1
      · rw [List.getElem?_eq_getElem hz]
        exact goodV_rotAny (h.s _ (List.getElem_mem hz)) ho
    · rw [List.set_eq_of_length_le (by omega)] at hx'
      exact h.s x hx'
  · exact h
theorem GdA.rd (h : GdA t sts) (hok : ∀ st ∈ sts, st.ok n) {z : Nat} (hz : z < n) : RdOk sts z := rdOk_of fun st hst => (h st hst).seen (by rw [(hok st hst).sl]; exact hz)
theorem GdA.new (n N : Nat) : GdA 0 (newS n N) := fun st hst => by rw [(List.mem_replicate.1 hst).2]; exact GdS.new n
theorem GdA.set (h : GdA t sts) {d : Nat} {st : DSt} (hs : GdS t st) : GdA t (sts.set d st) := fun q hq => by
  rcases List.mem_or_eq_of_mem_set hq with h1 | rfl
  · exact h q h1
  · exact hs
theorem GdA.fail (h : GdA t sts) (d : Int) : GdA t (failA n sts d) := by
  unfold failA
  split
  · exact h.set ((GdS.gone n).mono (Nat.zero_le _))
  · exact h
theorem GdA.repl (h : GdA t sts) (d : Int) : GdA t (replA n sts d) := by
  unfold replA
  split
  · exact h.set ((GdS.new n).mono (Nat.zero_le _))
  · exact h
theorem GdA.rot (h : GdA t sts) (d z : Int) {off mask : Nat} (ho : off ≤ 60) : GdA t (rotA n sts d z (off : Int) (mask : Int)) := by
  unfold rotA
  split
  · split
    · rename_i st hst
      exact h.set ((h st (List.mem_of_getElem? hst)).rot z ho)
    · exact h
  · exact h
theorem GdA.flush (h : GdA t sts) : GdA t (sts.map flushG) := fun q hq => by
  obtain ⟨st, hst, rfl⟩ := List.mem_map.1 hq
  exact (h st hst).flush
theorem GdA.put {r : Ref} {xs : List Nat} (h : GdA t sts) (hr : r.ok n) (hn : n ≤ 600) (hg : r.gen < 2 ^ 64) (hN : 1 ≤ N) (hN2 : N ≤ 255) (hk : k ≤ 255) (hx : Byt xs) (hl : xs.length ≤ k * 44) : GdA (t + 1) (sts.mapIdx (putQ n k N r xs)) := by
  intro q hq
  obtain ⟨d, hd, rfl⟩ := List.mem_mapIdx.1 hq
  have hD := splF_shp (width := 44) hx k
  have hi : ixN N r.place d < N := ixN_lt hN
  have hc := codeRow_ok hD (ixN N r.place d)
  have hk4 := hr.k4
  have hp := hr.p
  have hxo : (shR r (ixN N r.place d) xs.length (codeRow k 44 (splF 44 xs k k) (ixN N r.place d))).ok := ⟨by show r.kind < 256; omega, by show ixN N r.place d < 256; omega, by show r.place < 65536; omega, hg, by show xs.length < 65536; omega, hc.1, hc.2⟩
  have h1 := (h _ (List.getElem_mem hd)).wr (n := n) (goodV_nat (sncS_len (x := shR r (ixN N r.place d) xs.length (codeRow k 44 (splF 44 xs k k) (ixN N r.place d))) hxo.l) (sncS_byt hxo)) (r.place : Int)
  unfold putQ wrG
  rw [if_pos rfl]
  exact h1
end
end
section


section
variable {U : Nat → Prop} {w : World} {a s : Nat} {v : Value} {Fs : Nat → Nat → Prop} {ps : List Nat} {sts : List DSt}
end
end
section

end
section
attribute [local go_sem ↓] run_min_as run_max_as

/-- An act, as it lies. -/
def ActR (S : Nat → Prop) (w : World) (cs : List Value) (a : ActV) : Prop := ∃ KA km kc BA bm bc, cs = [.int .i64 a.kind, .int .i64 a.at_, .int .i64 a.off, .int .u8 a.c, .int .u32 a.mask, .slice KA km kc, .slice BA bm bc] ∧ RdL BoolR 1 S w KA km a.keep ∧ RdL U8R 1 S w BA bm a.b
theorem ActR.stable : Stable ActR := by
  rintro S S' w w' cs e ⟨KA, km, kc, BA, bm, bc, rfl, h1, h2⟩ hk
  exact ⟨KA, km, kc, BA, bm, bc, rfl, h1.stable BoolR.stable hk, h2.stable U8R.stable hk⟩
end
section

structure Sim (n : Nat) (st : DSt) (rs : RSt) : Prop where
  dead : st.dead = rs.gone
  cache : st.cache = rs.wait.map (fun e => (e.at_, e.b))
  stored : st.dead = false → ∀ k : Nat, k < n → st.stored[k]? = some (storedE rs.L k)
  rotten : st.dead = false → ∀ k : Nat, k < n → st.rotten[k]? = some (badE rs.L k)
  ok : ∀ e ∈ rs.L, EvOk e
  okw : ∀ e ∈ rs.wait, e.mask = 0 ∧ e.b.length = 64

theorem snoc_ind {α : Type} {M : List α → Prop} (h0 : M []) (h1 : ∀ l x, M l → M (l ++ [x])) : ∀ l, M l := by
  have h : ∀ l : List α, M l.reverse := fun l => by
    induction l with
    | nil => exact h0
    | cons x l ih => rw [List.reverse_cons]; exact h1 _ _ ih
  intro l
  have := h l.reverse
  rwa [List.reverse_reverse] at this
theorem seen_wait (st : DSt) (k : Nat) : ∀ l : List Ev, ({ st with cache := l.map (fun e => (e.at_, e.b)) } : DSt).seen k = waitE l k ((st.stored[k]?).getD []) := by
  refine snoc_ind ?_ ?_
  · exact DSt.seen_nil rfl k
  · intro l e ih
    rw [waitE_snoc, ← ih, List.map_append]
    exact DSt.seen_write (st := { st with cache := l.map (fun e => (e.at_, e.b)) }) (k := e.at_) (s := e.b) (j := k)
theorem Sim.seen {n : Nat} {st : DSt} {rs : RSt} (h : Sim n st rs) (hd : st.dead = false) {k : Nat} (hk : k < n) : seenE rs k = st.seen k := by
  have := seen_wait st k rs.wait
  rw [← h.cache] at this
  have e : ({ st with cache := st.cache } : DSt) = st := rfl
  rw [e, h.stored hd k hk] at this
  rw [this]; rfl
theorem Sim.new (n : Nat) : Sim n (DSt.new n) RSt.new := by
  refine ⟨rfl, rfl, fun _ k hk => ?_, fun _ k hk => ?_, by simp [RSt.new], by simp [RSt.new]⟩
  · simp [DSt.new, hk]; rfl
  · simp [DSt.new, hk]; rfl
theorem put_sim (keep : Nat → Bool) (n : Nat) : ∀ (l : List Ev) (i : Nat) (xs : List (List Int)) (L : List Ev), xs.length = n → (∀ e ∈ l, e.mask = 0 ∧ 0 ≤ e.at_ ∧ e.at_ < n) → (∀ k : Nat, k < n → xs[k]? = some (storedE L k)) →
    ∀ k : Nat, k < n → (putL keep i (l.map (fun e => (e.at_, e.b))) xs)[k]? = some (storedE (L ++ keptE keep i l) k)
  | [], i, xs, L, _, _, h, k, hk => by simpa [putL, keptE] using h k hk
  | e :: l, i, xs, L, hl, he, h, k, hk => by
    have he1 := he e (by simp)
    rw [List.map_cons, putL, keptE]
    by_cases hki : keep i = true
    · rw [if_pos hki, if_pos hki, show L ++ e :: keptE keep (i + 1) l = (L ++ [e]) ++ keptE keep (i + 1) l by simp]
      refine put_sim keep n l (i + 1) _ (L ++ [e]) (by simpa using hl) (fun d hd => he d (List.mem_cons_of_mem _ hd)) (fun j hj => ?_) k hk
      rw [storedE_snoc, if_pos he1.1]
      by_cases hj2 : e.at_ = j
      · rw [if_pos hj2, show e.at_.toNat = j by omega]; simp [hl, hj]
      · rw [if_neg hj2, List.getElem?_set_ne (by show e.at_.toNat ≠ j; omega)]; exact h j hj
    · rw [if_neg hki, if_neg hki]
      exact put_sim keep n l (i + 1) xs L hl (fun d hd => he d (List.mem_cons_of_mem _ hd)) h k hk
theorem fresh_sim (keep : Nat → Bool) (n : Nat) : ∀ (l : List Ev) (i : Nat) (xs : List Bool) (L : List Ev), xs.length = n → (∀ e ∈ l, e.mask = 0 ∧ 0 ≤ e.at_ ∧ e.at_ < n) → (∀ k : Nat, k < n → xs[k]? = some (badE L k)) →
    ∀ k : Nat, k < n → (freshL keep i (l.map (fun e => (e.at_, e.b))) xs)[k]? = some (badE (L ++ keptE keep i l) k)
  | [], i, xs, L, _, _, h, k, hk => by simpa [freshL, keptE] using h k hk
  | e :: l, i, xs, L, hl, he, h, k, hk => by
    have he1 := he e (by simp)
    rw [List.map_cons, freshL, keptE]
    by_cases hki : keep i = true
    · rw [if_pos hki, if_pos hki, show L ++ e :: keptE keep (i + 1) l = (L ++ [e]) ++ keptE keep (i + 1) l by simp]
      refine fresh_sim keep n l (i + 1) _ (L ++ [e]) (by simpa using hl) (fun d hd => he d (List.mem_cons_of_mem _ hd)) (fun j hj => ?_) k hk
      rw [badE_snoc, he1.1]
      by_cases hj2 : e.at_ = j
      · rw [if_pos hj2, show e.at_.toNat = j by omega]; simp [hl, hj]
      · rw [if_neg hj2, List.getElem?_set_ne (by show e.at_.toNat ≠ j; omega)]; exact h j hj
    · rw [if_neg hki, if_neg hki]
      exact fresh_sim keep n l (i + 1) xs L hl (fun d hd => he d (List.mem_cons_of_mem _ hd)) h k hk
theorem keptE_mem (keep : Nat → Bool) : ∀ (l : List Ev) (i : Nat) (e : Ev), e ∈ keptE keep i l → e ∈ l
  | [], i, e, h => by simp [keptE] at h
  | d :: l, i, e, h => by
    rw [keptE] at h
    split at h
    · rcases List.mem_cons.1 h with h | h
      · simp [h]
      · exact List.mem_cons_of_mem _ (keptE_mem keep l _ e h)
    · exact List.mem_cons_of_mem _ (keptE_mem keep l _ e h)
theorem keptE_true : ∀ (l : List Ev) (i : Nat), keptE (fun _ => true) i l = l
  | [], i => rfl
  | d :: l, i => by rw [keptE, if_pos rfl, keptE_true l]
theorem Sim.settle {n : Nat} {st : DSt} {rs : RSt} (h : Sim n st rs) (hok : st.ok n) (keep : Nat → Bool) : Sim n (st.settle keep) { rs with L := rs.L ++ keptE keep 0 rs.wait, wait := [] } := by
  have hw : ∀ e ∈ rs.wait, e.mask = 0 ∧ 0 ≤ e.at_ ∧ e.at_ < n := fun e he => by
    have := hok.cat (e.at_, e.b) (by rw [h.cache]; exact List.mem_map.2 ⟨e, he, rfl⟩)
    exact ⟨(h.okw e he).1, this.1, this.2⟩
  refine ⟨h.dead, rfl, fun hd k hk => ?_, fun hd k hk => ?_, fun e he => ?_, by simp⟩
  · show (putL keep 0 st.cache st.stored)[k]? = _
    rw [h.cache]
    exact put_sim keep n rs.wait 0 st.stored rs.L hok.sl hw (h.stored hd) k hk
  · show (freshL keep 0 st.cache st.rotten)[k]? = _
    rw [h.cache]
    exact fresh_sim keep n rs.wait 0 st.rotten rs.L hok.rl hw (h.rotten hd) k hk
  · rcases List.mem_append.1 he with h1 | h1
    · exact h.ok e h1
    · exact .inl (h.okw e (keptE_mem keep _ _ e h1))
theorem Sim.write {n : Nat} {st : DSt} {rs : RSt} (h : Sim n st rs) (z : Int) (bs : List Int) : Sim n (wrD n st z bs) (wrR n rs z bs) := by
  unfold wrD wrR
  by_cases hc : readyE st.dead n z = 0 ∧ bs.length = 64
  · have hr := (ready_iff st n z).1 hc.1
    rw [if_pos hc, if_pos (show wrOk rs n z bs.length from ⟨h.dead ▸ hr.1, hr.2, hc.2⟩)]
    refine ⟨h.dead, by simp [DSt.write, h.cache], h.stored, h.rotten, h.ok, fun e he => ?_⟩
    rcases List.mem_append.1 he with h1 | h1
    · exact h.okw e h1
    · simp only [List.mem_singleton] at h1; subst h1; exact ⟨rfl, hc.2⟩
  · rw [if_neg hc, if_neg (fun hw : wrOk rs n z bs.length => hc ⟨(ready_iff st n z).2 ⟨h.dead.trans hw.1, hw.2.1⟩, hw.2.2⟩)]
    exact h
theorem Sim.flush {n : Nat} {st : DSt} {rs : RSt} (h : Sim n st rs) (hok : st.ok n) : Sim n (flD st) (flR rs) := by
  unfold flD flR
  by_cases hc : st.dead = false
  · rw [if_pos hc, if_pos (h.dead ▸ hc)]
    have := h.settle hok (fun _ => true)
    rwa [keptE_true] at this
  · rw [if_neg hc, if_neg (fun e => hc (h.dead.trans e))]
    exact h
theorem Sim.rot {n : Nat} {st : DSt} {rs : RSt} (h : Sim n st rs) (hok : st.ok n) (z off mask : Int) : Sim n (rtD n st z off mask) (rtR n rs z off mask) := by
  unfold rtD rtR
  have hb : st.dead = false → 0 ≤ z → z < n → st.rotten[z.toNat]? = some (badE rs.L z) := fun hd h0 hn => by
    have := h.rotten hd z.toNat (by omega)
    rwa [show ((z.toNat : Nat) : Int) = z by omega] at this
  by_cases hc : rotDOk st n z off mask
  · have hr : rrotOk rs n z off mask := ⟨h.dead ▸ hc.1.1, hc.1.2, hc.2.1.1, hc.2.1.2, by
      have := hb hc.1.1 hc.1.2.1 hc.1.2.2
      rw [hc.2.2] at this
      injection this with this
      exact this.symm⟩
    rw [if_pos hc, if_pos hr]
    obtain ⟨⟨hd, h0, hn⟩, ⟨ho, hm⟩, _⟩ := hc
    refine ⟨h.dead, h.cache, fun hd k hk => ?_, fun hd k hk => ?_, fun e he => ?_, h.okw⟩
    · show (st.stored.set z.toNat (rotTo ((st.stored[z.toNat]?).getD []) off.toNat mask 4))[k]? = _
      rw [storedE_snoc]
      by_cases hk2 : z = k
      · subst hk2
        have := h.stored hd k hk
        simp only [Int.toNat_natCast, ↓reduceIte, hm, this, Option.getD_some]
        rw [List.getElem?_set_self (by rw [hok.sl]; exact hk)]
      · rw [if_neg hk2, List.getElem?_set_ne (by omega)]
        exact h.stored hd k hk
    · show (st.rotten.set z.toNat true)[k]? = _
      rw [badE_snoc]
      by_cases hk2 : z = k
      · subst hk2
        have hmb : (mask == 0) = false := by simpa using hm
        simp only [Int.toNat_natCast, ↓reduceIte, hmb, Bool.not_false]
        rw [List.getElem?_set_self (by rw [hok.rl]; exact hk)]
      · rw [if_neg hk2, List.getElem?_set_ne (by omega)]
        exact h.rotten hd k hk
    · rcases List.mem_append.1 he with h1 | h1
      · exact h.ok e h1
      · simp only [List.mem_singleton] at h1; subst h1; exact .inr ⟨hm, ho⟩
  · rw [if_neg hc, if_neg (fun hr : rrotOk rs n z off mask => hc ⟨⟨h.dead.trans hr.1, hr.2.1⟩, ⟨hr.2.2.1, hr.2.2.2.1⟩, by
      have := hb (h.dead.trans hr.1) hr.2.1.1 hr.2.1.2
      rw [this, hr.2.2.2.2]⟩)]
    exact h
theorem Sim.act {n : Nat} {st : DSt} {rs : RSt} (h : Sim n st rs) (hok : st.ok n) (a : ActV) : Sim n (actD n st a) (actR n rs a) := by
  unfold actD actR
  split
  · exact h.write _ _
  split
  · exact h.flush hok
  split
  · exact h.settle hok _
  split
  · exact ⟨rfl, rfl, fun hd => by simp [DSt.gone] at hd, fun hd => by simp [DSt.gone] at hd, by simp, by simp⟩
  split
  · exact Sim.new n
  split
  · exact h.rot hok _ _ _
  split
  · exact h.write _ _
  · exact h
/-- How much was done. -/
def RSt.size (rs : RSt) : Nat := rs.L.length + rs.wait.length
theorem wrR_size (n : Nat) (rs : RSt) (z : Int) (bs : List Int) : (wrR n rs z bs).size ≤ rs.size + 1 := by
  unfold wrR RSt.size
  split <;> simp <;> omega
end
end Go.Proofs.YtihnlhfngmbglaaGreat
