/-
  Drives side by side: what changes one; how many answers are so.
-/
import Derived.Test.YtolmpopjonkfgaaArr2
set_option linter.unusedSimpArgs false
set_option linter.unusedVariables false
namespace Go.Proofs.Ytolmpopjonkfgaa
open Go.RowKit Go.Cib
attribute [local go_sem] cell_set Later.cell Later.frozen Grw.cell Grw.frozen

theorem BoxAt.bools {w : World} {b : Nat} {xs : List Bool} (h : BoxAt w b (xs.map Value.bool).toArray) {S : Nat → Prop} (hS : S b) : RdL BoolR 1 S w (some ⟨b, 0, none⟩) xs.length xs :=
  ⟨rfl, fun _ => ⟨b, 0, rfl, hS, h.lt, fun i x hx => ⟨[.bool x], rfl, rfl, fun j v hj => by
    match j, hj with
    | 0, hj =>
      simp only [List.getElem?_cons_zero, Option.some.injEq] at hj
      subst hj
      rw [h.cell]
      simp [hx]⟩⟩⟩
theorem bool_at {S : Nat → Prop} {w : World} {A : Option Addr} {m : Nat} {xs : List Bool} (h : RdL BoolR 1 S w A m xs) {i : Nat} (hi : i < m) : ∃ b o x, A = some ⟨b, o, none⟩ ∧ xs[i]? = some x ∧ w.cell? ⟨b, o + i, none⟩ = some (.bool x) := by
  obtain ⟨b, o, rfl, _, hlt⟩ := h.addr hi
  obtain ⟨hl, cs, h1, h2, h3⟩ := h.at hi
  have h4 : cs = [.bool xs[i]] := h2
  subst h4
  refine ⟨b, o, xs[i], rfl, by simp [hl], ?_⟩
  simpa using h3 0 _ rfl
def cnt (l : List Bool) : Nat := l.count true
theorem cnt_snoc (l : List Bool) (x : Bool) : cnt (l ++ [x]) = cnt l + (if x then 1 else 0) := by cases x <;> simp [cnt]
theorem cnt_le (l : List Bool) : cnt l ≤ l.length := List.count_le_length
set_option maxRecDepth 100000 in
theorem counted_any {S : Nat → Prop} {w : World} {A : Option Addr} {m c : Nat} {xs : List Bool} (R : Hid (RdL BoolR 1 S w A m xs)) (hm : m < 1000000) :
    Calls Try.prog 73 #[.slice A m c] w fun e w' => e = .returned (.int .i64 (cnt xs)) ∧ Below w.heap.size w w' := by
  go_enter Try.func73, Try.ntmps73
  go_wp2_with fail
  go_loopw [3, 8] (fun vn vi wr => ∃ i : Nat, i ≤ m ∧ vn = .int .i64 (cnt (xs.take i)) ∧ vi = .int .i64 i ∧ wr = w) (fun _ vi _ => m - (intOf vi).toNat)
  case atStart => exact ⟨0, Nat.zero_le _, rfl, rfl, rfl⟩
  case round =>
    obtain ⟨i, hi, rfl, rfl, rfl⟩ := hrel
    by_cases hlt : i < m
    · obtain ⟨b, o, x, rfl, hx, y0⟩ := bool_at R.out hlt
      have h1 : (i : Int) < (m : Int) := by omega
      have h2 : (0 : Int) ≤ (i : Int) := Int.natCast_nonneg _
      have h3 : (i : Int) < 1000000 := by omega
      have htk : xs.take (i + 1) = xs.take i ++ [x] := by
        have hil := (List.getElem?_eq_some_iff.1 hx).1
        rw [List.take_succ_eq_append_getElem hil, (List.getElem?_eq_some_iff.1 hx).2]
      have hc := cnt_snoc (xs.take i) x
      rw [← htk] at hc
      have hcl := cnt_le (xs.take i)
      have hcl2 : (xs.take i).length ≤ i := by simp; omega
      have hw : IntKind.i64.wrap ((cnt (xs.take i) : Int) + 1) = (cnt (xs.take i) : Int) + 1 := by rw [IntKind.wrap_i64]; omega
      have HC := Lib.hid hc
      clear hc htk hx hcl hcl2
      cases x with
      | true =>
        go_wp2_with fail
        refine ⟨⟨i + 1, by omega, ?_, by go_num, trivial⟩, by simp [intOf]; omega⟩
        rw [HC.out]; rfl
      | false =>
        go_wp2_with fail
        refine ⟨⟨i + 1, by omega, ?_, by go_num, trivial⟩, by simp [intOf]; omega⟩
        rw [HC.out]; rfl
    · obtain rfl : i = m := by omega
      have h1 : ¬ (i : Int) < (i : Int) := by omega
      have hx : xs.take i = xs := by rw [List.take_of_length_le]; rw [R.out.1]; exact Nat.le_refl _
      have HX := Lib.hid hx
      clear hx
      go_wp2_with fail
      go_ret
      rw [HX.out]
      exact ⟨rfl, Below.refl _ _⟩

section
variable {U : Nat → Prop} {w : World} {a s : Nat} {v : Value} {Fs : Nat → Nat → Prop} {ps : List Nat} {sts : List DSt}
theorem ArrB.p_at (h : ArrB U w a v Fs ps s sts) {d : Nat} {st : DSt} (hst : sts[d]? = some st) : ∃ p, ps[d]? = some p ∧ DrvAt (Fs d) w p s st ∧ d < sts.length := by
  have hd : d < sts.length := (List.getElem?_eq_some_iff.1 hst).1
  exact ⟨_, List.getElem?_eq_getElem (by rw [← h.len]; exact hd), h.drv d _ _ (List.getElem?_eq_getElem _) hst, hd⟩
/-- One drive goes on behind something that changed nothing. -/
theorem ArrB.upd2 (h : ArrB U w a v Fs ps s sts) {w1 w2 : World} {i p : Nat} {st' : DSt} (hb : Below w.heap.size w w1) (hp : ps[i]? = some p) (hu : Upd (Fs i) w1 w2 p s st') : AUpd U w w2 a s (sts.set i st') := by
  obtain ⟨U', Fs', hB, h1, h2⟩ := (h.below hb).upd1 hp hu
  exact ⟨U', ⟨v, Fs', ps, hB⟩, fun k hk hlt => h1 k hk (Nat.lt_of_lt_of_le hlt hb.size), (Keep.of_below (F := U) hb).trans h2 (fun k h _ => h)⟩
set_option maxRecDepth 100000 in
theorem achange_in (h : Hid (ArrB U w a v Fs ps s sts)) (d : Nat) {st st' : DSt} (hst : sts[d]? = some st) (f : FuncId)
    (hc : ∀ (F : Nat → Prop) (p : Nat) (w' : World), Hid (DrvAt F w' p s st) → Calls Try.prog f #[.pointer (some ⟨p, 0, none⟩)] w' fun e w'' => e = .returned (.tuple #[]) ∧ Upd F w' w'' p s st') (hcf : ∀ args w, (callFunc f args).run Try.prog w = .ok (.enter f args) w) :
    Calls Try.prog 72 #[.pointer (some ⟨a, 0, none⟩), .int .i64 d, .func (.func f) #[] #[]] w fun e w' => e = .returned (.int .i64 0) ∧ AUpd U w w' a s (sts.set d st') := by
  obtain ⟨p, hp, hD, hd⟩ := h.out.p_at hst
  have HD := Lib.hid hD
  have HC := Lib.hid hc
  clear hD hc
  go_enter Try.func72, Try.ntmps72
  go_wp2_with fail
  refine (areach_in h d hd hp).mono ?_
  rintro e w1 ⟨rfl, t1⟩
  have T1 := Lib.hid t1
  clear t1
  go_wp2_with fail
  refine (HC.out _ _ w1 (Lib.hid (HD.out.below T1.out))).mono ?_
  rintro e w2 ⟨rfl, u2⟩
  have U2 := Lib.hid u2
  clear u2 hcf
  go_wp2_with fail
  go_ret
  exact ⟨rfl, h.out.upd2 T1.out hp U2.out⟩
set_option maxRecDepth 100000 in
theorem achange_out (h : Hid (ArrB U w a v Fs ps s sts)) (hk : 0 < sts.length) (d : Int) (hd : ¬ (0 ≤ d ∧ d < sts.length)) (x : Value) :
    Calls Try.prog 72 #[.pointer (some ⟨a, 0, none⟩), .int .i64 d, x] w fun e w' => e = .returned (.int .i64 2) ∧ Below w.heap.size w w' := by
  go_enter Try.func72, Try.ntmps72
  go_wp2_with fail
  refine (areach_out h hk d hd).mono ?_
  rintro e w1 ⟨rfl, t1⟩
  go_wp2_with fail
  go_ret
  exact ⟨rfl, t1⟩
end
theorem call_fail (args : Array Value) (w : World) : (callFunc 20 args).run Try.prog w = .ok (.enter 20 args) w := by go_simp
theorem call_repl (args : Array Value) (w : World) : (callFunc 22 args).run Try.prog w = .ok (.enter 22 args) w := by go_simp
theorem call_flush (args : Array Value) (w : World) : (callFunc 15 args).run Try.prog w = .ok (.enter 15 args) w := by go_simp
/-- Fail, whatever is asked. -/
def failA (s : Nat) (sts : List DSt) (d : Int) : List DSt := if 0 ≤ d ∧ d < sts.length then sts.set d.toNat (DSt.gone s) else sts
def replA (s : Nat) (sts : List DSt) (d : Int) : List DSt := if 0 ≤ d ∧ d < sts.length then sts.set d.toNat (DSt.new s) else sts
set_option maxRecDepth 100000 in
theorem afail_any {U : Nat → Prop} {w : World} {a s : Nat} {sts : List DSt} (h : Hid (ArrAt U w a s sts)) (hk : 0 < sts.length) (d : Int) :
    Calls Try.prog 30 #[.pointer (some ⟨a, 0, none⟩), .int .i64 d] w fun e w' => e = .returned (.int .i64 (if 0 ≤ d ∧ d < sts.length then 0 else 2)) ∧ AUpd U w w' a s (failA s sts d) := by
  obtain ⟨v, Fs, ps, hB⟩ := h.out
  have HB := Lib.hid hB
  clear hB
  unfold failA
  by_cases hd : 0 ≤ d ∧ d < sts.length
  · rw [if_pos hd, if_pos hd]
    obtain ⟨k, rfl⟩ : ∃ k : Nat, d = k := ⟨d.toNat, by omega⟩
    obtain ⟨st, hst⟩ : ∃ st, sts[k]? = some st := ⟨_, List.getElem?_eq_getElem (by omega)⟩
    clear hd
    go_enter Try.func30, Try.ntmps30
    go_wp2_with fail
    refine (achange_in HB k hst _ (fun F p w' hD => fail_any hD) call_fail).mono ?_
    rintro e w1 ⟨rfl, u⟩
    have UU := Lib.hid u
    clear u
    go_wp2_with fail
    go_ret
    exact ⟨rfl, UU.out⟩
  · rw [if_neg hd, if_neg hd]
    go_enter Try.func30, Try.ntmps30
    go_wp2_with fail
    refine (achange_out HB hk d hd _).mono ?_
    rintro e w1 ⟨rfl, t1⟩
    go_wp2_with fail
    go_ret
    exact ⟨rfl, h.out.upd t1⟩
set_option maxRecDepth 100000 in
theorem arepl_any {U : Nat → Prop} {w : World} {a s : Nat} {sts : List DSt} (h : Hid (ArrAt U w a s sts)) (hk : 0 < sts.length) (d : Int) :
    Calls Try.prog 41 #[.pointer (some ⟨a, 0, none⟩), .int .i64 d] w fun e w' => e = .returned (.int .i64 (if 0 ≤ d ∧ d < sts.length then 0 else 2)) ∧ AUpd U w w' a s (replA s sts d) := by
  obtain ⟨v, Fs, ps, hB⟩ := h.out
  have HB := Lib.hid hB
  clear hB
  unfold replA
  by_cases hd : 0 ≤ d ∧ d < sts.length
  · rw [if_pos hd, if_pos hd]
    obtain ⟨k, rfl⟩ : ∃ k : Nat, d = k := ⟨d.toNat, by omega⟩
    obtain ⟨st, hst⟩ : ∃ st, sts[k]? = some st := ⟨_, List.getElem?_eq_getElem (by omega)⟩
    clear hd
    go_enter Try.func41, Try.ntmps41
    go_wp2_with fail
    refine (achange_in HB k hst _ (fun F p w' hD => replace_any hD) call_repl).mono ?_
    rintro e w1 ⟨rfl, u⟩
    have UU := Lib.hid u
    clear u
    go_wp2_with fail
    go_ret
    exact ⟨rfl, UU.out⟩
  · rw [if_neg hd, if_neg hd]
    go_enter Try.func41, Try.ntmps41
    go_wp2_with fail
    refine (achange_out HB hk d hd _).mono ?_
    rintro e w1 ⟨rfl, t1⟩
    go_wp2_with fail
    go_ret
    exact ⟨rfl, h.out.upd t1⟩
end Go.Proofs.Ytolmpopjonkfgaa
