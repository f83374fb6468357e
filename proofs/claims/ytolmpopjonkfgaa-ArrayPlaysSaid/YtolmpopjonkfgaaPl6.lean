/-
  Drives side by side: one drive.
  Drives side by side: what changes one; how many answers are so.
  Drives side by side: what one is asked; how many aren't dead; all flushed.
  Drives side by side: Flush.
  Drives side by side: Crash, PutRow.
  Drives side by side: Row.
  Drives side by side: New.
  Drives side by side: Copy.
-/
import Derived.Test.YtolmpopjonkfgaaPl5
import Derived.Test.YtolmpopjonkfgaaPl4
set_option linter.unusedSimpArgs false
set_option linter.unusedVariables false
namespace Go.Proofs.Ytolmpopjonkfgaa
open Go.RowKit Go.Cib
attribute [local go_sem] cell_set Later.cell Later.frozen Grw.cell Grw.frozen

section
variable {U : Nat → Prop} {w : World} {a s : Nat} {v : Value} {Fs : Nat → Nat → Prop} {ps : List Nat} {sts : List DSt}
set_option maxRecDepth 100000 in
theorem anone (h : Hid (ArrB U w a v Fs ps s sts)) (hk : 0 < sts.length) :
    Calls Try.prog 74 #[.pointer (some ⟨a, 0, none⟩)] w fun e w' => e = .returned (.bool false) ∧ Below w.heap.size w w' := by
  obtain ⟨A, c, _, c0, _⟩ := arr_cells h.out
  have hk0 : ((sts.length : Int) == 0) = false := by rw [beq_eq_false_iff_ne]; omega
  go_enter Try.func74, Try.ntmps74
  go_wp2_with fail
  go_ret
  exact ⟨rfl, Below.refl _ _⟩
set_option maxRecDepth 100000 in
theorem an_any (h : Hid (ArrB U w a v Fs ps s sts)) (hk : 0 < sts.length) :
    Calls Try.prog 51 #[.pointer (some ⟨a, 0, none⟩)] w fun e w' => e = .returned (.int .i64 sts.length) ∧ Below w.heap.size w w' := by
  go_enter Try.func51, Try.ntmps51
  go_wp2_with fail
  refine (anone h hk).mono ?_
  rintro e w1 ⟨rfl, t1⟩
  obtain ⟨A, c, _, c0, _⟩ := arr_cells (h.out.below t1)
  go_wp2_with fail
  go_ret
  exact ⟨rfl, t1⟩
set_option maxRecDepth 100000 in
theorem aat_in (h : Hid (ArrB U w a v Fs ps s sts)) (d : Nat) (hd : d < sts.length) {p : Nat} (hp : ps[d]? = some p) :
    Calls Try.prog 77 #[.pointer (some ⟨a, 0, none⟩), .int .i64 d] w fun e w' => e = .returned (.pointer (some ⟨p, 0, none⟩)) ∧ Below w.heap.size w w' := by
  have h0 : (0 : Int) ≤ (d : Int) := Int.natCast_nonneg _
  have h1 : (d : Int) < (sts.length : Int) := by omega
  go_enter Try.func77, Try.ntmps77
  go_wp2_with fail
  refine (anone h (by omega)).mono ?_
  rintro e w1 ⟨rfl, t1⟩
  obtain ⟨A, c, _, c0, hc⟩ := arr_cells (h.out.below t1)
  obtain ⟨g, p', st, rfl, hp', hst, cg, _⟩ := hc d hd
  obtain rfl : p' = p := by rw [hp] at hp'; injection hp' with hp'; exact hp'.symm
  clear hc hst
  go_wp2_with fail
  go_ret
  exact ⟨rfl, t1⟩
set_option maxRecDepth 100000 in
theorem aat_out (h : Hid (ArrB U w a v Fs ps s sts)) (hk : 0 < sts.length) (d : Int) (hd : ¬ (0 ≤ d ∧ d < sts.length)) :
    Calls Try.prog 77 #[.pointer (some ⟨a, 0, none⟩), .int .i64 d] w fun e w' => e = .returned (.pointer none) ∧ Below w.heap.size w w' := by
  by_cases h0 : d < 0
  · have d0 : decide (d < 0) = true := by simpa using h0
    clear hd
    go_enter Try.func77, Try.ntmps77
    go_wp2_with fail
    refine (anone h hk).mono ?_
    rintro e w1 ⟨rfl, t1⟩
    go_wp2_with fail
    go_ret
    exact ⟨rfl, t1⟩
  · have d0 : decide (d < 0) = false := by simpa using h0
    have d1 : decide ((sts.length : Int) ≤ d) = true := by simp; omega
    clear hd
    go_enter Try.func77, Try.ntmps77
    go_wp2_with fail
    refine (anone h hk).mono ?_
    rintro e w1 ⟨rfl, t1⟩
    obtain ⟨A, c, _, c0, _⟩ := arr_cells (h.out.below t1)
    go_wp2_with fail
    go_ret
    exact ⟨rfl, t1⟩
set_option maxRecDepth 100000 in
theorem areach_in (h : Hid (ArrB U w a v Fs ps s sts)) (d : Nat) (hd : d < sts.length) {p : Nat} (hp : ps[d]? = some p) :
    Calls Try.prog 78 #[.pointer (some ⟨a, 0, none⟩), .int .i64 d] w fun e w' => e = .returned (.tuple #[.pointer (some ⟨p, 0, none⟩), .int .i64 0]) ∧ Below w.heap.size w w' := by
  go_enter Try.func78, Try.ntmps78
  go_wp2_with fail
  refine (anone h (by omega)).mono ?_
  rintro e w1 ⟨rfl, t1⟩
  have H1 := Lib.hid (h.out.below t1)
  go_wp2_with fail
  refine (aat_in H1 d hd hp).mono ?_
  rintro e w2 ⟨rfl, t2⟩
  go_wp2_with fail
  go_ret2
  exact ⟨rfl, t1.trans (t2.mono t1.size)⟩
set_option maxRecDepth 100000 in
theorem areach_out (h : Hid (ArrB U w a v Fs ps s sts)) (hk : 0 < sts.length) (d : Int) (hd : ¬ (0 ≤ d ∧ d < sts.length)) :
    Calls Try.prog 78 #[.pointer (some ⟨a, 0, none⟩), .int .i64 d] w fun e w' => e = .returned (.tuple #[.pointer none, .int .i64 2]) ∧ Below w.heap.size w w' := by
  go_enter Try.func78, Try.ntmps78
  go_wp2_with fail
  refine (anone h hk).mono ?_
  rintro e w1 ⟨rfl, t1⟩
  have H1 := Lib.hid (h.out.below t1)
  go_wp2_with fail
  refine (aat_out H1 hk d hd).mono ?_
  rintro e w2 ⟨rfl, t2⟩
  go_wp2_with fail
  go_ret2
  exact ⟨rfl, t1.trans (t2.mono t1.size)⟩

/-- What a drive reads at z, or nothing. -/
def readL (st : DSt) (n : Nat) (z : Int) : List Int := if readyE st.dead n z = 0 then st.seen z.toNat else []
theorem read_whole {F : Nat → Prop} {p n : Nat} {st : DSt} (h : Hid (DrvAt F w p n st)) (z : Int) :
    Calls Try.prog 14 #[.pointer (some ⟨p, 0, none⟩), .int .i64 z] w fun e w' => ∃ A m c, e = .returned (.tuple #[.slice A m c, .int .i64 (readyE st.dead n z)]) ∧ RdL U8R 1 (w.heap.size ≤ ·) w' A m (readL st n z) ∧ Below w.heap.size w w' := by
  by_cases hz : readyE st.dead n z = 0
  · obtain ⟨hd, h0, hn⟩ := (ready_iff st n z).1 hz
    obtain ⟨k, rfl⟩ : ∃ k : Nat, z = k := ⟨z.toNat, by omega⟩
    refine (read_at h hd k (by omega)).mono ?_
    rintro e w' ⟨b, o, rfl, h1, h2, hr, hb⟩
    refine ⟨_, _, _, by rw [hz], ?_, hb⟩
    unfold readL
    rw [if_pos hz]
    exact hr.weaken U8R.stable (by rintro k rfl; exact h1)
  · refine (read_bad h z hz).mono ?_
    rintro e w' ⟨rfl, hb⟩
    refine ⟨_, _, _, rfl, ?_, hb⟩
    unfold readL
    rw [if_neg hz]
    exact RdL.nil
set_option maxRecDepth 100000 in
theorem aread_in (h : Hid (ArrB U w a v Fs ps s sts)) (d : Nat) {st : DSt} (hst : sts[d]? = some st) (z : Int) :
    Calls Try.prog 43 #[.pointer (some ⟨a, 0, none⟩), .int .i64 d, .int .i64 z] w fun e w' => ∃ A m c, e = .returned (.tuple #[.slice A m c, .int .i64 (readyE st.dead s z)]) ∧ RdL U8R 1 (w.heap.size ≤ ·) w' A m (readL st s z) ∧ Below w.heap.size w w' := by
  have hd : d < sts.length := (List.getElem?_eq_some_iff.1 hst).1
  have hp : ps[d]? = some (ps[d]'(by rw [← h.out.len]; exact hd)) := List.getElem?_eq_getElem _
  go_enter Try.func43, Try.ntmps43
  go_wp2_with fail
  refine (areach_in h d hd hp).mono ?_
  rintro e w1 ⟨rfl, t1⟩
  have D1 := Lib.hid ((h.out.drv d _ _ hp hst).below t1)
  have T1 := Lib.hid t1
  have s1 := t1.size
  clear t1
  go_wp2_with fail
  refine (read_whole D1 z).mono ?_
  rintro e w2 ⟨A, m, c, rfl, r2, t2⟩
  have R2 := Lib.hid r2
  clear r2
  go_wp2_with fail
  go_ret2
  exact ⟨A, m, c, rfl, R2.out.weaken U8R.stable (fun k hk => Nat.le_trans s1 hk), T1.out.trans (t2.mono s1)⟩
end
end Go.Proofs.Ytolmpopjonkfgaa

set_option linter.unusedSimpArgs false
set_option linter.unusedVariables false
namespace Go.Proofs.Ytolmpopjonkfgaa
open Go.RowKit Go.Cib
attribute [local go_sem] cell_set Later.cell Later.frozen Grw.cell Grw.frozen

theorem BoxAt.bools {w : World} {b : Nat} {xs : List Bool} (h : BoxAt w b (xs.map Value.bool).toArray) {S : Nat → Prop} (hS : S b) : RdL BoolR 1 S w (some ⟨b, 0, none⟩) xs.length xs :=
  ⟨rfl, fun _ => ⟨b, 0, rfl, hS, h.lt, fun i x hx => ⟨[.bool x], rfl, rfl, fun j v hj => by
    match j, hj with
    | 0, hj =>
      simp only [List.getElem?_cons_zero, Option.some.injEq] at hj
      subst hj
      rw [h.cell]
      simp [hx]⟩⟩⟩
theorem bool_at {S : Nat → Prop} {w : World} {A : Option Addr} {m : Nat} {xs : List Bool} (h : RdL BoolR 1 S w A m xs) {i : Nat} (hi : i < m) : ∃ b o x, A = some ⟨b, o, none⟩ ∧ xs[i]? = some x ∧ w.cell? ⟨b, o + i, none⟩ = some (.bool x) := by
  obtain ⟨b, o, rfl, _, hlt⟩ := h.addr hi
  obtain ⟨hl, cs, h1, h2, h3⟩ := h.at hi
  have h4 : cs = [.bool xs[i]] := h2
  subst h4
  refine ⟨b, o, xs[i], rfl, by simp [hl], ?_⟩
  simpa using h3 0 _ rfl
def cnt (l : List Bool) : Nat := l.count true
theorem cnt_snoc (l : List Bool) (x : Bool) : cnt (l ++ [x]) = cnt l + (if x then 1 else 0) := by cases x <;> simp [cnt]
theorem cnt_le (l : List Bool) : cnt l ≤ l.length := List.count_le_length
set_option maxRecDepth 100000 in
theorem counted_any {S : Nat → Prop} {w : World} {A : Option Addr} {m c : Nat} {xs : List Bool} (R : Hid (RdL BoolR 1 S w A m xs)) (hm : m < 1000000) :
    Calls Try.prog 73 #[.slice A m c] w fun e w' => e = .returned (.int .i64 (cnt xs)) ∧ Below w.heap.size w w' := by
  go_enter Try.func73, Try.ntmps73
  go_wp2_with fail
  go_loopw [3, 8] (fun vn vi wr => ∃ i : Nat, i ≤ m ∧ vn = .int .i64 (cnt (xs.take i)) ∧ vi = .int .i64 i ∧ wr = w) (fun _ vi _ => m - (intOf vi).toNat)
  case atStart => exact ⟨0, Nat.zero_le _, rfl, rfl, rfl⟩
  case round =>
    obtain ⟨i, hi, rfl, rfl, rfl⟩ := hrel
    by_cases hlt : i < m
    · obtain ⟨b, o, x, rfl, hx, y0⟩ := bool_at R.out hlt
      have h1 : (i : Int) < (m : Int) := by omega
      have h2 : (0 : Int) ≤ (i : Int) := Int.natCast_nonneg _
      have h3 : (i : Int) < 1000000 := by omega
      have htk : xs.take (i + 1) = xs.take i ++ [x] := by
        have hil := (List.getElem?_eq_some_iff.1 hx).1
        rw [List.take_succ_eq_append_getElem hil, (List.getElem?_eq_some_iff.1 hx).2]
      have hc := cnt_snoc (xs.take i) x
      rw [← htk] at hc
      have hcl := cnt_le (xs.take i)
      have hcl2 : (xs.take i).length ≤ i := by simp; omega
      have hw : IntKind.i64.wrap ((cnt (xs.take i) : Int) + 1) = (cnt (xs.take i) : Int) + 1 := by rw [IntKind.wrap_i64]; omega
      have HC := Lib.hid hc
      clear hc htk hx hcl hcl2
      cases x with
      | true =>
        go_wp2_with fail
        refine ⟨⟨i + 1, by omega, ?_, by go_num, trivial⟩, by simp [intOf]; omega⟩
        rw [HC.out]; rfl
      | false =>
        go_wp2_with fail
        refine ⟨⟨i + 1, by omega, ?_, by go_num, trivial⟩, by simp [intOf]; omega⟩
        rw [HC.out]; rfl
    · obtain rfl : i = m := by omega
      have h1 : ¬ (i : Int) < (i : Int) := by omega
      have hx : xs.take i = xs := by rw [List.take_of_length_le]; rw [R.out.1]; exact Nat.le_refl _
      have HX := Lib.hid hx
      clear hx
      go_wp2_with fail
      go_ret
      rw [HX.out]
      exact ⟨rfl, Below.refl _ _⟩

section
variable {U : Nat → Prop} {w : World} {a s : Nat} {v : Value} {Fs : Nat → Nat → Prop} {ps : List Nat} {sts : List DSt}
theorem ArrB.p_at (h : ArrB U w a v Fs ps s sts) {d : Nat} {st : DSt} (hst : sts[d]? = some st) : ∃ p, ps[d]? = some p ∧ DrvAt (Fs d) w p s st ∧ d < sts.length := by
  have hd : d < sts.length := (List.getElem?_eq_some_iff.1 hst).1
  exact ⟨_, List.getElem?_eq_getElem (by rw [← h.len]; exact hd), h.drv d _ _ (List.getElem?_eq_getElem _) hst, hd⟩
/-- One drive goes on behind something that changed nothing. -/
theorem ArrB.upd2 (h : ArrB U w a v Fs ps s sts) {w1 w2 : World} {i p : Nat} {st' : DSt} (hb : Below w.heap.size w w1) (hp : ps[i]? = some p) (hu : Upd (Fs i) w1 w2 p s st') : AUpd U w w2 a s (sts.set i st') := by
  obtain ⟨U', Fs', hB, h1, h2⟩ := (h.below hb).upd1 hp hu
  exact ⟨U', ⟨v, Fs', ps, hB⟩, fun k hk hlt => h1 k hk (Nat.lt_of_lt_of_le hlt hb.size), (Keep.of_below (F := U) hb).trans h2 (fun k h _ => h)⟩
set_option maxRecDepth 100000 in
theorem achange_in (h : Hid (ArrB U w a v Fs ps s sts)) (d : Nat) {st st' : DSt} (hst : sts[d]? = some st) (f : FuncId)
    (hc : ∀ (F : Nat → Prop) (p : Nat) (w' : World), Hid (DrvAt F w' p s st) → Calls Try.prog f #[.pointer (some ⟨p, 0, none⟩)] w' fun e w'' => e = .returned (.tuple #[]) ∧ Upd F w' w'' p s st') (hcf : ∀ args w, (callFunc f args).run Try.prog w = .ok (.enter f args) w) :
    Calls Try.prog 72 #[.pointer (some ⟨a, 0, none⟩), .int .i64 d, .func (.func f) #[] #[]] w fun e w' => e = .returned (.int .i64 0) ∧ AUpd U w w' a s (sts.set d st') := by
  obtain ⟨p, hp, hD, hd⟩ := h.out.p_at hst
  have HD := Lib.hid hD
  have HC := Lib.hid hc
  clear hD hc
  go_enter Try.func72, Try.ntmps72
  go_wp2_with fail
  refine (areach_in h d hd hp).mono ?_
  rintro e w1 ⟨rfl, t1⟩
  have T1 := Lib.hid t1
  clear t1
  go_wp2_with fail
  refine (HC.out _ _ w1 (Lib.hid (HD.out.below T1.out))).mono ?_
  rintro e w2 ⟨rfl, u2⟩
  have U2 := Lib.hid u2
  clear u2 hcf
  go_wp2_with fail
  go_ret
  exact ⟨rfl, h.out.upd2 T1.out hp U2.out⟩
set_option maxRecDepth 100000 in
theorem achange_out (h : Hid (ArrB U w a v Fs ps s sts)) (hk : 0 < sts.length) (d : Int) (hd : ¬ (0 ≤ d ∧ d < sts.length)) (x : Value) :
    Calls Try.prog 72 #[.pointer (some ⟨a, 0, none⟩), .int .i64 d, x] w fun e w' => e = .returned (.int .i64 2) ∧ Below w.heap.size w w' := by
  go_enter Try.func72, Try.ntmps72
  go_wp2_with fail
  refine (areach_out h hk d hd).mono ?_
  rintro e w1 ⟨rfl, t1⟩
  go_wp2_with fail
  go_ret
  exact ⟨rfl, t1⟩
end
theorem call_fail (args : Array Value) (w : World) : (callFunc 20 args).run Try.prog w = .ok (.enter 20 args) w := by go_simp
theorem call_repl (args : Array Value) (w : World) : (callFunc 22 args).run Try.prog w = .ok (.enter 22 args) w := by go_simp
theorem call_flush (args : Array Value) (w : World) : (callFunc 15 args).run Try.prog w = .ok (.enter 15 args) w := by go_simp
/-- Fail, whatever is asked. -/
def failA (s : Nat) (sts : List DSt) (d : Int) : List DSt := if 0 ≤ d ∧ d < sts.length then sts.set d.toNat (DSt.gone s) else sts
def replA (s : Nat) (sts : List DSt) (d : Int) : List DSt := if 0 ≤ d ∧ d < sts.length then sts.set d.toNat (DSt.new s) else sts
set_option maxRecDepth 100000 in
theorem afail_any {U : Nat → Prop} {w : World} {a s : Nat} {sts : List DSt} (h : Hid (ArrAt U w a s sts)) (hk : 0 < sts.length) (d : Int) :
    Calls Try.prog 30 #[.pointer (some ⟨a, 0, none⟩), .int .i64 d] w fun e w' => e = .returned (.int .i64 (if 0 ≤ d ∧ d < sts.length then 0 else 2)) ∧ AUpd U w w' a s (failA s sts d) := by
  obtain ⟨v, Fs, ps, hB⟩ := h.out
  have HB := Lib.hid hB
  clear hB
  unfold failA
  by_cases hd : 0 ≤ d ∧ d < sts.length
  · rw [if_pos hd, if_pos hd]
    obtain ⟨k, rfl⟩ : ∃ k : Nat, d = k := ⟨d.toNat, by omega⟩
    obtain ⟨st, hst⟩ : ∃ st, sts[k]? = some st := ⟨_, List.getElem?_eq_getElem (by omega)⟩
    clear hd
    go_enter Try.func30, Try.ntmps30
    go_wp2_with fail
    refine (achange_in HB k hst _ (fun F p w' hD => fail_any hD) call_fail).mono ?_
    rintro e w1 ⟨rfl, u⟩
    have UU := Lib.hid u
    clear u
    go_wp2_with fail
    go_ret
    exact ⟨rfl, UU.out⟩
  · rw [if_neg hd, if_neg hd]
    go_enter Try.func30, Try.ntmps30
    go_wp2_with fail
    refine (achange_out HB hk d hd _).mono ?_
    rintro e w1 ⟨rfl, t1⟩
    go_wp2_with fail
    go_ret
    exact ⟨rfl, h.out.upd t1⟩
set_option maxRecDepth 100000 in
theorem arepl_any {U : Nat → Prop} {w : World} {a s : Nat} {sts : List DSt} (h : Hid (ArrAt U w a s sts)) (hk : 0 < sts.length) (d : Int) :
    Calls Try.prog 41 #[.pointer (some ⟨a, 0, none⟩), .int .i64 d] w fun e w' => e = .returned (.int .i64 (if 0 ≤ d ∧ d < sts.length then 0 else 2)) ∧ AUpd U w w' a s (replA s sts d) := by
  obtain ⟨v, Fs, ps, hB⟩ := h.out
  have HB := Lib.hid hB
  clear hB
  unfold replA
  by_cases hd : 0 ≤ d ∧ d < sts.length
  · rw [if_pos hd, if_pos hd]
    obtain ⟨k, rfl⟩ : ∃ k : Nat, d = k := ⟨d.toNat, by omega⟩
    obtain ⟨st, hst⟩ : ∃ st, sts[k]? = some st := ⟨_, List.getElem?_eq_getElem (by omega)⟩
    clear hd
    go_enter Try.func41, Try.ntmps41
    go_wp2_with fail
    refine (achange_in HB k hst _ (fun F p w' hD => replace_any hD) call_repl).mono ?_
    rintro e w1 ⟨rfl, u⟩
    have UU := Lib.hid u
    clear u
    go_wp2_with fail
    go_ret
    exact ⟨rfl, UU.out⟩
  · rw [if_neg hd, if_neg hd]
    go_enter Try.func41, Try.ntmps41
    go_wp2_with fail
    refine (achange_out HB hk d hd _).mono ?_
    rintro e w1 ⟨rfl, t1⟩
    go_wp2_with fail
    go_ret
    exact ⟨rfl, h.out.upd t1⟩
end Go.Proofs.Ytolmpopjonkfgaa

set_option linter.unusedSimpArgs false
set_option linter.unusedVariables false
namespace Go.Proofs.Ytolmpopjonkfgaa
open Go.RowKit Go.Cib
attribute [local go_sem] cell_set Later.cell Later.frozen Grw.cell Grw.frozen

section
variable {U : Nat → Prop} {w : World} {a s : Nat} {v : Value} {Fs : Nat → Nat → Prop} {ps : List Nat} {sts : List DSt}
set_option maxRecDepth 100000 in
theorem adead_in (h : Hid (ArrB U w a v Fs ps s sts)) (d : Nat) {st : DSt} (hst : sts[d]? = some st) :
    Calls Try.prog 37 #[.pointer (some ⟨a, 0, none⟩), .int .i64 d] w fun e w' => e = .returned (.bool st.dead) ∧ Below w.heap.size w w' := by
  obtain ⟨p, hp, hD, hd⟩ := h.out.p_at hst
  have HD := Lib.hid hD
  clear hD
  go_enter Try.func37, Try.ntmps37
  go_wp2_with fail
  refine (aat_in h d hd hp).mono ?_
  rintro e w1 ⟨rfl, t1⟩
  have T1 := Lib.hid t1
  obtain ⟨sb, sc, rb, rc, A, cc, mb, H⟩ := (HD.out.below t1).box
  clear t1
  go_wp2_with fail
  refine (dead_any H).mono ?_
  rintro e w2 ⟨rfl, t2⟩
  go_wp2_with fail
  go_ret
  exact ⟨rfl, T1.out.trans (t2.mono T1.out.size)⟩
set_option maxRecDepth 100000 in
theorem awaits_in (h : Hid (ArrB U w a v Fs ps s sts)) (d : Nat) {st : DSt} (hst : sts[d]? = some st) :
    Calls Try.prog 44 #[.pointer (some ⟨a, 0, none⟩), .int .i64 d] w fun e w' => e = .returned (.int .i64 st.cache.length) ∧ Below w.heap.size w w' := by
  obtain ⟨p, hp, hD, hd⟩ := h.out.p_at hst
  have HD := Lib.hid hD
  clear hD
  go_enter Try.func44, Try.ntmps44
  go_wp2_with fail
  refine (aat_in h d hd hp).mono ?_
  rintro e w1 ⟨rfl, t1⟩
  have T1 := Lib.hid t1
  obtain ⟨sb, sc, rb, rc, A, cc, mb, H⟩ := (HD.out.below t1).box
  clear t1
  go_wp2_with fail
  refine (waits_any H).mono ?_
  rintro e w2 ⟨rfl, t2⟩
  go_wp2_with fail
  go_ret
  exact ⟨rfl, T1.out.trans (t2.mono T1.out.size)⟩
/-- A drive's mark at z. -/
def markL (st : DSt) (z : Nat) : Bool := if st.dead then false else (st.rotten[z]?).getD false
theorem rotten_whole {F : Nat → Prop} {p n : Nat} {st : DSt} (h : Hid (DrvAt F w p n st)) (z : Nat) (hz : z < n) :
    Calls Try.prog 19 #[.pointer (some ⟨p, 0, none⟩), .int .i64 z] w fun e w' => e = .returned (.bool (markL st z)) ∧ Below w.heap.size w w' := by
  cases hd : st.dead with
  | true =>
    refine (rotten_dead h hd z).mono ?_
    rintro e w' ⟨rfl, hb⟩
    exact ⟨by simp [markL, hd], hb⟩
  | false =>
    have hr : st.rotten[z]? = some (st.rotten[z]'(by rw [h.out.ok.rl]; exact hz)) := List.getElem?_eq_getElem _
    refine (rotten_any h hd z hz hr).mono ?_
    rintro e w' ⟨rfl, hb⟩
    exact ⟨by simp [markL, hd, hr], hb⟩
set_option maxRecDepth 100000 in
theorem arotten_in (h : Hid (ArrB U w a v Fs ps s sts)) (d : Nat) {st : DSt} (hst : sts[d]? = some st) (z : Nat) (hz : z < s) :
    Calls Try.prog 45 #[.pointer (some ⟨a, 0, none⟩), .int .i64 d, .int .i64 z] w fun e w' => e = .returned (.bool (markL st z)) ∧ Below w.heap.size w w' := by
  obtain ⟨p, hp, hD, hd⟩ := h.out.p_at hst
  have HD := Lib.hid hD
  clear hD
  go_enter Try.func45, Try.ntmps45
  go_wp2_with fail
  refine (aat_in h d hd hp).mono ?_
  rintro e w1 ⟨rfl, t1⟩
  have T1 := Lib.hid t1
  clear t1
  go_wp2_with fail
  refine (rotten_whole (Lib.hid (HD.out.below T1.out)) z hz).mono ?_
  rintro e w2 ⟨rfl, t2⟩
  go_wp2_with fail
  go_ret
  exact ⟨rfl, T1.out.trans (t2.mono T1.out.size)⟩
def wrDA (n : Nat) (st : DSt) (z : Int) (bs : List Int) : DSt := if readyE st.dead n z = 0 ∧ bs.length = 64 then st.write z bs else st
set_option maxRecDepth 100000 in
theorem awrite_in (h : Hid (ArrB U w a v Fs ps s sts)) (d : Nat) {st : DSt} (hst : sts[d]? = some st) (z : Int) {S : Nat → Prop} {A : Option Addr} {m c : Nat} {bs : List Int} (hb : Hid (RdL U8R 1 S w A m bs)) (hS : ∀ b, S b → ¬ U b) (hcl : st.cache.length < 1000000) :
    Calls Try.prog 40 #[.pointer (some ⟨a, 0, none⟩), .int .i64 d, .int .i64 z, .slice A m c] w fun e w' => e = .returned (.int .i64 (writeE st.dead s z m)) ∧ AUpd U w w' a s (sts.set d (wrDA s st z bs)) := by
  obtain ⟨p, hp, hD, hd⟩ := h.out.p_at hst
  have HD := Lib.hid hD
  have HS := Lib.hid hS
  clear hD hS
  go_enter Try.func40, Try.ntmps40
  go_wp2_with fail
  refine (areach_in h d hd hp).mono ?_
  rintro e w1 ⟨rfl, t1⟩
  have T1 := Lib.hid t1
  clear t1
  go_wp2_with fail
  refine (write_all (Lib.hid (HD.out.below T1.out)) z (Lib.hid (hb.out.below U8R.stable T1.out)) (fun b hs hf => HS.out b hs (h.out.uf d b hf)) hcl).mono ?_
  rintro e w2 ⟨rfl, u2⟩
  obtain rfl : bs.length = m := hb.out.1
  have U2 := Lib.hid (show Upd (Fs d) w1 w2 p s (wrDA s st z bs) from u2)
  clear u2
  go_wp2_with fail
  go_ret
  exact ⟨rfl, h.out.upd2 T1.out hp U2.out⟩
def rtDA (n : Nat) (st : DSt) (z off mask : Int) : DSt := if rotDOk st n z off mask then st.rot z.toNat off.toNat mask else st
set_option maxRecDepth 100000 in
theorem arot_in (h : Hid (ArrB U w a v Fs ps s sts)) (d : Nat) {st : DSt} (hst : sts[d]? = some st) (z off mask : Int) :
    Calls Try.prog 42 #[.pointer (some ⟨a, 0, none⟩), .int .i64 d, .int .i64 z, .int .i64 off, .int .u32 mask] w fun e w' => (∃ E, e = .returned (.int .i64 E)) ∧ AUpd U w w' a s (sts.set d (rtDA s st z off mask)) := by
  obtain ⟨p, hp, hD, hd⟩ := h.out.p_at hst
  have HD := Lib.hid hD
  clear hD
  go_enter Try.func42, Try.ntmps42
  go_wp2_with fail
  refine (areach_in h d hd hp).mono ?_
  rintro e w1 ⟨rfl, t1⟩
  have T1 := Lib.hid t1
  clear t1
  go_wp2_with fail
  refine (rot_all (Lib.hid (HD.out.below T1.out)) z off mask).mono ?_
  rintro e w2 ⟨⟨E, rfl⟩, u2⟩
  have U2 := Lib.hid (show Upd (Fs d) w1 w2 p s (rtDA s st z off mask) from u2)
  clear u2
  go_wp2_with fail
  go_ret
  exact ⟨⟨_, rfl⟩, h.out.upd2 T1.out hp U2.out⟩

/-! ### All of them, one by one -/
def stepTo (g : Nat → DSt → DSt) (i : Nat) (sts : List DSt) : List DSt := sts.mapIdx (fun j st => if j < i then g j st else st)
theorem stepTo_get (g : Nat → DSt → DSt) (i : Nat) (sts : List DSt) (j : Nat) : (stepTo g i sts)[j]? = (sts[j]?).map (fun st => if j < i then g j st else st) := by simp [stepTo]
theorem stepTo_len (g : Nat → DSt → DSt) (i : Nat) (sts : List DSt) : (stepTo g i sts).length = sts.length := by simp [stepTo]
theorem stepTo_zero (g : Nat → DSt → DSt) (sts : List DSt) : stepTo g 0 sts = sts := by
  apply List.ext_getElem?
  intro j
  rw [stepTo_get]
  cases sts[j]? <;> simp
theorem stepTo_at (g : Nat → DSt → DSt) (i : Nat) (sts : List DSt) {st : DSt} (h : sts[i]? = some st) : (stepTo g i sts)[i]? = some st := by rw [stepTo_get, h]; simp
theorem stepTo_succ (g : Nat → DSt → DSt) (i : Nat) (sts : List DSt) {st : DSt} (h : sts[i]? = some st) : (stepTo g i sts).set i (g i st) = stepTo g (i + 1) sts := by
  apply List.ext_getElem?
  intro j
  rw [stepTo_get]
  by_cases hj : i = j
  · subst hj
    rw [List.getElem?_set_self (by rw [stepTo_len]; exact (List.getElem?_eq_some_iff.1 h).1), h]; simp
  · rw [List.getElem?_set_ne hj, stepTo_get]
    cases sts[j]? with
    | none => rfl
    | some y =>
      simp only [Option.map_some, Option.some.injEq]
      by_cases h1 : j < i
      · rw [if_pos h1, if_pos (by omega)]
      · rw [if_neg h1, if_neg (by omega)]
theorem stepTo_all (g : Nat → DSt → DSt) (sts : List DSt) : stepTo g sts.length sts = sts.mapIdx g := by
  apply List.ext_getElem?
  intro j
  rw [stepTo_get, List.getElem?_mapIdx]
  cases h : sts[j]? with
  | none => rfl
  | some y =>
    have := (List.getElem?_eq_some_iff.1 h).1
    simp [this]

def aliveL (sts : List DSt) : List Bool := sts.map (fun st => !st.dead)
set_option maxRecDepth 100000 in
theorem aalive_any (h : Hid (ArrB U w a v Fs ps s sts)) (hk : 0 < sts.length) (hk2 : sts.length < 1000000) :
    Calls Try.prog 31 #[.pointer (some ⟨a, 0, none⟩)] w fun e w' => e = .returned (.int .i64 (cnt (aliveL sts))) ∧ Below w.heap.size w w' := by
  go_enter Try.func31, Try.ntmps31
  go_wp2_with fail
  refine (an_any h hk).mono ?_
  rintro e w1 ⟨rfl, t1⟩
  have T1 := Lib.hid t1
  clear t1
  go_wp2_with fail
  go_loopw [3, 7] (fun vn vi wr => ∃ i : Nat, i ≤ sts.length ∧ vn = .int .i64 (cnt (aliveL (sts.take i))) ∧ vi = .int .i64 i ∧ Hid (Below w.heap.size w wr)) (fun _ vi _ => sts.length - (intOf vi).toNat)
  case atStart => exact ⟨0, Nat.zero_le _, rfl, rfl, T1⟩
  case round =>
    obtain ⟨i, hi, rfl, rfl, hb⟩ := hrel
    by_cases hlt : i < sts.length
    · obtain ⟨st, hst⟩ : ∃ st, sts[i]? = some st := ⟨_, List.getElem?_eq_getElem hlt⟩
      have h1 : (i : Int) < (sts.length : Int) := by omega
      have h2 : (0 : Int) ≤ (i : Int) := Int.natCast_nonneg _
      have h3 : (i : Int) < 1000000 := by omega
      have htk : aliveL (sts.take (i + 1)) = aliveL (sts.take i) ++ [!st.dead] := by
        rw [List.take_succ_eq_append_getElem hlt, (List.getElem?_eq_some_iff.1 hst).2]; simp [aliveL]
      have hc := cnt_snoc (aliveL (sts.take i)) (!st.dead)
      rw [← htk] at hc
      have hcl := cnt_le (aliveL (sts.take i))
      have hcl2 : (aliveL (sts.take i)).length ≤ i := by simp [aliveL]; omega
      have hw : ∀ k : Nat, k ≤ 1 → IntKind.i64.wrap ((cnt (aliveL (sts.take i)) : Int) + (k : Int)) = (cnt (aliveL (sts.take i)) : Int) + (k : Int) := fun k hk => by rw [IntKind.wrap_i64]; omega
      have hc1 := cnt_le [!st.dead]
      have hw := hw (cnt [!st.dead]) hc1
      have hc2 : cnt (aliveL (sts.take (i + 1))) = cnt (aliveL (sts.take i)) + cnt [!st.dead] := by rw [hc]; cases st.dead <;> rfl
      have HC := Lib.hid hc2
      clear hc htk hcl hcl2 hc1 hc2
      go_wp2_with fail
      refine (adead_in (Lib.hid (h.out.below hb.out)) i hst).mono ?_
      rintro e w2 ⟨rfl, t2⟩
      have T2 := Lib.hid (below_then t2 hb.out)
      have B2 := BoxAt.new w2 #[.bool (!st.dead)] 4
      have R2 := Lib.hid (BoxAt.bools (xs := [!st.dead]) (S := fun _ => True) (by simpa using B2) trivial)
      clear t2 B2
      go_wp2_with fail
      refine (counted_any (m := 1) (c := 1) R2 (by omega)).mono ?_
      rintro e w3 ⟨rfl, t3⟩
      have T3 := Lib.hid (below_then t3 (T2.out.alloc T2.out.size _))
      clear t3
      go_wp2_with fail
      refine ⟨⟨i + 1, by omega, ?_, by go_num, T3⟩, by simp [intOf]; omega⟩
      rw [HC.out]; rfl
    · obtain rfl : i = sts.length := by omega
      have h1 : ¬ (sts.length : Int) < (sts.length : Int) := by omega
      have hx : sts.take sts.length = sts := List.take_length
      go_wp2_with fail
      go_ret
      exact ⟨rfl, hb.out⟩
end
end Go.Proofs.Ytolmpopjonkfgaa

set_option linter.unusedSimpArgs false
set_option linter.unusedVariables false
namespace Go.Proofs.Ytolmpopjonkfgaa
open Go.RowKit Go.Cib
attribute [local go_sem] cell_set Later.cell Later.frozen Grw.cell Grw.frozen

theorem makeBoolsL (k : Nat) (hk : k ≤ 600) (w : World) : (Instr.makeSlice 23 (.int .i64 (k : Int)) (.int .i64 (k : Int))).run Try.prog w = .ok (.slice (some ⟨w.heap.size, 0, none⟩) k k) (w.alloc (.cells ((List.replicate k false).map Value.bool).toArray 4)) := by
  rw [List.map_replicate, List.toArray_replicate]
  exact makeBools k hk w
theorem mapIdx_const (g : DSt → DSt) (sts : List DSt) : sts.mapIdx (fun _ => g) = sts.map g := by
  apply List.ext_getElem?
  intro j
  rw [List.getElem?_mapIdx, List.getElem?_map]
def okTo (r : DSt → Int) (i : Nat) (sts : List DSt) : List Bool := sts.mapIdx (fun j st => if j < i then r st == 0 else false)
theorem okTo_get (r : DSt → Int) (i : Nat) (sts : List DSt) (j : Nat) : (okTo r i sts)[j]? = (sts[j]?).map (fun st => if j < i then r st == 0 else false) := by simp [okTo]
theorem okTo_len (r : DSt → Int) (i : Nat) (sts : List DSt) : (okTo r i sts).length = sts.length := by simp [okTo]
theorem okTo_zero (r : DSt → Int) (sts : List DSt) : okTo r 0 sts = List.replicate sts.length false := by
  apply List.ext_getElem?
  intro j
  rw [okTo_get, List.getElem?_replicate]
  by_cases h : j < sts.length
  · rw [List.getElem?_eq_getElem h]; simp [h]
  · rw [List.getElem?_eq_none (by omega)]; simp [h]
theorem okTo_succ (r : DSt → Int) (i : Nat) (sts : List DSt) {st : DSt} (h : sts[i]? = some st) : (okTo r i sts).set i (r st == 0) = okTo r (i + 1) sts := by
  apply List.ext_getElem?
  intro j
  rw [okTo_get]
  by_cases hj : i = j
  · subst hj
    rw [List.getElem?_set_self (by rw [okTo_len]; exact (List.getElem?_eq_some_iff.1 h).1), h]; simp
  · rw [List.getElem?_set_ne hj, okTo_get]
    cases sts[j]? with
    | none => rfl
    | some y =>
      simp only [Option.map_some, Option.some.injEq]
      by_cases h1 : j < i
      · rw [if_pos h1, if_pos (by omega)]
      · rw [if_neg h1, if_neg (by omega)]
theorem okTo_all (r : DSt → Int) (sts : List DSt) : okTo r sts.length sts = sts.map (fun st => r st == 0) := by
  apply List.ext_getElem?
  intro j
  rw [okTo_get, List.getElem?_map]
  cases h : sts[j]? with
  | none => rfl
  | some y =>
    have := (List.getElem?_eq_some_iff.1 h).1
    simp [this]

section
variable {U : Nat → Prop} {w : World} {a s : Nat} {v : Value} {Fs : Nat → Nat → Prop} {ps : List Nat} {sts : List DSt}
def EachE (U : Nat → Prop) (w : World) (a : Nat) (v : Value) (ps : List Nat) (s : Nat) (sts : List DSt) (g : DSt → DSt) (r : DSt → Int) (e : Ending) (w' : World) : Prop := ∃ ob U' Fs', e = .returned (.slice (some ⟨ob, 0, none⟩) sts.length sts.length) ∧ BoxAt w' ob ((sts.map (fun st => r st == 0)).map Value.bool).toArray ∧ w.heap.size ≤ ob ∧ ¬ U' ob ∧ ArrB U' w' a v Fs' ps s (sts.map g) ∧ (∀ k, U' k → k < w.heap.size → U k) ∧ Keep U w w'
set_option maxRecDepth 100000 in
set_option maxHeartbeats 4000000 in
theorem aeach_any (h : Hid (ArrB U w a v Fs ps s sts)) (hk : 0 < sts.length) (hk2 : sts.length ≤ 600) (f : FuncId) (g : DSt → DSt) (r : DSt → Int)
    (hc : ∀ (i : Nat) (st : DSt), sts[i]? = some st → ∀ (F : Nat → Prop) (p : Nat) (w' : World), Hid (DrvAt F w' p s st) → Calls Try.prog f #[.pointer (some ⟨p, 0, none⟩)] w' fun e w'' => e = .returned (.int .i64 (r st)) ∧ Upd F w' w'' p s (g st)) (hcf : ∀ args w, (callFunc f args).run Try.prog w = .ok (.enter f args) w) :
    Calls Try.prog 76 #[.pointer (some ⟨a, 0, none⟩), .func (.func f) #[] #[]] w fun e w' => EachE U w a v ps s sts g r e w' := by
  have HC := Lib.hid hc
  clear hc
  go_enter Try.func76, Try.ntmps76
  go_wp2_with fail
  refine (an_any h hk).mono ?_
  rintro e w1 ⟨rfl, t1⟩
  have hmk := makeBoolsL sts.length hk2 w1
  have b1 := BoxAt.new w1 ((List.replicate sts.length false).map Value.bool).toArray 4
  have a1 : Below w1.heap.size w1 (w1.alloc (.cells ((List.replicate sts.length false).map Value.bool).toArray 4)) := (Below.refl _ _).alloc (Nat.le_refl _) _
  obtain ⟨w2, hw2⟩ : ∃ w2, w1.alloc (.cells ((List.replicate sts.length false).map Value.bool).toArray 4) = w2 := ⟨_, rfl⟩
  obtain ⟨ob, hob⟩ : ∃ ob, w1.heap.size = ob := ⟨_, rfl⟩
  rw [hw2] at hmk b1 a1
  have a12 := below_then a1 t1
  have HA := Lib.hid ((h.out.below t1).below a1)
  have HK := Lib.hid (Keep.of_below (F := U) a12)
  have hob1 : w.heap.size ≤ ob := by rw [← hob]; exact t1.size
  have hnU : ¬ U ob := fun hu => by have := h.out.lt ob hu; omega
  rw [hob] at hmk b1
  have HB : Hid (BoxAt w2 ob ((okTo r 0 sts).map Value.bool).toArray) := Lib.hid (by rw [okTo_zero]; exact b1)
  have HA0 : Hid (ArrB U w2 a v Fs ps s (stepTo (fun _ => g) 0 sts)) := Lib.hid (by rw [stepTo_zero]; exact HA.out)
  have hlob : ob < w2.heap.size := b1.lt
  clear b1 a1 a12 t1 hw2 HA hob
  go_wp2_with fail
  clear hmk
  go_loopw [12] (fun vi wr => ∃ (i : Nat) (U' : Nat → Prop) (Fs' : Nat → Nat → Prop), i ≤ sts.length ∧ vi = .int .i64 i ∧ Hid (BoxAt wr ob ((okTo r i sts).map Value.bool).toArray) ∧ ¬ U' ob ∧ Hid (ArrB U' wr a v Fs' ps s (stepTo (fun _ => g) i sts)) ∧ Hid (∀ k, U' k → k < w.heap.size → U k) ∧ Hid (Keep U w wr)) (fun vi _ => sts.length - (intOf vi).toNat)
  case atStart => exact ⟨0, U, Fs, Nat.zero_le _, rfl, HB, hnU, HA0, Lib.hid (fun _ h _ => h), HK⟩
  case round =>
    clear HB HA0 HK hnU hlob
    obtain ⟨wo, rfl⟩ : ∃ wo, wo = wr := ⟨_, rfl⟩
    obtain ⟨i, U', Fs', hi, rfl, B, hn, A, hU, K⟩ := hrel
    by_cases hlt : i < sts.length
    · obtain ⟨st, hst⟩ : ∃ st, sts[i]? = some st := ⟨_, List.getElem?_eq_getElem hlt⟩
      obtain ⟨AA, cc, hv, c0, hcl⟩ := arr_cells A.out
      rw [stepTo_len] at c0 hcl
      obtain ⟨gb, p, st', rfl, hp, hst', cg, hD⟩ := hcl i hlt
      obtain rfl : st' = st := by rw [stepTo_at _ _ _ hst] at hst'; injection hst' with e; exact e.symm
      have h1 : (i : Int) < (sts.length : Int) := by omega
      have h2 : (0 : Int) ≤ (i : Int) := Int.natCast_nonneg _
      have h3 : (i : Int) < 600 := by omega
      have HD := Lib.hid hD
      have HP := Lib.hid hp
      have HST := Lib.hid hst
      clear hcl hD hst' hp hst hv
      go_wp2_with fail
      refine (HC.out i st' HST.out _ p wo HD).mono ?_
      rintro e w3 ⟨rfl, u3⟩
      obtain ⟨U2, Fs2, A2, hU2, K2⟩ := A.out.upd1 HP.out u3
      rw [stepTo_succ _ _ _ HST.out] at A2
      have B2 := B.out.keeps K2 hn
      have z2 := B2.frozen i
      have q2 : ∃ q, w3.cell? ⟨ob, i, none⟩ = some q := by
        rw [B2.cell]
        exact ⟨_, Array.getElem?_eq_getElem (by simp [okTo_len]; exact hlt)⟩
      obtain ⟨q, q2⟩ := q2
      have hlo : ob < wo.heap.size := B.out.lt
      have hn2 : ¬ U2 ob := fun hu => hn (hU2 ob hu hlo)
      have B3 := Lib.hid (B2.set i (.bool (r st' == 0)))
      have A3 := Lib.hid (A2.keep ((Keep.refl (fun k => k = ob) w3).setCell (p := ⟨ob, i, none⟩) (fun _ => rfl) (.bool (r st' == 0))) (fun k hu e => hn2 (e ▸ hu)))
      have K3 := Lib.hid ((K.out.trans (G := U') K2 (fun k hu hlt => hU.out k hu hlt)).setCell (p := ⟨ob, i, none⟩) (fun hlt => by simp only at hlt; omega) (.bool (r st' == 0)))
      have hsz := K.out.size
      have hU3 := Lib.hid (fun k hu (hlt : k < w.heap.size) => hU.out k (hU2 k hu (by omega)) hlt)
      have hB : (((okTo r i sts).map Value.bool).toArray).setIfInBounds i (.bool (r st' == 0)) = ((okTo r (i + 1) sts).map Value.bool).toArray := by
        rw [← okTo_succ r i sts HST.out, List.map_set]; simp
      rw [hB] at B3
      clear c0 cg u3 A2 hU2 K2 B2 hB hsz
      go_wp2_with fail
      exact ⟨⟨i + 1, U2, Fs2, by omega, by go_num, B3, hn2, A3, hU3, K3⟩, by simp [intOf]; omega⟩
    · obtain rfl : i = sts.length := by omega
      have h1 : ¬ (sts.length : Int) < (sts.length : Int) := by omega
      go_wp2_with fail
      go_ret
      rw [okTo_all] at B
      rw [stepTo_all] at A
      refine ⟨ob, U', Fs', rfl, B.out, hob1, hn, ?_, hU.out, K.out⟩
      have := A.out
      rwa [mapIdx_const] at this
def flushG (st : DSt) : DSt := if st.dead = false then st.settle (fun _ => true) else st
theorem flush_exact {F : Nat → Prop} {w : World} {p n : Nat} {st : DSt} (h : Hid (DrvAt F w p n st)) (hcl : st.cache.length < 1000000) :
    Calls Try.prog 15 #[.pointer (some ⟨p, 0, none⟩)] w fun e w' => e = .returned (.int .i64 (if st.dead then 90 else 0)) ∧ Upd F w w' p n (flushG st) := by
  unfold flushG
  cases hd : st.dead with
  | false =>
    refine (flush_good h hd hcl).mono ?_
    rintro e w' ⟨rfl, hu⟩
    exact ⟨rfl, hu⟩
  | true =>
    refine (flush_dead h hd).mono ?_
    rintro e w' ⟨rfl, hu⟩
    exact ⟨rfl, h.out.upd hu⟩
set_option maxRecDepth 100000 in
theorem aflush_any {sts : List DSt} (h : Hid (ArrAt U w a s sts)) (hk : 0 < sts.length) (hk2 : sts.length ≤ 600) (hcl : Hid (∀ st ∈ sts, st.cache.length < 1000000)) :
    Calls Try.prog 35 #[.pointer (some ⟨a, 0, none⟩)] w fun e w' => e = .returned (.int .i64 (cnt (aliveL sts))) ∧ AUpd U w w' a s (sts.map flushG) := by
  obtain ⟨v, Fs, ps, hB⟩ := h.out
  have HB := Lib.hid hB
  clear hB
  go_enter Try.func35, Try.ntmps35
  go_wp2_with fail
  refine (aeach_any HB hk hk2 _ flushG (fun st => if st.dead then 90 else 0) (fun i st hst F p w' hD => flush_exact hD (hcl.out st (List.mem_of_getElem? hst))) call_flush).mono ?_
  rintro e w1 ⟨ob, U', Fs', rfl, hbx, hob, hn, hA, hU, hK⟩
  have hal : sts.map (fun st => (if st.dead then (90 : Int) else 0) == 0) = aliveL sts := by
    unfold aliveL
    refine List.map_congr_left (fun st _ => ?_)
    cases st.dead <;> rfl
  rw [hal] at hbx
  have hln : (aliveL sts).length = sts.length := by simp [aliveL]
  have R := BoxAt.bools hbx (S := fun b => b = ob) rfl
  rw [hln] at R
  have HR := Lib.hid R
  have HA := Lib.hid hA
  have HU := Lib.hid hU
  have HK := Lib.hid hK
  clear hal hbx hln R hA hU hK
  go_wp2_with fail
  refine (counted_any HR (by omega)).mono ?_
  rintro e w2 ⟨rfl, t2⟩
  go_wp2_with fail
  go_ret
  exact ⟨rfl, U', ⟨v, Fs', ps, HA.out.below t2⟩, HU.out, HK.out.trans (G := fun _ => False) (Keep.of_below t2) (fun _ h => h.elim)⟩
end
end Go.Proofs.Ytolmpopjonkfgaa

set_option linter.unusedSimpArgs false
set_option linter.unusedVariables false
namespace Go.Proofs.Ytolmpopjonkfgaa
open Go.RowKit Go.Cib
attribute [local go_sem] cell_set Later.cell Later.frozen Grw.cell Grw.frozen
attribute [local go_sem ↓] run_min_as run_max_as

/-- Bytes, or bools, as they lie in a row. -/
def BytesR (S : Nat → Prop) (w : World) (cs : List Value) (x : List Int) : Prop := ∃ A m c, cs = [.slice A m c] ∧ RdL U8R 1 S w A m x
theorem BytesR.stable : Stable BytesR := by
  rintro S S' w w' cs e ⟨A, m, c, rfl, h⟩ hk
  exact ⟨A, m, c, rfl, h.stable U8R.stable hk⟩
theorem BytesR.one : ∀ S w cs x, BytesR S w cs x → ∀ u ∈ cs, u.oneCell' = true := by
  rintro S w cs x ⟨A, m, c, rfl, _⟩ u hu
  simp at hu
  subst hu; rfl
def BoolsR (S : Nat → Prop) (w : World) (cs : List Value) (x : List Bool) : Prop := ∃ A m c, cs = [.slice A m c] ∧ RdL BoolR 1 S w A m x
theorem BoolsR.stable : Stable BoolsR := by
  rintro S S' w w' cs e ⟨A, m, c, rfl, h⟩ hk
  exact ⟨A, m, c, rfl, h.stable BoolR.stable hk⟩
theorem BoolsR.one : ∀ S w cs x, BoolsR S w cs x → ∀ u ∈ cs, u.oneCell' = true := by
  rintro S w cs x ⟨A, m, c, rfl, _⟩ u hu
  simp at hu
  subst hu; rfl
theorem bytes_at {S : Nat → Prop} {w : World} {A : Option Addr} {m : Nat} {xs : List (List Int)} (h : RdL BytesR 1 S w A m xs) {i : Nat} (hi : i < m) : ∃ b o x A' m' c', A = some ⟨b, o, none⟩ ∧ xs[i]? = some x ∧ b < w.heap.size ∧ S b ∧ w.cell? ⟨b, o + i, none⟩ = some (.slice A' m' c') ∧ RdL U8R 1 S w A' m' x := by
  obtain ⟨b, o, rfl, hS, hlt⟩ := h.addr hi
  obtain ⟨hl, cs, h1, h2, h3⟩ := h.at hi
  obtain ⟨A', m', c', rfl, hr⟩ := h2
  refine ⟨b, o, xs[i], A', m', c', rfl, by simp [hl], hlt, hS, ?_, hr⟩
  simpa using h3 0 _ rfl
theorem bools_at {S : Nat → Prop} {w : World} {A : Option Addr} {m : Nat} {xs : List (List Bool)} (h : RdL BoolsR 1 S w A m xs) {i : Nat} (hi : i < m) : ∃ b o x A' m' c', A = some ⟨b, o, none⟩ ∧ xs[i]? = some x ∧ w.cell? ⟨b, o + i, none⟩ = some (.slice A' m' c') ∧ RdL BoolR 1 S w A' m' x := by
  obtain ⟨b, o, rfl, _, hlt⟩ := h.addr hi
  obtain ⟨hl, cs, h1, h2, h3⟩ := h.at hi
  obtain ⟨A', m', c', rfl, hr⟩ := h2
  refine ⟨b, o, xs[i], A', m', c', rfl, by simp [hl], ?_, hr⟩
  simpa using h3 0 _ rfl
def kAt (ks : List (List Bool)) (d : Nat) : List Bool := ks.getD d []
def KeptE (S : Nat → Prop) (w : World) (x : List Bool) (e : Ending) (w' : World) : Prop := ∃ A' m' c', e = .returned (.slice A' m' c') ∧ RdL BoolR 1 S w' A' m' x ∧ Below w.heap.size w w'
set_option maxRecDepth 100000 in
theorem kept_any {S : Nat → Prop} {w : World} {A : Option Addr} {m c : Nat} {ks : List (List Bool)} (R : Hid (RdL BoolsR 1 S w A m ks)) (d : Nat) :
    Calls Try.prog 75 #[.slice A m c, .int .i64 d] w fun e w' => KeptE S w (kAt ks d) e w' := by
  have hl := R.out.1
  by_cases hd : d < m
  · obtain ⟨b, o, x, A', m', c', rfl, hx, y0, hr⟩ := bools_at R.out hd
    have h1 : (d : Int) < (m : Int) := by omega
    have h2 : (0 : Int) ≤ (d : Int) := Int.natCast_nonneg _
    have hx2 : kAt ks d = x := by simp [kAt, List.getD, hx]
    have HR := Lib.hid hr
    have HX := Lib.hid hx2
    clear hr hx hx2 hl
    go_enter Try.func75, Try.ntmps75
    go_wp2_with fail
    go_ret
    rw [HX.out]
    exact ⟨A', m', c', rfl, HR.out, Below.refl _ _⟩
  · have h1 : ¬ (d : Int) < (m : Int) := by omega
    have hx2 : kAt ks d = [] := by simp [kAt, List.getD, List.getElem?_eq_none (show ks.length ≤ d by omega)]
    have HX := Lib.hid hx2
    clear hx2 hl
    go_enter Try.func75, Try.ntmps75
    go_wp2_with fail
    go_ret
    rw [HX.out]
    exact ⟨none, 0, 0, rfl, RdL.nil, Below.refl _ _⟩
section
variable {U : Nat → Prop} {w : World} {a s : Nat} {v : Value} {Fs : Nat → Nat → Prop} {ps : List Nat} {sts : List DSt}
theorem arr_c0 {A : Option Addr} {k c : Nat} (h : ArrB U w a (.slice A k c) Fs ps s sts) : w.cell? ⟨a, 0, none⟩ = some (.slice A k c) := h.box.cell 0
theorem arr_cg {g k c : Nat} (h : ArrB U w a (.slice (some ⟨g, 0, none⟩) k c) Fs ps s sts) {i p : Nat} (hp : ps[i]? = some p) : w.cell? ⟨g, i, none⟩ = some (.pointer (some ⟨p, 0, none⟩)) := by
  have hi : i < sts.length := by rw [h.len]; exact (List.getElem?_eq_some_iff.1 hp).1
  obtain ⟨A, c', hv, _, hc⟩ := arr_cells h
  obtain ⟨g', p', st, hA, hp', _, hcell, _⟩ := hc i hi
  subst hA
  simp only [Value.slice.injEq, Option.some.injEq, Addr.mk.injEq, and_true] at hv
  rw [hp] at hp'
  injection hp' with hp'
  rw [hv.1, hp']; exact hcell
theorem arr_form (h : ArrB U w a v Fs ps s sts) (hk : 0 < sts.length) : ∃ g c, v = .slice (some ⟨g, 0, none⟩) sts.length c := by
  obtain ⟨A, c, hv, _, hc⟩ := arr_cells h
  obtain ⟨g, _, _, hA, _⟩ := hc 0 hk
  exact ⟨g, c, by rw [hv, hA]⟩
def crashG (ks : List (List Bool)) (d : Nat) (st : DSt) : DSt := st.settle (keepOf (kAt ks d))
set_option maxRecDepth 100000 in
set_option maxHeartbeats 4000000 in
theorem acrash_any {sts : List DSt} (h : Hid (ArrAt U w a s sts)) (hk : 0 < sts.length) (hk2 : sts.length ≤ 600) (hcl : Hid (∀ st ∈ sts, st.cache.length < 1000000)) {S : Nat → Prop} {A : Option Addr} {m c : Nat} {ks : List (List Bool)} (R : Hid (RdL BoolsR 1 S w A m ks)) (hS : ∀ b, S b → ¬ U b ∧ b < w.heap.size) :
    Calls Try.prog 34 #[.pointer (some ⟨a, 0, none⟩), .slice A m c] w fun e w' => e = .returned (.tuple #[]) ∧ AUpd U w w' a s (sts.mapIdx (crashG ks)) := by
  obtain ⟨v, Fs, ps, hB⟩ := h.out
  obtain ⟨gb, cc, rfl⟩ := arr_form hB hk
  have HB := Lib.hid hB
  have HS := Lib.hid hS
  clear hB hS
  go_enter Try.func34, Try.ntmps34
  go_wp2_with fail
  refine (an_any HB hk).mono ?_
  rintro e w1 ⟨rfl, t1⟩
  have HA0 : Hid (ArrB U w1 a (.slice (some ⟨gb, 0, none⟩) sts.length cc) Fs ps s (stepTo (crashG ks) 0 sts)) := Lib.hid (by rw [stepTo_zero]; exact HB.out.below t1)
  have HK := Lib.hid (Keep.of_below (F := U) t1)
  clear t1
  go_wp2_with fail
  go_loopw [7] (fun vi wr => ∃ (i : Nat) (U' : Nat → Prop) (Fs' : Nat → Nat → Prop), i ≤ sts.length ∧ vi = .int .i64 i ∧ Hid (ArrB U' wr a (.slice (some ⟨gb, 0, none⟩) sts.length cc) Fs' ps s (stepTo (crashG ks) i sts)) ∧ Hid (∀ k, U' k → k < w.heap.size → U k) ∧ Hid (Keep U w wr)) (fun vi _ => sts.length - (intOf vi).toNat)
  case atStart => exact ⟨0, U, Fs, Nat.zero_le _, rfl, HA0, Lib.hid (fun _ h _ => h), HK⟩
  case round =>
    clear HA0 HK
    obtain ⟨wo, rfl⟩ : ∃ wo, wo = wr := ⟨_, rfl⟩
    obtain ⟨i, U', Fs', hi, rfl, A, hU, K⟩ := hrel
    by_cases hlt : i < sts.length
    · obtain ⟨st, hst⟩ : ∃ st, sts[i]? = some st := ⟨_, List.getElem?_eq_getElem hlt⟩
      obtain ⟨p, hp, hD, _⟩ := A.out.p_at (stepTo_at (crashG ks) i sts hst)
      have hcs : st.cache.length < 1000000 := hcl.out st (List.mem_of_getElem? hst)
      have h1 : (i : Int) < (sts.length : Int) := by omega
      have h2 : (0 : Int) ≤ (i : Int) := Int.natCast_nonneg _
      have h3 : (i : Int) < 600 := by omega
      have HD := Lib.hid hD
      have HP := Lib.hid hp
      have HST := Lib.hid hst
      have RK := Lib.hid (R.out.keep BoolsR.stable K.out (fun b hb => (HS.out b hb).1))
      have c0 := arr_c0 A.out
      have cg := arr_cg A.out hp
      clear hD hst hp
      go_wp2_with fail
      refine wp_region_held_drew (S := fun w' => w'.cell? ⟨a, 0, none⟩ = some (.slice (some ⟨gb, 0, none⟩) sts.length cc) ∧ w'.cell? ⟨gb, i, none⟩ = some (.pointer (some ⟨p, 0, none⟩))) (by kernel_rfl) (by first | exact ⟨c0, cg⟩ | exact ⟨c0', cg'⟩ | exact ⟨c0'', cg''⟩) (fun hHeld => ?_)
      refine wpAnyH_take (i := 0) (v := ?_) rfl (by kernel_rfl) (by kernel_rfl) (by kernel_rfl) (fun _ _ _ h => h) (Or.inl ⟨by rfl, ?_⟩) (by assumption) ?_
      rotate_left
      · (intro wq hSw; (try dsimp only at hSw); (try simp only [List.getElem_toArray, List.getElem_cons_succ, List.getElem_cons_zero]); go_simp); try with_reducible rfl
      try simp only [List.getElem_toArray, List.getElem_cons_succ, List.getElem_cons_zero, Act.put, List.setIfInBounds_toArray, List.set_cons_zero, List.set_cons_succ]
      refine wpAnyH_take (i := 1) (v := ?_) rfl (by kernel_rfl) (by kernel_rfl) (by kernel_rfl) (fun _ _ _ h => h) (Or.inl ⟨by rfl, ?_⟩) (by assumption) ?_
      rotate_left
      · (intro wq hSw; (try dsimp only at hSw); (try simp only [List.getElem_toArray, List.getElem_cons_succ, List.getElem_cons_zero]); go_simp); try with_reducible rfl
      try simp only [List.getElem_toArray, List.getElem_cons_succ, List.getElem_cons_zero, Act.put, List.setIfInBounds_toArray, List.set_cons_zero, List.set_cons_succ]
      refine wpAnyH_take (i := 2) (v := ?_) rfl (by kernel_rfl) (by kernel_rfl) (by kernel_rfl) (fun _ _ _ h => h) (Or.inl ⟨by rfl, ?_⟩) (by assumption) ?_
      rotate_left
      · (intro wq hSw; (try dsimp only at hSw); (try simp only [List.getElem_toArray, List.getElem_cons_succ, List.getElem_cons_zero]); go_simp); try with_reducible rfl
      try simp only [List.getElem_toArray, List.getElem_cons_succ, List.getElem_cons_zero, Act.put, List.setIfInBounds_toArray, List.set_cons_zero, List.set_cons_succ]
      refine wpAnyH_take (i := 3) (v := ?_) rfl (by kernel_rfl) (by kernel_rfl) (by kernel_rfl) (fun _ _ _ h => h) (Or.inl ⟨by rfl, ?_⟩) (by assumption) ?_
      rotate_left
      · (intro wq hSw; (try dsimp only at hSw); (try simp only [List.getElem_toArray, List.getElem_cons_succ, List.getElem_cons_zero]); go_simp); try with_reducible rfl
      try simp only [List.getElem_toArray, List.getElem_cons_succ, List.getElem_cons_zero, Act.put, List.setIfInBounds_toArray, List.set_cons_zero, List.set_cons_succ]
      refine wpAnyH_take (i := 4) (v := ?_) rfl (by kernel_rfl) (by kernel_rfl) (by kernel_rfl) (fun _ _ _ h => h) (Or.inl ⟨by rfl, ?_⟩) (by assumption) ?_
      rotate_left
      · (intro wq hSw; (try dsimp only at hSw); (try simp only [List.getElem_toArray, List.getElem_cons_succ, List.getElem_cons_zero]); go_simp); try with_reducible rfl
      try simp only [List.getElem_toArray, List.getElem_cons_succ, List.getElem_cons_zero, Act.put, List.setIfInBounds_toArray, List.set_cons_zero, List.set_cons_succ]
      refine wpAnyH_take (i := 5) (v := ?_) rfl (by kernel_rfl) (by kernel_rfl) (by kernel_rfl) (fun _ _ _ h => h) (Or.inl ⟨by rfl, ?_⟩) (by assumption) ?_
      rotate_left
      · (intro wq hSw; (try dsimp only at hSw); (try simp only [List.getElem_toArray, List.getElem_cons_succ, List.getElem_cons_zero]); go_simp); try with_reducible rfl
      try simp only [List.getElem_toArray, List.getElem_cons_succ, List.getElem_cons_zero, Act.put, List.setIfInBounds_toArray, List.set_cons_zero, List.set_cons_succ]
      refine wpAnyH_take (i := 6) (v := ?_) rfl (by kernel_rfl) (by kernel_rfl) (by kernel_rfl) (fun _ _ _ h => h) (Or.inl ⟨by rfl, ?_⟩) (by assumption) ?_
      rotate_left
      · (intro wq hSw; (try dsimp only at hSw); (try simp only [List.getElem_toArray, List.getElem_cons_succ, List.getElem_cons_zero]); go_simp); try with_reducible rfl
      try simp only [List.getElem_toArray, List.getElem_cons_succ, List.getElem_cons_zero, Act.put, List.setIfInBounds_toArray, List.set_cons_zero, List.set_cons_succ]
      refine wpAnyH_take (i := 7) (v := ?_) rfl (by kernel_rfl) (by kernel_rfl) (by kernel_rfl) (fun _ _ _ h => h) (Or.inl ⟨by rfl, ?_⟩) (by assumption) ?_
      rotate_left
      · (intro wq hSw; (try dsimp only at hSw); (try simp only [List.getElem_toArray, List.getElem_cons_succ, List.getElem_cons_zero]); go_simp); try with_reducible rfl
      try simp only [List.getElem_toArray, List.getElem_cons_succ, List.getElem_cons_zero, Act.put, List.setIfInBounds_toArray, List.set_cons_zero, List.set_cons_succ]
      refine wpAnyH_take (i := 8) (v := ?_) rfl (by kernel_rfl) (by kernel_rfl) (by kernel_rfl) (fun _ _ _ h => h) (Or.inl ⟨by rfl, ?_⟩) (by assumption) ?_
      rotate_left
      · (intro wq hSw; (try dsimp only at hSw); (try simp only [List.getElem_toArray, List.getElem_cons_succ, List.getElem_cons_zero]); go_simp); try with_reducible rfl
      try simp only [List.getElem_toArray, List.getElem_cons_succ, List.getElem_cons_zero, Act.put, List.setIfInBounds_toArray, List.set_cons_zero, List.set_cons_succ]
      refine wpAnyH_ready (rs := [9]) (by kernel_rfl) (by simp) ?_
      refine AllReadyH.cons rfl (fun K hK => ?_) AllReadyH.nil
      try simp only [List.getElem_toArray, List.getElem_cons_succ, List.getElem_cons_zero]
      go_simp
      refine (kept_any (Lib.hid (RK.out.below BoolsR.stable (Below.refl _ _).drew)) i).mono ?_
      rintro e w3 ⟨A3, m3, c3, rfl, r3, t3⟩
      have T3 : Below wo.heap.size wo w3 := below_then t3 (Below.refl _ _).drew
      have A3' := A.out.below T3
      have c0' := arr_c0 A3'
      have cg' := arr_cg A3' HP.out
      clear c0 cg
      try (go_wp2_with fail)
      refine hK.out _ _ (by first | exact ⟨c0, cg⟩ | exact ⟨c0', cg'⟩ | exact ⟨c0'', cg''⟩) (fun hHeld => ?_)
      clear hK K
      try simp only [List.getElem_toArray, List.getElem_cons_succ, List.getElem_cons_zero, Act.put, List.setIfInBounds_toArray, List.set_cons_zero, List.set_cons_succ]
      refine wpAnyH_ready (rs := [10]) (by kernel_rfl) (by simp) ?_
      refine AllReadyH.cons rfl (fun K hK => ?_) AllReadyH.nil
      try simp only [List.getElem_toArray, List.getElem_cons_succ, List.getElem_cons_zero]
      go_simp
      refine (crash_any (Lib.hid (HD.out.below T3)) hcs (Lib.hid r3) (fun b hb hf => (HS.out b hb).1 (hU.out b (A.out.uf i b hf) (HS.out b hb).2))).mono ?_
      rintro e w4 ⟨rfl, u4⟩
      obtain ⟨U2, Fs2, A2, hU2, K2⟩ := A3'.upd1 HP.out u4
      have c0'' := arr_c0 A2
      have cg'' := arr_cg A2 HP.out
      clear c0' cg'
      try (go_wp2_with fail)
      refine hK.out _ _ (by first | exact ⟨c0, cg⟩ | exact ⟨c0', cg'⟩ | exact ⟨c0'', cg''⟩) (fun hHeld => ?_)
      clear hK K
      try simp only [List.getElem_toArray, List.getElem_cons_succ, List.getElem_cons_zero, Act.put, List.setIfInBounds_toArray, List.set_cons_zero, List.set_cons_succ]
      refine wpAnyH_done (by kernel_rfl) ?_ _
      go_wp2_with fail
      have hsz := K.out.size
      rw [show st.settle (keepOf (kAt ks i)) = crashG ks i st from rfl, stepTo_succ _ _ _ HST.out] at A2
      exact ⟨⟨i + 1, U2, Fs2, by omega, by go_num, Lib.hid A2, Lib.hid (fun k hu hlt => hU.out k (hU2 k hu (by have := T3.size; omega)) hlt), Lib.hid ((K.out.trans (G := fun _ => False) (Keep.of_below T3) (fun _ h => h.elim)).trans (G := U') K2 (fun k hu hlt => hU.out k hu hlt))⟩, by simp [intOf]; omega⟩
    · obtain rfl : i = sts.length := by omega
      have h1 : ¬ (sts.length : Int) < (sts.length : Int) := by omega
      go_wp2_with fail
      go_end0
      rw [stepTo_all] at A
      exact ⟨rfl, U', ⟨_, Fs', ps, A.out⟩, hU.out, K.out⟩

/-- A row that is put: what each drive takes, and does it? -/
def rAt (rows : List (List Int)) (d : Nat) : List Int := rows.getD d []
def putG (s : Nat) (z : Int) (rows : List (List Int)) (d : Nat) (st : DSt) : DSt := if 0 < (rAt rows d).length then wrDA s st z (rAt rows d) else st
def putOk (s : Nat) (z : Int) (rows : List (List Int)) (d : Nat) (st : DSt) : Bool := decide (0 < (rAt rows d).length) && (writeE st.dead s z (rAt rows d).length == 0)
def PutE (U : Nat → Prop) (w : World) (a s : Nat) (z : Int) (rows : List (List Int)) (sts : List DSt) (e : Ending) (w' : World) : Prop := e = .returned (.int .i64 (cnt (sts.mapIdx (putOk s z rows)))) ∧ AUpd U w w' a s (sts.mapIdx (putG s z rows))
theorem take_mapIdx_succ (f : Nat → DSt → Bool) (i : Nat) (sts : List DSt) {st : DSt} (h : sts[i]? = some st) : (sts.mapIdx f).take (i + 1) = (sts.mapIdx f).take i ++ [f i st] := by
  have hl := (List.getElem?_eq_some_iff.1 h).1
  have h2 : (sts.mapIdx f)[i]? = some (f i st) := by rw [List.getElem?_mapIdx, h]; rfl
  rw [List.take_succ_eq_append_getElem (by simpa using hl), (List.getElem?_eq_some_iff.1 h2).2]
theorem cnt_rest (f : Nat → DSt → Bool) (q : Nat) : ∀ (sts : List DSt) , (∀ d st, q ≤ d → f d st = false) → cnt ((sts.mapIdx f).take q) = cnt (sts.mapIdx f) := by
  intro sts hf
  have h1 : sts.mapIdx f = (sts.mapIdx f).take q ++ (sts.mapIdx f).drop q := (List.take_append_drop _ _).symm
  have h2 : ∀ x ∈ (sts.mapIdx f).drop q, x = false := by
    intro x hx
    obtain ⟨j, hj, rfl⟩ := List.mem_iff_getElem.1 hx
    rw [List.getElem_drop, List.getElem_mapIdx]
    exact hf _ _ (by omega)
  have h3 : ((sts.mapIdx f).drop q).count true = 0 := List.count_eq_zero.2 (fun hm => by cases h2 _ hm)
  unfold cnt
  conv => rhs; rw [h1, List.count_append, h3]
  omega
theorem stepTo_rest (g : Nat → DSt → DSt) (q : Nat) (sts : List DSt) (hg : ∀ d st, q ≤ d → g d st = st) : stepTo g q sts = sts.mapIdx g := by
  apply List.ext_getElem?
  intro j
  rw [stepTo_get, List.getElem?_mapIdx]
  cases sts[j]? with
  | none => rfl
  | some y =>
    simp only [Option.map_some, Option.some.injEq]
    by_cases h : j < q
    · rw [if_pos h]
    · rw [if_neg h, hg j y (by omega)]
set_option maxRecDepth 100000 in
set_option maxHeartbeats 4000000 in
theorem aput_any {sts : List DSt} (h : Hid (ArrAt U w a s sts)) (hk : 0 < sts.length) (hk2 : sts.length ≤ 600) (hcl : Hid (∀ st ∈ sts, st.cache.length < 1000000)) (z : Int) {S : Nat → Prop} {A : Option Addr} {m c : Nat} {rows : List (List Int)} (R : Hid (RdL BytesR 1 S w A m rows)) (hS : ∀ b, S b → ¬ U b ∧ b < w.heap.size) :
    Calls Try.prog 32 #[.pointer (some ⟨a, 0, none⟩), .int .i64 z, .slice A m c] w fun e w' => PutE U w a s z rows sts e w' := by
  obtain ⟨v, Fs, ps, hB⟩ := h.out
  have HB := Lib.hid hB
  have HS := Lib.hid hS
  clear hB hS
  obtain ⟨q, hq⟩ : ∃ q : Nat, min (sts.length : Int) (m : Int) = q := ⟨min sts.length m, by omega⟩
  have hq1 : q ≤ sts.length := by omega
  have hq2 : q ≤ m := by omega
  have hq3 : q = sts.length ∨ q = m := by omega
  go_enter Try.func32, Try.ntmps32
  go_wp2_with fail
  refine (an_any HB hk).mono ?_
  rintro e w1 ⟨rfl, t1⟩
  have HA0 : Hid (ArrAt U w1 a s (stepTo (putG s z rows) 0 sts)) := Lib.hid (by rw [stepTo_zero]; exact h.out.below t1)
  have HK := Lib.hid (Keep.of_below (F := U) t1)
  clear t1
  go_wp2_with fail
  go_loopw [7, 14] (fun vn vi wr => ∃ (i : Nat) (U' : Nat → Prop), i ≤ q ∧ vn = .int .i64 (cnt ((sts.mapIdx (putOk s z rows)).take i)) ∧ vi = .int .i64 i ∧ Hid (ArrAt U' wr a s (stepTo (putG s z rows) i sts)) ∧ Hid (∀ k, U' k → k < w.heap.size → U k) ∧ Hid (Keep U w wr)) (fun _ vi _ => q - (intOf vi).toNat)
  case atStart => exact ⟨0, U, Nat.zero_le _, rfl, rfl, HA0, Lib.hid (fun _ h _ => h), HK⟩
  case round =>
    clear HA0 HK hq
    obtain ⟨wo, rfl⟩ : ∃ wo, wo = wr := ⟨_, rfl⟩
    obtain ⟨i, U', hi, rfl, rfl, A, hU, K⟩ := hrel
    by_cases hlt : i < q
    · obtain ⟨st, hst⟩ : ∃ st, sts[i]? = some st := ⟨_, List.getElem?_eq_getElem (by omega)⟩
      obtain ⟨b, o, x, A', m', c', rfl, hx, hbl, hSb, y0, hr⟩ := bytes_at (R.out.keep BytesR.stable K.out (fun b hb => (HS.out b hb).1)) (show i < m by omega)
      obtain rfl : x.length = m' := hr.1
      have hxr : rAt rows i = x := by simp [rAt, List.getD, hx]
      have hcs : st.cache.length < 1000000 := hcl.out st (List.mem_of_getElem? hst)
      have h1 : (i : Int) < (q : Int) := by omega
      have h2 : (0 : Int) ≤ (i : Int) := Int.natCast_nonneg _
      have h3 : (i : Int) < 600 := by omega
      have h4 : (i : Int) < (m : Int) := by omega
      have htk := take_mapIdx_succ (putOk s z rows) i sts hst
      have hc := cnt_snoc ((sts.mapIdx (putOk s z rows)).take i) (putOk s z rows i st)
      rw [← htk] at hc
      have hcl1 := cnt_le ((sts.mapIdx (putOk s z rows)).take i)
      have hcl2 : ((sts.mapIdx (putOk s z rows)).take i).length ≤ i := by simp; omega
      obtain ⟨C, hC⟩ : ∃ C, cnt ((sts.mapIdx (putOk s z rows)).take i) = C := ⟨_, rfl⟩
      rw [hC] at hc hcl1 ⊢
      have hw : ∀ k : Bool, IntKind.i64.wrap ((C : Int) + ((cnt [k] : Nat) : Int)) = (C : Int) + ((cnt [k] : Nat) : Int) := fun k => by have := cnt_le [k]; simp only [List.length_cons, List.length_nil] at this; rw [IntKind.wrap_i64]; omega
      have hc2 : cnt ((sts.mapIdx (putOk s z rows)).take (i + 1)) = C + cnt [putOk s z rows i st] := by rw [hc]; cases putOk s z rows i st <;> rfl
      have HCC := Lib.hid hc2
      have HST := Lib.hid hst
      have HR := Lib.hid hr
      have HX := Lib.hid hxr
      clear hc htk hcl1 hcl2 hst hr hxr hC hx hc2
      by_cases h0 : 0 < x.length
      · have d0 : decide ((0 : Int) < (x.length : Int)) = true := decide_eq_true (by omega)
        obtain ⟨v', Fs', ps', hB'⟩ := A.out
        have HB' := Lib.hid hB'
        clear hB'
        obtain ⟨E, hE⟩ : ∃ E, writeE st.dead s z x.length = E := ⟨_, rfl⟩
        have hpk : putOk s z rows i st = (E == 0) := by unfold putOk; rw [HX.out, hE, decide_eq_true h0]; rfl
        have hpg : putG s z rows i st = wrDA s st z x := by unfold putG; rw [HX.out, if_pos h0]
        have HE := Lib.hid hE
        have HPK := Lib.hid hpk
        have HPG := Lib.hid hpg
        clear hE hpk hpg
        have d1 : (0 : Int) < (x.length : Int) := by omega
        go_wp2_with fail
        refine (awrite_in (S := S) HB' i (stepTo_at (putG s z rows) i sts HST.out) z HR (fun b hb hu => (HS.out b hb).1 (hU.out b hu (HS.out b hb).2)) hcs).mono ?_
        rintro e w3 ⟨rfl, U2, A2, hU2, K2⟩
        rw [HE.out]
        rw [← HPG.out, stepTo_succ _ _ _ HST.out] at A2
        rw [HPK.out] at HCC
        have hsz := K.out.size
        have hU3 := Lib.hid (fun k hu (hlt : k < w.heap.size) => hU.out k (hU2 k hu (by omega)) hlt)
        have K3 := Lib.hid (K.out.trans (G := U') K2 (fun k hu hlt => hU.out k hu hlt))
        have A3 := Lib.hid A2
        have B2 := BoxAt.new w3 #[.bool (E == 0)] 4
        have R2 := Lib.hid (BoxAt.bools (xs := [E == 0]) (S := fun _ => True) (by simpa using B2) trivial)
        have t4 : Below w3.heap.size w3 (w3.alloc (.cells #[.bool (E == 0)] 4)) := (Below.refl _ _).alloc (Nat.le_refl _) _
        have T4 := Lib.hid t4
        have hw := hw (E == 0)
        clear A2 hU2 K2 B2 t4 hsz
        go_wp2_with fail
        refine (counted_any (m := 1) (c := 1) R2 (by omega)).mono ?_
        rintro e w5 ⟨rfl, t5⟩
        have T5 := Lib.hid (below_then t5 T4.out)
        clear t5
        go_wp2_with fail
        refine ⟨⟨i + 1, U2, by omega, ?_, by go_num, Lib.hid (A3.out.below T5.out), hU3, Lib.hid (K3.out.trans (G := fun _ => False) (Keep.of_below T5.out) (fun _ h => h.elim))⟩, by simp [intOf]; omega⟩
        rw [HCC.out]; rfl
      · have d0 : decide ((0 : Int) < (x.length : Int)) = false := decide_eq_false (by omega)
        have d1 : ¬ (0 : Int) < (x.length : Int) := by omega
        have hpk : putOk s z rows i st = false := by unfold putOk; rw [HX.out, decide_eq_false h0]; rfl
        have hpg : putG s z rows i st = st := by unfold putG; rw [HX.out, if_neg h0]
        have hst2 := stepTo_succ (putG s z rows) i sts HST.out
        rw [hpg] at hst2
        have A2 := A.out
        have hsame : (stepTo (putG s z rows) i sts).set i st = stepTo (putG s z rows) i sts := by
          apply List.ext_getElem?
          intro j
          by_cases hj : i = j
          · subst hj
            rw [List.getElem?_set_self (by rw [stepTo_len]; exact (List.getElem?_eq_some_iff.1 HST.out).1), stepTo_at _ _ _ HST.out]
          · rw [List.getElem?_set_ne hj]
        rw [← hsame, hst2] at A2
        have A3 := Lib.hid A2
        rw [hpk] at HCC
        have B2 := BoxAt.new wo #[.bool false] 4
        have R2 := Lib.hid (BoxAt.bools (xs := [false]) (S := fun _ => True) (by simpa using B2) trivial)
        have t4 : Below wo.heap.size wo (wo.alloc (.cells #[.bool false] 4)) := (Below.refl _ _).alloc (Nat.le_refl _) _
        have T4 := Lib.hid t4
        have hw := hw false
        clear A2 B2 t4 hpk hpg hst2 hsame
        go_wp2_with fail
        refine (counted_any (m := 1) (c := 1) R2 (by omega)).mono ?_
        rintro e w5 ⟨rfl, t5⟩
        have T5 := Lib.hid (below_then t5 T4.out)
        clear t5
        go_wp2_with fail
        refine ⟨⟨i + 1, U', by omega, ?_, by go_num, Lib.hid (A3.out.below T5.out), hU, Lib.hid (K.out.trans (G := fun _ => False) (Keep.of_below T5.out) (fun _ h => h.elim))⟩, by simp [intOf]; omega⟩
        rw [HCC.out]; rfl
    · obtain rfl : i = q := by omega
      have h1 : ¬ (i : Int) < (i : Int) := by omega
      have hA : stepTo (putG s z rows) i sts = sts.mapIdx (putG s z rows) := by
        rcases hq3 with h | h
        · rw [h, stepTo_all]
        · exact stepTo_rest _ _ _ (fun d st hd => by
            have : rAt rows d = [] := by simp [rAt, List.getD, List.getElem?_eq_none (show rows.length ≤ d by rw [R.out.1]; omega)]
            simp [putG, this])
      have hC : cnt ((sts.mapIdx (putOk s z rows)).take i) = cnt (sts.mapIdx (putOk s z rows)) := by
        rcases hq3 with h | h
        · rw [List.take_of_length_le (by simp; omega)]
        · exact cnt_rest _ _ _ (fun d st hd => by
            have : rAt rows d = [] := by simp [rAt, List.getD, List.getElem?_eq_none (show rows.length ≤ d by rw [R.out.1]; omega)]
            simp [putOk, this])
      rw [hA] at A
      rw [hC]
      clear hA hC
      go_wp2_with fail
      go_ret
      exact ⟨rfl, U', A.out, hU.out, K.out⟩
end
end Go.Proofs.Ytolmpopjonkfgaa

set_option linter.unusedSimpArgs false
set_option linter.unusedVariables false
namespace Go.Proofs.Ytolmpopjonkfgaa
open Go.RowKit Go.Cib
attribute [local go_sem] cell_set Later.cell Later.frozen Grw.cell Grw.frozen

theorem makeRows (k : Nat) (hk : k ≤ 600) (w : World) : (Instr.makeSlice 63 (.int .i64 (k : Int)) (.int .i64 (k : Int))).run Try.prog w = .ok (.slice (some ⟨w.heap.size, 0, none⟩) k k) (w.alloc (.cells (List.replicate k (Value.slice none 0 0)).toArray 27)) := by
  obtain ⟨i, hi, hz, hs, hb⟩ := info_parts (show (Try.prog.info? 27).map (fun i => (i.zero, i.size, i.bytes)) = some (some (.slice none 0 0), 1, 24) by kernel_rfl)
  have h := run_make (P := Try.prog) w 63 27 i (.slice none 0 0) (by kernel_rfl) hi hz .i64 .i64 k k (by omega) (by omega) (by rw [hb]; omega) (by omega)
  simp only [Int.toNat_natCast, hs, Nat.mul_one] at h
  rw [h, List.toArray_replicate, show (Value.slice none 0 0).cells = Array.replicate 1 (.slice none 0 0) from rfl, madeCells_rep _ _ _ (by omega)]
/-- A row of bytes of the call's own, each cell still to be set. -/
def RowB (B : Nat) (w : World) (ob k : Nat) (xs : List (List Int)) : Prop := ∃ vs : List Value, BoxAt w ob vs.toArray ∧ vs.length = k ∧ xs.length = k ∧ ∀ (j : Nat) (v : Value) (x : List Int), vs[j]? = some v → xs[j]? = some x → ∃ A m c, v = .slice A m c ∧ RdL U8R 1 (fun b => B ≤ b ∧ b ≠ ob) w A m x
theorem RowB.new (B : Nat) (w : World) (k : Nat) (T : TypeId) : RowB B (w.alloc (.cells (List.replicate k (Value.slice none 0 0)).toArray T)) w.heap.size k (List.replicate k []) := by
  refine ⟨List.replicate k (.slice none 0 0), BoxAt.new _ _ _, by simp, by simp, fun j v x hv hx => ?_⟩
  have h1 := List.eq_of_mem_replicate (List.mem_of_getElem? hv)
  have h2 := List.eq_of_mem_replicate (List.mem_of_getElem? hx)
  subst h1; subst h2
  exact ⟨none, 0, 0, rfl, RdL.nil⟩
theorem RowB.below {B : Nat} {w w' : World} {ob k : Nat} {xs : List (List Int)} (h : RowB B w ob k xs) (hb : Below w.heap.size w w') : RowB B w' ob k xs := by
  obtain ⟨vs, h1, h2, h3, h4⟩ := h
  exact ⟨vs, h1.below hb, h2, h3, fun j v x hv hx => by
    obtain ⟨A, m, c, e, hr⟩ := h4 j v x hv hx
    exact ⟨A, m, c, e, hr.below U8R.stable hb⟩⟩
theorem RowB.set {B : Nat} {w : World} {ob k : Nat} {xs : List (List Int)} (h : RowB B w ob k xs) (j : Nat) {A : Option Addr} {m c : Nat} {x : List Int} (hr : RdL U8R 1 (fun b => B ≤ b ∧ b ≠ ob) w A m x) : RowB B (w.setCell ⟨ob, j, none⟩ (.slice A m c)) ob k (xs.set j x) := by
  obtain ⟨vs, h1, h2, h3, h4⟩ := h
  refine ⟨vs.set j (.slice A m c), ?_, by simp [h2], by simp [h3], fun i v y hv hy => ?_⟩
  · have := h1.set j (.slice A m c)
    simpa using this
  · by_cases hij : j = i
    · subst hij
      have hjl : j < vs.length := by simpa using (List.getElem?_eq_some_iff.1 hv).1
      rw [List.getElem?_set_self hjl] at hv
      rw [List.getElem?_set_self (by omega)] at hy
      injection hv with hv
      injection hy with hy
      subst hv; subst hy
      exact ⟨A, m, c, rfl, hr.setCell U8R.stable (p := ⟨ob, j, none⟩) (fun h => h.2 rfl) _⟩
    · rw [List.getElem?_set_ne hij] at hv hy
      obtain ⟨A', m', c', e, hr'⟩ := h4 i v y hv hy
      exact ⟨A', m', c', e, hr'.setCell U8R.stable (p := ⟨ob, j, none⟩) (fun h => h.2 rfl) _⟩
theorem RowB.rd {B : Nat} {w : World} {ob k : Nat} {xs : List (List Int)} (h : RowB B w ob k xs) (hB : B ≤ ob) : RdL BytesR 1 (B ≤ ·) w (some ⟨ob, 0, none⟩) k xs := by
  obtain ⟨vs, h1, h2, h3, h4⟩ := h
  refine ⟨h3, fun _ => ⟨ob, 0, rfl, hB, h1.lt, fun i x hx => ?_⟩⟩
  have hi : i < vs.length := by rw [h2, ← h3]; exact (List.getElem?_eq_some_iff.1 hx).1
  obtain ⟨A, m, c, e, hr⟩ := h4 i _ x (List.getElem?_eq_getElem hi) hx
  refine ⟨[vs[i]], rfl, ⟨A, m, c, by rw [e], hr.weaken U8R.stable (fun b hb => hb.1)⟩, fun j v hj => ?_⟩
  match j, hj with
  | 0, hj =>
    simp only [List.getElem?_cons_zero, Option.some.injEq] at hj
    subst hj
    rw [h1.cell]
    simp [hi]
def rowTo (s : Nat) (z : Int) (i : Nat) (sts : List DSt) : List (List Int) := sts.mapIdx (fun j st => if j < i then readL st s z else [])
theorem rowTo_get (s : Nat) (z : Int) (i : Nat) (sts : List DSt) (j : Nat) : (rowTo s z i sts)[j]? = (sts[j]?).map (fun st => if j < i then readL st s z else []) := by simp [rowTo]
theorem rowTo_len (s : Nat) (z : Int) (i : Nat) (sts : List DSt) : (rowTo s z i sts).length = sts.length := by simp [rowTo]
theorem rowTo_zero (s : Nat) (z : Int) (sts : List DSt) : rowTo s z 0 sts = List.replicate sts.length [] := by
  apply List.ext_getElem?
  intro j
  rw [rowTo_get, List.getElem?_replicate]
  by_cases h : j < sts.length
  · rw [List.getElem?_eq_getElem h]; simp [h]
  · rw [List.getElem?_eq_none (by omega)]; simp [h]
theorem rowTo_succ (s : Nat) (z : Int) (i : Nat) (sts : List DSt) {st : DSt} (h : sts[i]? = some st) : (rowTo s z i sts).set i (readL st s z) = rowTo s z (i + 1) sts := by
  apply List.ext_getElem?
  intro j
  rw [rowTo_get]
  by_cases hj : i = j
  · subst hj
    rw [List.getElem?_set_self (by rw [rowTo_len]; exact (List.getElem?_eq_some_iff.1 h).1), h]; simp
  · rw [List.getElem?_set_ne hj, rowTo_get]
    cases sts[j]? with
    | none => rfl
    | some y =>
      simp only [Option.map_some, Option.some.injEq]
      by_cases h1 : j < i
      · rw [if_pos h1, if_pos (by omega)]
      · rw [if_neg h1, if_neg (by omega)]
theorem rowTo_all (s : Nat) (z : Int) (sts : List DSt) : rowTo s z sts.length sts = sts.map (fun st => readL st s z) := by
  apply List.ext_getElem?
  intro j
  rw [rowTo_get, List.getElem?_map]
  cases h : sts[j]? with
  | none => rfl
  | some y =>
    have := (List.getElem?_eq_some_iff.1 h).1
    simp [this]
section
variable {U : Nat → Prop} {w : World} {a s : Nat} {v : Value} {Fs : Nat → Nat → Prop} {ps : List Nat} {sts : List DSt}
def RowE (w : World) (s : Nat) (z : Int) (sts : List DSt) (e : Ending) (w' : World) : Prop := ∃ ob, e = .returned (.slice (some ⟨ob, 0, none⟩) sts.length sts.length) ∧ RdL BytesR 1 (w.heap.size ≤ ·) w' (some ⟨ob, 0, none⟩) sts.length (sts.map (fun st => readL st s z)) ∧ Below w.heap.size w w'
set_option maxRecDepth 100000 in
set_option maxHeartbeats 4000000 in
theorem arow_any (h : Hid (ArrB U w a v Fs ps s sts)) (hk : 0 < sts.length) (hk2 : sts.length ≤ 600) (z : Int) :
    Calls Try.prog 36 #[.pointer (some ⟨a, 0, none⟩), .int .i64 z] w fun e w' => RowE w s z sts e w' := by
  go_enter Try.func36, Try.ntmps36
  go_wp2_with fail
  refine (an_any h hk).mono ?_
  rintro e w1 ⟨rfl, t1⟩
  have hmk := makeRows sts.length hk2 w1
  have b1 := RowB.new w.heap.size w1 sts.length 27
  have a1 : Below w1.heap.size w1 (w1.alloc (.cells (List.replicate sts.length (Value.slice none 0 0)).toArray 27)) := (Below.refl _ _).alloc (Nat.le_refl _) _
  obtain ⟨w2, hw2⟩ : ∃ w2, w1.alloc (.cells (List.replicate sts.length (Value.slice none 0 0)).toArray 27) = w2 := ⟨_, rfl⟩
  obtain ⟨ob, hob⟩ : ∃ ob, w1.heap.size = ob := ⟨_, rfl⟩
  rw [hw2] at hmk b1 a1
  have a12 := below_then a1 t1
  have hob1 : w.heap.size ≤ ob := by rw [← hob]; exact t1.size
  rw [hob] at hmk b1
  have HB : Hid (RowB w.heap.size w2 ob sts.length (rowTo s z 0 sts)) := Lib.hid (by rw [rowTo_zero]; exact b1)
  have HK := Lib.hid a12
  clear b1 a1 a12 t1 hw2 hob
  go_wp2_with fail
  clear hmk
  go_loopw [12] (fun vi wr => ∃ i : Nat, i ≤ sts.length ∧ vi = .int .i64 i ∧ Hid (RowB w.heap.size wr ob sts.length (rowTo s z i sts)) ∧ Hid (Below w.heap.size w wr)) (fun vi _ => sts.length - (intOf vi).toNat)
  case atStart => exact ⟨0, Nat.zero_le _, rfl, HB, HK⟩
  case round =>
    clear HB HK
    obtain ⟨wo, rfl⟩ : ∃ wo, wo = wr := ⟨_, rfl⟩
    obtain ⟨i, hi, rfl, B, K⟩ := hrel
    by_cases hlt : i < sts.length
    · obtain ⟨st, hst⟩ : ∃ st, sts[i]? = some st := ⟨_, List.getElem?_eq_getElem hlt⟩
      have h1 : (i : Int) < (sts.length : Int) := by omega
      have h2 : (0 : Int) ≤ (i : Int) := Int.natCast_nonneg _
      have h3 : (i : Int) < 600 := by omega
      have HST := Lib.hid hst
      clear hst
      go_wp2_with fail
      refine (aread_in (Lib.hid (h.out.below K.out)) i HST.out z).mono ?_
      rintro e w3 ⟨A, m, c, rfl, r3, t3⟩
      have hol : ob < wo.heap.size := by obtain ⟨vs, hbx, _⟩ := B.out; exact hbx.lt
      have B2 := B.out.below t3
      have r3' : RdL U8R 1 (fun b => w.heap.size ≤ b ∧ b ≠ ob) w3 A m (readL st s z) := r3.weaken U8R.stable (fun b hb => ⟨Nat.le_trans K.out.size hb, by omega⟩)
      have B3 := B2.set (c := c) i r3'
      rw [rowTo_succ _ _ _ _ HST.out] at B3
      obtain ⟨vs, hbx, hvl, _⟩ := B2
      have z2 := hbx.frozen i
      have q2 : ∃ q, w3.cell? ⟨ob, i, none⟩ = some q := by
        rw [hbx.cell]
        exact ⟨_, Array.getElem?_eq_getElem (by simp; omega)⟩
      obtain ⟨q, q2⟩ := q2
      have HB3 := Lib.hid B3
      have K3 := Lib.hid ((below_then t3 K.out).setCell (p := ⟨ob, i, none⟩) hob1 (.slice A m c))
      clear B3 r3 r3' t3 hbx hvl
      go_wp2_with fail
      exact ⟨⟨i + 1, by omega, by go_num, HB3, K3⟩, by simp [intOf]; omega⟩
    · obtain rfl : i = sts.length := by omega
      have h1 : ¬ (sts.length : Int) < (sts.length : Int) := by omega
      go_wp2_with fail
      go_ret
      rw [rowTo_all] at B
      exact ⟨ob, rfl, B.out.rd hob1, K.out⟩
end
end Go.Proofs.Ytolmpopjonkfgaa

set_option linter.unusedSimpArgs false
set_option linter.unusedVariables false
namespace Go.Proofs.Ytolmpopjonkfgaa
open Go.RowKit Go.Cib
attribute [local go_sem] cell_set Later.cell Later.frozen Grw.cell Grw.frozen

theorem slPtr : SlTy Try.prog 104 25 (.pointer none) 1 8 := ⟨Try.underlying104, by kernel_rfl, rfl, by omega⟩
section
variable {U : Nat → Prop} {w : World} {a s : Nat} {v : Value} {Fs : Nat → Nat → Prop} {ps : List Nat} {sts : List DSt}
/-- One drive more. -/
theorem ArrB.push (h : ArrB U w a v Fs ps s sts) {u : World} {F : Nat → Prop} {p : Nat} {st : DSt} {vN : Value} (hD : DrvAt F w p s st) (hF : ∀ k, F k → ¬ U k) (hu : w.grownBy u v.ownBlock) (hs : w.heap.size < u.heap.size)
    (own : OwnL PtrR 25 1 0 (fun _ => False) u vN (ps.length + 1) (ps ++ [p])) (hat : vN.ownBlock = v.ownBlock ∨ vN.ownBlock = some (w.heap.size + 1)) :
    ∃ U' Fs', ArrB U' (u.setCell ⟨a, 0, none⟩ vN) a vN Fs' (ps ++ [p]) s (sts ++ [st]) ∧ (∀ k, U' k → k < w.heap.size → U k ∨ F k) ∧ Keep U w (u.setCell ⟨a, 0, none⟩ vN) := by
  have hset : ∀ k, k ≠ a → (u.setCell ⟨a, 0, none⟩ vN).heap[k]? = u.heap[k]? := fun k hk => Below.heap_setCell _ _ _ _ hk
  have hK : Keep (fun k => k = a ∨ v.ownBlock = some k) w (u.setCell ⟨a, 0, none⟩ vN) := ⟨hu.os, hu.tape, hu.output, by simpa using hu.size, fun k hk hg => (hset k (fun e => hg (.inl e))).trans (hu.block k hk (fun e => hg (.inr e.symm)))⟩
  have hla := h.lt a h.ua
  have hN : ∀ k, vN.ownBlock = some k → (v.ownBlock = some k) ∨ k = w.heap.size + 1 := fun k hk => by
    rcases hat with h | h
    · exact .inl (h ▸ hk)
    · rw [h] at hk; injection hk with hk; exact .inr hk.symm
  have hNa : vN.ownBlock ≠ some a := fun e => by
    rcases hN a e with h2 | h2
    · exact h.va h2
    · omega
  have hFlt : ∀ k, F k → k < w.heap.size := fun k hk => hD.lt hk
  refine ⟨fun k => U k ∨ F k ∨ (w.heap.size ≤ k ∧ k < u.heap.size), fun j k => if j = ps.length then F k else Fs j k, ⟨?_, ?_, by simp [h.len], ?_, ?_, hNa, ?_, .inl h.ua, ?_, ?_, ?_⟩, ?_, hK.mono (fun k hk _ => hk.elim (fun e => e ▸ h.ua) (h.uv k))⟩
  · exact (h.box.keep (hu.block a hla (fun e => h.va e.symm))).set 0 vN
  · obtain ⟨css, h1, h2, h3, h4, h5⟩ := own
    rw [show (ps ++ [p]).length = ps.length + 1 by simp]
    exact ⟨css, ownsRow_keep h1 (fun k hk => hset k (fun e => hNa (e ▸ hk))), h2, h3, h4, fun i cs x hc hx => h5 i cs x hc hx⟩
  · intro i q st' h1 h2
    by_cases hi : i = ps.length
    · subst hi
      rw [List.getElem?_append_right (Nat.le_refl _)] at h1
      rw [List.getElem?_append_right (by rw [h.len]; exact Nat.le_refl _), h.len] at h2
      simp only [Nat.sub_self, List.getElem?_cons_zero, Option.some.injEq] at h1 h2
      subst h1; subst h2
      simp only [if_true]
      exact hD.keep hK (fun k hk hg => hF k hk (hg.elim (fun e => e ▸ h.ua) (h.uv k)))
    · have hil : i < ps.length := by
        have := (List.getElem?_eq_some_iff.1 h1).1
        simp at this; omega
      rw [List.getElem?_append_left hil] at h1
      rw [List.getElem?_append_left (by rw [h.len]; exact hil)] at h2
      simp only [if_neg hi]
      exact (h.drv i q st' h1 h2).keep hK (fun k hk hg => hg.elim (h.fx i k hk).1 (h.fx i k hk).2)
  · intro i j k
    by_cases e1 : i = ps.length <;> by_cases e2 : j = ps.length <;> simp only [e1, e2, if_true, if_false]
    · intros; trivial
    · intro hf hg; exact absurd (h.uf j k hg) (hF k hf)
    · intro hf hg; exact absurd (h.uf i k hf) (hF k hg)
    · exact h.apart i j k
  · intro i k
    by_cases e1 : i = ps.length <;> simp only [e1, if_true, if_false]
    · intro hf
      refine ⟨fun e => hF k hf (e ▸ h.ua), fun e => ?_⟩
      have := hFlt k hf
      rcases hN k e with h2 | h2
      · exact hF k hf (h.uv k h2)
      · omega
    · intro hf
      refine ⟨(h.fx i k hf).1, fun e => ?_⟩
      have := h.lt k (h.uf i k hf)
      rcases hN k e with h2 | h2
      · exact (h.fx i k hf).2 h2
      · omega
  · intro k hk
    rcases hN k hk with h2 | h2
    · exact .inl (h.uv k h2)
    · have := (own.lt k hk).2
      exact .inr (.inr ⟨by omega, this⟩)
  · intro i k
    by_cases e1 : i = ps.length <;> simp only [e1, if_true, if_false]
    · intro hf; exact .inr (.inl hf)
    · intro hf; exact .inl (h.uf i k hf)
  · rintro k (hk | hk | hk)
    · have := h.lt k hk; simp; omega
    · have := hFlt k hk; simp; omega
    · simpa using hk.2
  · rintro k (hk | hk | hk) hlt
    · exact .inl hk
    · exact .inr hk
    · omega
/-- An array of no drives yet. -/
theorem ArrB.empty (w : World) (s : Nat) (T : TypeId) : ArrB (fun k => k = w.heap.size) (w.alloc (.cells #[.slice none 0 0] T)) w.heap.size (.slice none 0 0) (fun _ _ => False) [] s [] := by
  refine ⟨BoxAt.new _ _ _, OwnL.nil_, rfl, ?_, ?_, ?_, ?_, rfl, ?_, ?_, ?_⟩
  · intro i p st h1; simp at h1
  · intro i j k h; exact h.elim
  · simp [Value.ownBlock]
  · intro i k h; exact h.elim
  · intro k hk; simp [Value.ownBlock] at hk
  · intro i k h; exact h.elim
  · rintro k rfl; simp
end
set_option maxRecDepth 100000 in
set_option maxHeartbeats 4000000 in
theorem anew_any (k s : Nat) (h1 : 1 ≤ k) (h2 : k ≤ 255) (h3 : 1 ≤ s) (h4 : s ≤ 600) (w : World) :
    Calls Try.prog 29 #[.int .i64 k, .int .i64 s] w fun e w' => ∃ a U, e = .returned (.pointer (some ⟨a, 0, none⟩)) ∧ ArrAt U w' a s (List.replicate k (DSt.new s)) ∧ (∀ b, U b → w.heap.size ≤ b) ∧ Below w.heap.size w w' := by
  have d1 : (1 : Int) ≤ k := by omega
  have d2 : (k : Int) ≤ 255 := by omega
  have hE := ArrB.empty w s 106
  have bE : Below w.heap.size w (w.alloc (.cells #[.slice none 0 0] 106)) := (Below.refl _ _).alloc (Nat.le_refl _) _
  obtain ⟨w1, hw1⟩ : ∃ w1, w.alloc (.cells #[.slice none 0 0] 106) = w1 := ⟨_, rfl⟩
  obtain ⟨a, ha⟩ : ∃ a, w.heap.size = a := ⟨_, rfl⟩
  rw [hw1] at hE bE
  rw [ha] at hE
  have HE := Lib.hid hE
  have BE := Lib.hid bE
  have hla : w.heap.size ≤ a := by omega
  clear hE bE
  go_enter Try.func29, Try.ntmps29
  go_wp2_with fail
  clear hw1 ha
  go_loopw [16] (fun vi wr => ∃ (i : Nat) (U : Nat → Prop) (v : Value) (Fs : Nat → Nat → Prop) (ps : List Nat), i ≤ k ∧ vi = .int .i64 i ∧ Hid (ArrB U wr a v Fs ps s (List.replicate i (DSt.new s))) ∧ Hid (∀ b, U b → w.heap.size ≤ b) ∧ Hid (Below w.heap.size w wr)) (fun vi _ => k - (intOf vi).toNat)
  case atStart => exact ⟨0, _, _, _, _, Nat.zero_le _, rfl, HE, Lib.hid (by rintro b rfl; exact hla), BE⟩
  case round =>
    clear HE BE
    obtain ⟨wo, rfl⟩ : ∃ wo, wo = wr := ⟨_, rfl⟩
    obtain ⟨i, U, v, Fs, ps, hi, rfl, A, hU, K⟩ := hrel
    by_cases hlt : i < k
    · have h5 : (i : Int) < (k : Int) := by omega
      have h6 : (0 : Int) ≤ (i : Int) := Int.natCast_nonneg _
      have h7 : (i : Int) < 600 := by omega
      go_wp2_with fail
      refine (new_good s h3 h4 wo).mono ?_
      rintro e w2 ⟨p, F, rfl, D2, hF2, t2⟩
      have A2 := A.out.below t2
      have hlen := A2.len
      rw [List.length_replicate] at hlen
      obtain ⟨AA, cc, rfl, _⟩ := A2.own.form
      have c0 := A2.box.cell 0
      have z0 := A2.box.frozen 0
      have c0' : w2.cell? ⟨a, 0, none⟩ = some (.slice AA ps.length cc) := c0
      have hown := A2.own
      have hne : some a ≠ (Value.slice AA ps.length cc).ownBlock := fun e => A2.va e.symm
      have HA2 := Lib.hid A2
      have HD2 := Lib.hid D2
      have HF2 := Lib.hid hF2
      have T2 := Lib.hid t2
      clear A2 D2 hF2 t2 c0
      go_wp2_with (at_builtin; go_must (refine wpList_push1 PtrR.stable PtrR.one slPtr (by rfl) (by rfl) (base := 0) (S := fun _ => False) (cs := #[.pointer (some ⟨p, 0, none⟩)]) (y := p) (by rfl) (by rfl) hown (by rfl) (show PtrR _ _ _ p from rfl) (by unfold maxLen; omega) (by omega) (Nat.zero_le _) ?_); intro A11 c11 u11 hc11 own11 hlt11 hb11 hat11; have y0 := cell_far2 c0' u11.ok hne; have y1 := frozen_far2 c0' z0 u11.ok hne)
      obtain ⟨U', Fs', A3, hU3, hK3⟩ := HA2.out.push HD2.out (fun b hf hu => by have := HF2.out b hf; have := A.out.lt b hu; omega) u11.ok hlt11 own11 hat11
      have hsz := K.out.size
      have hs2 := T2.out.size
      refine ⟨⟨i + 1, U', _, Fs', ps ++ [p], by omega, by go_num, Lib.hid (by rw [List.replicate_succ']; exact A3), Lib.hid (fun b hb => ?_), Lib.hid (K.out.trans ((T2.out.mono hsz).trans (hK3.below (by omega) hU.out)))⟩, by simp [intOf]; omega⟩
      by_cases hblt : b < w2.heap.size
      · rcases hU3 b hb hblt with h | h
        · exact hU.out b h
        · have := HF2.out b h; omega
      · omega
    · obtain rfl : i = k := by omega
      have h5 : ¬ (i : Int) < (i : Int) := by omega
      go_wp2_with fail
      go_ret
      exact ⟨a, rfl, U, ⟨v, Fs, ps, A.out⟩, hU.out, K.out⟩
end Go.Proofs.Ytolmpopjonkfgaa

set_option linter.unusedSimpArgs false
set_option linter.unusedVariables false
namespace Go.Proofs.Ytolmpopjonkfgaa
open Go.RowKit Go.Cib
attribute [local go_sem] cell_set Later.cell Later.frozen Grw.cell Grw.frozen

section
variable {U : Nat → Prop} {w : World} {a s : Nat} {v : Value} {Fs : Nat → Nat → Prop} {ps : List Nat} {sts : List DSt}
def CopyE (w : World) (s : Nat) (sts : List DSt) (e : Ending) (w' : World) : Prop := ∃ a' U', e = .returned (.pointer (some ⟨a', 0, none⟩)) ∧ ArrAt U' w' a' s sts ∧ (∀ b, U' b → w.heap.size ≤ b) ∧ Below w.heap.size w w'
set_option maxRecDepth 100000 in
set_option maxHeartbeats 8000000 in
theorem acopy_any (h : Hid (ArrB U w a v Fs ps s sts)) (hk : 0 < sts.length) (hk2 : sts.length ≤ 255) (hcl : Hid (∀ st ∈ sts, st.cache.length < 1000000)) :
    Calls Try.prog 33 #[.pointer (some ⟨a, 0, none⟩)] w fun e w' => CopyE w s sts e w' := by
  obtain ⟨g, cc, rfl⟩ := arr_form h.out hk
  go_enter Try.func33, Try.ntmps33
  go_wp2_with fail
  refine (anone h hk).mono ?_
  rintro e w1 ⟨rfl, t1⟩
  have H1 := Lib.hid (h.out.below t1)
  have hE := ArrB.empty w1 s 106
  have bE : Below w1.heap.size w1 (w1.alloc (.cells #[.slice none 0 0] 106)) := (Below.refl _ _).alloc (Nat.le_refl _) _
  obtain ⟨w2, hw2⟩ : ∃ w2, w1.alloc (.cells #[.slice none 0 0] 106) = w2 := ⟨_, rfl⟩
  obtain ⟨cb, hcb⟩ : ∃ a, w1.heap.size = a := ⟨_, rfl⟩
  rw [hw2] at hE bE
  rw [hcb] at hE
  have HE := Lib.hid hE
  have H2 := Lib.hid (H1.out.below bE)
  have BE := Lib.hid (below_then bE t1)
  have hla : w.heap.size ≤ cb := by have := t1.size; omega
  have c0 := arr_c0 H2.out
  clear hE bE t1 H1
  go_wp2_with fail
  clear hw2
  go_loopw [15] (fun vi wr => ∃ (i : Nat) (U : Nat → Prop) (v : Value) (Fs : Nat → Nat → Prop) (ps : List Nat), i ≤ sts.length ∧ vi = .int .i64 i ∧ Hid (ArrB U wr cb v Fs ps s (sts.take i)) ∧ Hid (∀ b, U b → w.heap.size ≤ b) ∧ Hid (Below w.heap.size w wr)) (fun vi _ => sts.length - (intOf vi).toNat)
  case atStart => exact ⟨0, _, _, _, _, Nat.zero_le _, rfl, HE, Lib.hid (by rintro b rfl; exact hla), BE⟩
  case round =>
    clear HE BE c0 H2
    obtain ⟨wo, rfl⟩ : ∃ wo, wo = wr := ⟨_, rfl⟩
    obtain ⟨i, U2, v2, Fs2, ps2, hi, rfl, A, hU, K⟩ := hrel
    by_cases hlt : i < sts.length
    · obtain ⟨st, hst⟩ : ∃ st, sts[i]? = some st := ⟨_, List.getElem?_eq_getElem hlt⟩
      have H := Lib.hid (h.out.below K.out)
      obtain ⟨p, hp, hD, _⟩ := H.out.p_at hst
      have cg := arr_cg H.out hp
      have hcs : st.cache.length < 1000000 := hcl.out st (List.mem_of_getElem? hst)
      have h1 : (i : Int) < (sts.length : Int) := by omega
      have h2 : (0 : Int) ≤ (i : Int) := Int.natCast_nonneg _
      have h3 : (i : Int) < 600 := by omega
      have htk : sts.take (i + 1) = sts.take i ++ [st] := by rw [List.take_succ_eq_append_getElem hlt, (List.getElem?_eq_some_iff.1 hst).2]
      have hlen := A.out.len
      rw [List.length_take] at hlen
      have hlen2 : ps2.length = i := by omega
      obtain ⟨AA, c2, rfl, _⟩ := A.out.own.form
      have hps : ps2.length < 255 := by omega
      clear hlen2
      have q0 : wo.cell? ⟨cb, 0, none⟩ = some (.slice AA ps2.length c2) := A.out.box.cell 0
      have qd : wo.drew.cell? ⟨cb, 0, none⟩ = some (.slice AA ps2.length c2) := q0
      have z0 : wo.frozen? ⟨cb, 0, none⟩ = false := A.out.box.frozen 0
      have hlc : cb < wo.heap.size := A.out.box.lt
      have hne : some cb ≠ (Value.slice AA ps2.length c2).ownBlock := fun e => A.out.va e.symm
      have HD := Lib.hid (hD.below (Below.refl _ _).drew)
      have HTK := Lib.hid htk
      clear hD htk hst hp hlen
      go_wp2_with fail
      refine wp_region_held_drew (S := fun _ => True) (by kernel_rfl) (by trivial) (fun hHeld => ?_)
      refine wpAnyH_take (i := 0) (v := ?_) rfl (by kernel_rfl) (by kernel_rfl) (by kernel_rfl) (fun _ _ _ h => h) (Or.inl ⟨by rfl, ?_⟩) (by assumption) ?_
      rotate_left
      · (intro wq hSw; (try dsimp only at hSw); (try simp only [List.getElem_toArray, List.getElem_cons_succ, List.getElem_cons_zero]); go_simp); try with_reducible rfl
      try simp only [List.getElem_toArray, List.getElem_cons_succ, List.getElem_cons_zero, Act.put, List.setIfInBounds_toArray, List.set_cons_zero, List.set_cons_succ]
      refine wpAnyH_take (i := 1) (v := ?_) rfl (by kernel_rfl) (by kernel_rfl) (by kernel_rfl) (fun _ _ _ h => h) (Or.inl ⟨by rfl, ?_⟩) (by assumption) ?_
      rotate_left
      · (intro wq hSw; (try dsimp only at hSw); (try simp only [List.getElem_toArray, List.getElem_cons_succ, List.getElem_cons_zero]); go_simp); try with_reducible rfl
      try simp only [List.getElem_toArray, List.getElem_cons_succ, List.getElem_cons_zero, Act.put, List.setIfInBounds_toArray, List.set_cons_zero, List.set_cons_succ]
      refine wpAnyH_take (i := 2) (v := ?_) rfl (by kernel_rfl) (by kernel_rfl) (by kernel_rfl) (fun _ _ _ h => h) (Or.inl ⟨by rfl, ?_⟩) (by assumption) ?_
      rotate_left
      · (intro wq hSw; (try dsimp only at hSw); (try simp only [List.getElem_toArray, List.getElem_cons_succ, List.getElem_cons_zero]); go_simp); try with_reducible rfl
      try simp only [List.getElem_toArray, List.getElem_cons_succ, List.getElem_cons_zero, Act.put, List.setIfInBounds_toArray, List.set_cons_zero, List.set_cons_succ]
      refine wpAnyH_take (i := 3) (v := ?_) rfl (by kernel_rfl) (by kernel_rfl) (by kernel_rfl) (fun _ _ _ h => h) (Or.inl ⟨by rfl, ?_⟩) (by assumption) ?_
      rotate_left
      · (intro wq hSw; (try dsimp only at hSw); (try simp only [List.getElem_toArray, List.getElem_cons_succ, List.getElem_cons_zero]); go_simp); try with_reducible rfl
      try simp only [List.getElem_toArray, List.getElem_cons_succ, List.getElem_cons_zero, Act.put, List.setIfInBounds_toArray, List.set_cons_zero, List.set_cons_succ]
      refine wpAnyH_take (i := 5) (v := ?_) rfl (by kernel_rfl) (by kernel_rfl) (by kernel_rfl) (fun _ _ _ h => h) (Or.inl ⟨by rfl, ?_⟩) (by assumption) ?_
      rotate_left
      · (intro wq hSw; (try dsimp only at hSw); (try simp only [List.getElem_toArray, List.getElem_cons_succ, List.getElem_cons_zero]); go_simp); try with_reducible rfl
      try simp only [List.getElem_toArray, List.getElem_cons_succ, List.getElem_cons_zero, Act.put, List.setIfInBounds_toArray, List.set_cons_zero, List.set_cons_succ]
      refine wpAnyH_ready (rs := [4, 6]) (by kernel_rfl) (by simp) ?_
      refine AllReadyH.cons rfl (fun K hK => ?_) (AllReadyH.cons rfl (fun K hK => ?_) AllReadyH.nil)
      · try simp only [List.getElem_toArray, List.getElem_cons_succ, List.getElem_cons_zero]
        go_simp
        refine hK.out _ _ (by trivial) (fun hHeld => ?_)
        clear hK K
        try simp only [List.getElem_toArray, List.getElem_cons_succ, List.getElem_cons_zero, Act.put, List.setIfInBounds_toArray, List.set_cons_zero, List.set_cons_succ]
        refine wpAnyH_ready (rs := [6]) (by kernel_rfl) (by simp) ?_
        refine AllReadyH.cons rfl (fun K hK => ?_) AllReadyH.nil
        try simp only [List.getElem_toArray, List.getElem_cons_succ, List.getElem_cons_zero]
        go_simp
        refine (copy_any HD hcs).mono ?_
        rintro e w3 ⟨p', F', rfl, D3, hF3, t3⟩
        have T3 : Below wo.heap.size wo w3 := below_then t3 (Below.refl _ _).drew
        have c3 : w3.cell? ⟨cb, 0, none⟩ = some (.slice AA ps2.length c2) := (T3.cell (p := ⟨cb, 0, none⟩) hlc).trans q0
        have c3a : ∀ o, (w3.alloc o).cell? ⟨cb, 0, none⟩ = some (.slice AA ps2.length c2) := fun o => cell_alloc2 c3 o
        have z3 := (T3.frozen (p := ⟨cb, 0, none⟩) hlc).trans z0
        have own3 := A.out.own.keep PtrR.stable T3
        replace D3 := Lib.hid D3
        replace hF3 := Lib.hid hF3
        replace T3 := Lib.hid T3
        clear t3
        try (go_wp2_with fail)
        refine hK.out _ _ (by trivial) (fun hHeld => ?_)
        clear hK K
        try simp only [List.getElem_toArray, List.getElem_cons_succ, List.getElem_cons_zero, Act.put, List.setIfInBounds_toArray, List.set_cons_zero, List.set_cons_succ]
        refine wpAnyH_ready (rs := [7]) (by kernel_rfl) (by simp) ?_
        refine AllReadyH.cons rfl (fun K hK => ?_) AllReadyH.nil
        try simp only [List.getElem_toArray, List.getElem_cons_succ, List.getElem_cons_zero]
        go_simp
        refine hK.out _ _ (by trivial) (fun hHeld => ?_)
        clear hK K
        try simp only [List.getElem_toArray, List.getElem_cons_succ, List.getElem_cons_zero, Act.put, List.setIfInBounds_toArray, List.set_cons_zero, List.set_cons_succ]
        refine wpAnyH_ready (rs := [8]) (by kernel_rfl) (by simp) ?_
        refine AllReadyH.cons rfl (fun K hK => ?_) AllReadyH.nil
        refine step_of_list (by rfl) (wpList_push1 PtrR.stable PtrR.one slPtr (by rfl) (by rfl) (base := 0) (S := fun _ => False) (cs := #[.pointer (some ⟨p', 0, none⟩)]) (y := p') (by rfl) (by rfl) own3 (by rfl) (show PtrR _ _ _ p' from rfl) (by unfold maxLen; omega) (by omega) (Nat.zero_le _) ?_)
        intro A11 c11 u11 hc11 own11 hlt11 hb11 hat11
        refine And.intro rfl ?_
        have y0 := cell_far2 c3 u11.ok hne
        have y1 := frozen_far2 c3 z3 u11.ok hne
        refine hK.out _ _ (by trivial) (fun hHeld => ?_)
        clear hK K
        try simp only [List.getElem_toArray, List.getElem_cons_succ, List.getElem_cons_zero, Act.put, List.setIfInBounds_toArray, List.set_cons_zero, List.set_cons_succ]
        refine wpAnyH_take (i := 9) (v := ?_) rfl (by kernel_rfl) (by kernel_rfl) (by kernel_rfl) (fun _ _ _ h => h) (Or.inl ⟨by rfl, ?_⟩) (by assumption) ?_
        rotate_left
        · (intro wq hSw; (try dsimp only at hSw); (try simp only [List.getElem_toArray, List.getElem_cons_succ, List.getElem_cons_zero]); go_simp); try with_reducible rfl
        try simp only [List.getElem_toArray, List.getElem_cons_succ, List.getElem_cons_zero, Act.put, List.setIfInBounds_toArray, List.set_cons_zero, List.set_cons_succ]
        refine wpAnyH_take (i := 10) (v := ?_) rfl (by kernel_rfl) (by kernel_rfl) (by kernel_rfl) (fun _ _ _ h => h) (Or.inl ⟨by rfl, ?_⟩) (by assumption) ?_
        rotate_left
        · (intro wq hSw; (try dsimp only at hSw); (try simp only [List.getElem_toArray, List.getElem_cons_succ, List.getElem_cons_zero]); go_simp); try with_reducible rfl
        try simp only [List.getElem_toArray, List.getElem_cons_succ, List.getElem_cons_zero, Act.put, List.setIfInBounds_toArray, List.set_cons_zero, List.set_cons_succ]
        refine wpAnyH_ready (rs := [11]) (by kernel_rfl) (by simp) ?_
        refine AllReadyH.cons rfl (fun K hK => ?_) AllReadyH.nil
        try simp only [List.getElem_toArray, List.getElem_cons_succ, List.getElem_cons_zero]
        go_simp
        refine hK.out _ _ (by trivial) (fun hHeld => ?_)
        clear hK K
        try simp only [List.getElem_toArray, List.getElem_cons_succ, List.getElem_cons_zero, Act.put, List.setIfInBounds_toArray, List.set_cons_zero, List.set_cons_succ]
        refine wpAnyH_done (by kernel_rfl) ?_ _
        go_wp2_with fail
        obtain ⟨U', Fs', A3, hU3, hK3⟩ := (A.out.below T3.out).push D3.out (fun b hf hu => by have h1 := hF3.out b hf; have h2 := A.out.lt b hu; simp only [World.size_drew] at h1; omega) u11.ok hlt11 own11 hat11
        have hsz := K.out.size
        have hs2 := T3.out.size
        refine ⟨⟨i + 1, U', _, Fs', ps2 ++ [p'], by omega, by go_num, Lib.hid (by rw [HTK.out]; exact A3), Lib.hid (fun b hb => ?_), Lib.hid (K.out.trans ((T3.out.mono hsz).trans (hK3.below (by omega) hU.out)))⟩, by simp [intOf]; omega⟩
        by_cases hblt : b < w3.heap.size
        · rcases hU3 b hb hblt with h | h
          · exact hU.out b h
          · have h1 := hF3.out b h
            simp only [World.size_drew] at h1
            omega
        · omega
      · try simp only [List.getElem_toArray, List.getElem_cons_succ, List.getElem_cons_zero]
        go_simp
        refine (copy_any HD hcs).mono ?_
        rintro e w3 ⟨p', F', rfl, D3, hF3, t3⟩
        have T3 : Below wo.heap.size wo w3 := below_then t3 (Below.refl _ _).drew
        have c3 : w3.cell? ⟨cb, 0, none⟩ = some (.slice AA ps2.length c2) := (T3.cell (p := ⟨cb, 0, none⟩) hlc).trans q0
        have c3a : ∀ o, (w3.alloc o).cell? ⟨cb, 0, none⟩ = some (.slice AA ps2.length c2) := fun o => cell_alloc2 c3 o
        have z3 := (T3.frozen (p := ⟨cb, 0, none⟩) hlc).trans z0
        have own3 := A.out.own.keep PtrR.stable T3
        replace D3 := Lib.hid D3
        replace hF3 := Lib.hid hF3
        replace T3 := Lib.hid T3
        clear t3
        try (go_wp2_with fail)
        refine hK.out _ _ (by trivial) (fun hHeld => ?_)
        clear hK K
        try simp only [List.getElem_toArray, List.getElem_cons_succ, List.getElem_cons_zero, Act.put, List.setIfInBounds_toArray, List.set_cons_zero, List.set_cons_succ]
        refine wpAnyH_ready (rs := [4, 7]) (by kernel_rfl) (by simp) ?_
        refine AllReadyH.cons rfl (fun K hK => ?_) (AllReadyH.cons rfl (fun K hK => ?_) AllReadyH.nil)
        · try simp only [List.getElem_toArray, List.getElem_cons_succ, List.getElem_cons_zero]
          go_simp
          refine hK.out _ _ (by trivial) (fun hHeld => ?_)
          clear hK K
          try simp only [List.getElem_toArray, List.getElem_cons_succ, List.getElem_cons_zero, Act.put, List.setIfInBounds_toArray, List.set_cons_zero, List.set_cons_succ]
          refine wpAnyH_ready (rs := [7]) (by kernel_rfl) (by simp) ?_
          refine AllReadyH.cons rfl (fun K hK => ?_) AllReadyH.nil
          try simp only [List.getElem_toArray, List.getElem_cons_succ, List.getElem_cons_zero]
          go_simp
          refine hK.out _ _ (by trivial) (fun hHeld => ?_)
          clear hK K
          try simp only [List.getElem_toArray, List.getElem_cons_succ, List.getElem_cons_zero, Act.put, List.setIfInBounds_toArray, List.set_cons_zero, List.set_cons_succ]
          refine wpAnyH_ready (rs := [8]) (by kernel_rfl) (by simp) ?_
          refine AllReadyH.cons rfl (fun K hK => ?_) AllReadyH.nil
          refine step_of_list (by rfl) (wpList_push1 PtrR.stable PtrR.one slPtr (by rfl) (by rfl) (base := 0) (S := fun _ => False) (cs := #[.pointer (some ⟨p', 0, none⟩)]) (y := p') (by rfl) (by rfl) own3 (by rfl) (show PtrR _ _ _ p' from rfl) (by unfold maxLen; omega) (by omega) (Nat.zero_le _) ?_)
          intro A11 c11 u11 hc11 own11 hlt11 hb11 hat11
          refine And.intro rfl ?_
          have y0 := cell_far2 c3 u11.ok hne
          have y1 := frozen_far2 c3 z3 u11.ok hne
          refine hK.out _ _ (by trivial) (fun hHeld => ?_)
          clear hK K
          try simp only [List.getElem_toArray, List.getElem_cons_succ, List.getElem_cons_zero, Act.put, List.setIfInBounds_toArray, List.set_cons_zero, List.set_cons_succ]
          refine wpAnyH_take (i := 9) (v := ?_) rfl (by kernel_rfl) (by kernel_rfl) (by kernel_rfl) (fun _ _ _ h => h) (Or.inl ⟨by rfl, ?_⟩) (by assumption) ?_
          rotate_left
          · (intro wq hSw; (try dsimp only at hSw); (try simp only [List.getElem_toArray, List.getElem_cons_succ, List.getElem_cons_zero]); go_simp); try with_reducible rfl
          try simp only [List.getElem_toArray, List.getElem_cons_succ, List.getElem_cons_zero, Act.put, List.setIfInBounds_toArray, List.set_cons_zero, List.set_cons_succ]
          refine wpAnyH_take (i := 10) (v := ?_) rfl (by kernel_rfl) (by kernel_rfl) (by kernel_rfl) (fun _ _ _ h => h) (Or.inl ⟨by rfl, ?_⟩) (by assumption) ?_
          rotate_left
          · (intro wq hSw; (try dsimp only at hSw); (try simp only [List.getElem_toArray, List.getElem_cons_succ, List.getElem_cons_zero]); go_simp); try with_reducible rfl
          try simp only [List.getElem_toArray, List.getElem_cons_succ, List.getElem_cons_zero, Act.put, List.setIfInBounds_toArray, List.set_cons_zero, List.set_cons_succ]
          refine wpAnyH_ready (rs := [11]) (by kernel_rfl) (by simp) ?_
          refine AllReadyH.cons rfl (fun K hK => ?_) AllReadyH.nil
          try simp only [List.getElem_toArray, List.getElem_cons_succ, List.getElem_cons_zero]
          go_simp
          refine hK.out _ _ (by trivial) (fun hHeld => ?_)
          clear hK K
          try simp only [List.getElem_toArray, List.getElem_cons_succ, List.getElem_cons_zero, Act.put, List.setIfInBounds_toArray, List.set_cons_zero, List.set_cons_succ]
          refine wpAnyH_done (by kernel_rfl) ?_ _
          go_wp2_with fail
          obtain ⟨U', Fs', A3, hU3, hK3⟩ := (A.out.below T3.out).push D3.out (fun b hf hu => by have h1 := hF3.out b hf; have h2 := A.out.lt b hu; simp only [World.size_drew] at h1; omega) u11.ok hlt11 own11 hat11
          have hsz := K.out.size
          have hs2 := T3.out.size
          refine ⟨⟨i + 1, U', _, Fs', ps2 ++ [p'], by omega, by go_num, Lib.hid (by rw [HTK.out]; exact A3), Lib.hid (fun b hb => ?_), Lib.hid (K.out.trans ((T3.out.mono hsz).trans (hK3.below (by omega) hU.out)))⟩, by simp [intOf]; omega⟩
          by_cases hblt : b < w3.heap.size
          · rcases hU3 b hb hblt with h | h
            · exact hU.out b h
            · have h1 := hF3.out b h
              simp only [World.size_drew] at h1
              omega
          · omega
        · try simp only [List.getElem_toArray, List.getElem_cons_succ, List.getElem_cons_zero]
          go_simp
          refine hK.out _ _ (by trivial) (fun hHeld => ?_)
          clear hK K
          try simp only [List.getElem_toArray, List.getElem_cons_succ, List.getElem_cons_zero, Act.put, List.setIfInBounds_toArray, List.set_cons_zero, List.set_cons_succ]
          refine wpAnyH_ready (rs := [4]) (by kernel_rfl) (by simp) ?_
          refine AllReadyH.cons rfl (fun K hK => ?_) AllReadyH.nil
          try simp only [List.getElem_toArray, List.getElem_cons_succ, List.getElem_cons_zero]
          go_simp
          refine hK.out _ _ (by trivial) (fun hHeld => ?_)
          clear hK K
          try simp only [List.getElem_toArray, List.getElem_cons_succ, List.getElem_cons_zero, Act.put, List.setIfInBounds_toArray, List.set_cons_zero, List.set_cons_succ]
          refine wpAnyH_ready (rs := [8]) (by kernel_rfl) (by simp) ?_
          refine AllReadyH.cons rfl (fun K hK => ?_) AllReadyH.nil
          refine step_of_list (by rfl) (wpList_push1 PtrR.stable PtrR.one slPtr (by rfl) (by rfl) (base := 0) (S := fun _ => False) (cs := #[.pointer (some ⟨p', 0, none⟩)]) (y := p') (by rfl) (by rfl) own3 (by rfl) (show PtrR _ _ _ p' from rfl) (by unfold maxLen; omega) (by omega) (Nat.zero_le _) ?_)
          intro A11 c11 u11 hc11 own11 hlt11 hb11 hat11
          refine And.intro rfl ?_
          have y0 := cell_far2 c3 u11.ok hne
          have y1 := frozen_far2 c3 z3 u11.ok hne
          refine hK.out _ _ (by trivial) (fun hHeld => ?_)
          clear hK K
          try simp only [List.getElem_toArray, List.getElem_cons_succ, List.getElem_cons_zero, Act.put, List.setIfInBounds_toArray, List.set_cons_zero, List.set_cons_succ]
          refine wpAnyH_take (i := 9) (v := ?_) rfl (by kernel_rfl) (by kernel_rfl) (by kernel_rfl) (fun _ _ _ h => h) (Or.inl ⟨by rfl, ?_⟩) (by assumption) ?_
          rotate_left
          · (intro wq hSw; (try dsimp only at hSw); (try simp only [List.getElem_toArray, List.getElem_cons_succ, List.getElem_cons_zero]); go_simp); try with_reducible rfl
          try simp only [List.getElem_toArray, List.getElem_cons_succ, List.getElem_cons_zero, Act.put, List.setIfInBounds_toArray, List.set_cons_zero, List.set_cons_succ]
          refine wpAnyH_take (i := 10) (v := ?_) rfl (by kernel_rfl) (by kernel_rfl) (by kernel_rfl) (fun _ _ _ h => h) (Or.inl ⟨by rfl, ?_⟩) (by assumption) ?_
          rotate_left
          · (intro wq hSw; (try dsimp only at hSw); (try simp only [List.getElem_toArray, List.getElem_cons_succ, List.getElem_cons_zero]); go_simp); try with_reducible rfl
          try simp only [List.getElem_toArray, List.getElem_cons_succ, List.getElem_cons_zero, Act.put, List.setIfInBounds_toArray, List.set_cons_zero, List.set_cons_succ]
          refine wpAnyH_ready (rs := [11]) (by kernel_rfl) (by simp) ?_
          refine AllReadyH.cons rfl (fun K hK => ?_) AllReadyH.nil
          try simp only [List.getElem_toArray, List.getElem_cons_succ, List.getElem_cons_zero]
          go_simp
          refine hK.out _ _ (by trivial) (fun hHeld => ?_)
          clear hK K
          try simp only [List.getElem_toArray, List.getElem_cons_succ, List.getElem_cons_zero, Act.put, List.setIfInBounds_toArray, List.set_cons_zero, List.set_cons_succ]
          refine wpAnyH_done (by kernel_rfl) ?_ _
          go_wp2_with fail
          obtain ⟨U', Fs', A3, hU3, hK3⟩ := (A.out.below T3.out).push D3.out (fun b hf hu => by have h1 := hF3.out b hf; have h2 := A.out.lt b hu; simp only [World.size_drew] at h1; omega) u11.ok hlt11 own11 hat11
          have hsz := K.out.size
          have hs2 := T3.out.size
          refine ⟨⟨i + 1, U', _, Fs', ps2 ++ [p'], by omega, by go_num, Lib.hid (by rw [HTK.out]; exact A3), Lib.hid (fun b hb => ?_), Lib.hid (K.out.trans ((T3.out.mono hsz).trans (hK3.below (by omega) hU.out)))⟩, by simp [intOf]; omega⟩
          by_cases hblt : b < w3.heap.size
          · rcases hU3 b hb hblt with h | h
            · exact hU.out b h
            · have h1 := hF3.out b h
              simp only [World.size_drew] at h1
              omega
          · omega
    · obtain rfl : i = sts.length := by omega
      have h1 : ¬ (sts.length : Int) < (sts.length : Int) := by omega
      go_wp2_with fail
      go_ret
      rw [List.take_length] at A
      exact ⟨cb, U2, rfl, ⟨v2, Fs2, ps2, A.out⟩, hU.out, K.out⟩
end
end Go.Proofs.Ytolmpopjonkfgaa
