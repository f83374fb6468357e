/-
  Drives side by side: one drive.
-/
import Derived.Test.YtolmpopjonkfgaaArr1
set_option linter.unusedSimpArgs false
set_option linter.unusedVariables false
namespace Go.Proofs.Ytolmpopjonkfgaa
open Go.RowKit Go.Cib
attribute [local go_sem] cell_set Later.cell Later.frozen Grw.cell Grw.frozen

section
variable {U : Nat → Prop} {w : World} {a s : Nat} {v : Value} {Fs : Nat → Nat → Prop} {ps : List Nat} {sts : List DSt}
set_option maxRecDepth 100000 in
theorem anone (h : Hid (ArrB U w a v Fs ps s sts)) (hk : 0 < sts.length) :
    Calls Try.prog 74 #[.pointer (some ⟨a, 0, none⟩)] w fun e w' => e = .returned (.bool false) ∧ Below w.heap.size w w' := by
  obtain ⟨A, c, _, c0, _⟩ := arr_cells h.out
  have hk0 : ((sts.length : Int) == 0) = false := by rw [beq_eq_false_iff_ne]; omega
  go_enter Try.func74, Try.ntmps74
  go_wp2_with fail
  go_ret
  exact ⟨rfl, Below.refl _ _⟩
set_option maxRecDepth 100000 in
theorem an_any (h : Hid (ArrB U w a v Fs ps s sts)) (hk : 0 < sts.length) :
    Calls Try.prog 51 #[.pointer (some ⟨a, 0, none⟩)] w fun e w' => e = .returned (.int .i64 sts.length) ∧ Below w.heap.size w w' := by
  go_enter Try.func51, Try.ntmps51
  go_wp2_with fail
  refine (anone h hk).mono ?_
  rintro e w1 ⟨rfl, t1⟩
  obtain ⟨A, c, _, c0, _⟩ := arr_cells (h.out.below t1)
  go_wp2_with fail
  go_ret
  exact ⟨rfl, t1⟩
set_option maxRecDepth 100000 in
theorem aat_in (h : Hid (ArrB U w a v Fs ps s sts)) (d : Nat) (hd : d < sts.length) {p : Nat} (hp : ps[d]? = some p) :
    Calls Try.prog 77 #[.pointer (some ⟨a, 0, none⟩), .int .i64 d] w fun e w' => e = .returned (.pointer (some ⟨p, 0, none⟩)) ∧ Below w.heap.size w w' := by
  have h0 : (0 : Int) ≤ (d : Int) := Int.natCast_nonneg _
  have h1 : (d : Int) < (sts.length : Int) := by omega
  go_enter Try.func77, Try.ntmps77
  go_wp2_with fail
  refine (anone h (by omega)).mono ?_
  rintro e w1 ⟨rfl, t1⟩
  obtain ⟨A, c, _, c0, hc⟩ := arr_cells (h.out.below t1)
  obtain ⟨g, p', st, rfl, hp', hst, cg, _⟩ := hc d hd
  obtain rfl : p' = p := by rw [hp] at hp'; injection hp' with hp'; exact hp'.symm
  clear hc hst
  go_wp2_with fail
  go_ret
  exact ⟨rfl, t1⟩
set_option maxRecDepth 100000 in
theorem aat_out (h : Hid (ArrB U w a v Fs ps s sts)) (hk : 0 < sts.length) (d : Int) (hd : ¬ (0 ≤ d ∧ d < sts.length)) :
    Calls Try.prog 77 #[.pointer (some ⟨a, 0, none⟩), .int .i64 d] w fun e w' => e = .returned (.pointer none) ∧ Below w.heap.size w w' := by
  by_cases h0 : d < 0
  · have d0 : decide (d < 0) = true := by simpa using h0
    clear hd
    go_enter Try.func77, Try.ntmps77
    go_wp2_with fail
    refine (anone h hk).mono ?_
    rintro e w1 ⟨rfl, t1⟩
    go_wp2_with fail
    go_ret
    exact ⟨rfl, t1⟩
  · have d0 : decide (d < 0) = false := by simpa using h0
    have d1 : decide ((sts.length : Int) ≤ d) = true := by simp; omega
    clear hd
    go_enter Try.func77, Try.ntmps77
    go_wp2_with fail
    refine (anone h hk).mono ?_
    rintro e w1 ⟨rfl, t1⟩
    obtain ⟨A, c, _, c0, _⟩ := arr_cells (h.out.below t1)
    go_wp2_with fail
    go_ret
    exact ⟨rfl, t1⟩
set_option maxRecDepth 100000 in
theorem areach_in (h : Hid (ArrB U w a v Fs ps s sts)) (d : Nat) (hd : d < sts.length) {p : Nat} (hp : ps[d]? = some p) :
    Calls Try.prog 78 #[.pointer (some ⟨a, 0, none⟩), .int .i64 d] w fun e w' => e = .returned (.tuple #[.pointer (some ⟨p, 0, none⟩), .int .i64 0]) ∧ Below w.heap.size w w' := by
  go_enter Try.func78, Try.ntmps78
  go_wp2_with fail
  refine (anone h (by omega)).mono ?_
  rintro e w1 ⟨rfl, t1⟩
  have H1 := Lib.hid (h.out.below t1)
  go_wp2_with fail
  refine (aat_in H1 d hd hp).mono ?_
  rintro e w2 ⟨rfl, t2⟩
  go_wp2_with fail
  go_ret2
  exact ⟨rfl, t1.trans (t2.mono t1.size)⟩
set_option maxRecDepth 100000 in
theorem areach_out (h : Hid (ArrB U w a v Fs ps s sts)) (hk : 0 < sts.length) (d : Int) (hd : ¬ (0 ≤ d ∧ d < sts.length)) :
    Calls Try.prog 78 #[.pointer (some ⟨a, 0, none⟩), .int .i64 d] w fun e w' => e = .returned (.tuple #[.pointer none, .int .i64 2]) ∧ Below w.heap.size w w' := by
  go_enter Try.func78, Try.ntmps78
  go_wp2_with fail
  refine (anone h hk).mono ?_
  rintro e w1 ⟨rfl, t1⟩
  have H1 := Lib.hid (h.out.below t1)
  go_wp2_with fail
  refine (aat_out H1 hk d hd).mono ?_
  rintro e w2 ⟨rfl, t2⟩
  go_wp2_with fail
  go_ret2
  exact ⟨rfl, t1.trans (t2.mono t1.size)⟩

/-- What a drive reads at z, or nothing. -/
def readL (st : DSt) (n : Nat) (z : Int) : List Int := if readyE st.dead n z = 0 then st.seen z.toNat else []
theorem read_whole {F : Nat → Prop} {p n : Nat} {st : DSt} (h : Hid (DrvAt F w p n st)) (z : Int) :
    Calls Try.prog 14 #[.pointer (some ⟨p, 0, none⟩), .int .i64 z] w fun e w' => ∃ A m c, e = .returned (.tuple #[.slice A m c, .int .i64 (readyE st.dead n z)]) ∧ RdL U8R 1 (w.heap.size ≤ ·) w' A m (readL st n z) ∧ Below w.heap.size w w' := by
  by_cases hz : readyE st.dead n z = 0
  · obtain ⟨hd, h0, hn⟩ := (ready_iff st n z).1 hz
    obtain ⟨k, rfl⟩ : ∃ k : Nat, z = k := ⟨z.toNat, by omega⟩
    refine (read_at h hd k (by omega)).mono ?_
    rintro e w' ⟨b, o, rfl, h1, h2, hr, hb⟩
    refine ⟨_, _, _, by rw [hz], ?_, hb⟩
    unfold readL
    rw [if_pos hz]
    exact hr.weaken U8R.stable (by rintro k rfl; exact h1)
  · refine (read_bad h z hz).mono ?_
    rintro e w' ⟨rfl, hb⟩
    refine ⟨_, _, _, rfl, ?_, hb⟩
    unfold readL
    rw [if_neg hz]
    exact RdL.nil
set_option maxRecDepth 100000 in
theorem aread_in (h : Hid (ArrB U w a v Fs ps s sts)) (d : Nat) {st : DSt} (hst : sts[d]? = some st) (z : Int) :
    Calls Try.prog 43 #[.pointer (some ⟨a, 0, none⟩), .int .i64 d, .int .i64 z] w fun e w' => ∃ A m c, e = .returned (.tuple #[.slice A m c, .int .i64 (readyE st.dead s z)]) ∧ RdL U8R 1 (w.heap.size ≤ ·) w' A m (readL st s z) ∧ Below w.heap.size w w' := by
  have hd : d < sts.length := (List.getElem?_eq_some_iff.1 hst).1
  have hp : ps[d]? = some (ps[d]'(by rw [← h.out.len]; exact hd)) := List.getElem?_eq_getElem _
  go_enter Try.func43, Try.ntmps43
  go_wp2_with fail
  refine (areach_in h d hd hp).mono ?_
  rintro e w1 ⟨rfl, t1⟩
  have D1 := Lib.hid ((h.out.drv d _ _ hp hst).below t1)
  have T1 := Lib.hid t1
  have s1 := t1.size
  clear t1
  go_wp2_with fail
  refine (read_whole D1 z).mono ?_
  rintro e w2 ⟨A, m, c, rfl, r2, t2⟩
  have R2 := Lib.hid r2
  clear r2
  go_wp2_with fail
  go_ret2
  exact ⟨A, m, c, rfl, R2.out.weaken U8R.stable (fun k hk => Nat.le_trans s1 hk), T1.out.trans (t2.mono s1)⟩
end
end Go.Proofs.Ytolmpopjonkfgaa
