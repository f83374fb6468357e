/-
  Lists joined; what a base keeps.
-/
import Derived.Test.YtpibaahiboajhaaLess
import Derived.Deep.DeepMust
set_option linter.unusedSimpArgs false
set_option linter.unusedVariables false
namespace Go.Proofs.Ytpibaahiboajhaa
open Go.RowKit Go.Cib
attribute [local go_sem] cell_set Later.cell Later.frozen Grw.cell Grw.frozen
theorem eq_sl8b (w : World) (p : Option Addr) (n c : Nat) : (binOp .eql 73 (.slice p n c) (.slice none 0 0)).run Try.prog w = .ok (.bool p.isNone) w := Lib.run_eql_slice_nil _ _ _ _ _ _ _ _ (by kernel_rfl : Try.prog.underlying 73 = some (.slice 3))
attribute [local go_sem] eq_sl8b
theorem sl_i : SlTy Try.prog 73 3 (.int .i64 0) 1 8 := ⟨by kernel_rfl, by kernel_rfl, by kernel_rfl, by omega⟩

theorem RdL.take {X : Type} {R : (Nat → Prop) → World → List Value → X → Prop} {s : Nat} {S : Nat → Prop} {w : World} {A : Option Addr} {n : Nat} {xs : List X}
    (h : RdL R s S w A n xs) {k : Nat} (hk : k ≤ n) : RdL R s S w A k (xs.take k) := by
  refine ⟨by rw [List.length_take, h.1]; omega, fun hp => ?_⟩
  obtain ⟨b, o, h1, h2, h3, h4⟩ := h.2 (by omega)
  exact ⟨b, o, h1, h2, h3, fun i x hx => by
    rw [List.getElem?_take] at hx
    split at hx
    · exact h4 i x hx
    · cases hx⟩
theorem RdL.drop {X : Type} {R : (Nat → Prop) → World → List Value → X → Prop} {s : Nat} {S : Nat → Prop} {w : World} {b o : Nat} {n : Nat} {xs : List X}
    (h : RdL R s S w (some ⟨b, o, none⟩) n xs) {k : Nat} (hk : k ≤ n) : RdL R s S w (some ⟨b, o + k * s, none⟩) (n - k) (xs.drop k) := by
  refine ⟨by rw [List.length_drop, h.1], fun hp => ?_⟩
  obtain ⟨b', o', h1, h2, h3, h4⟩ := h.2 (by omega)
  cases h1
  refine ⟨b, o + k * s, rfl, h2, h3, fun i x hx => ?_⟩
  rw [List.getElem?_drop] at hx
  obtain ⟨cs, e1, e2, e3⟩ := h4 (k + i) x hx
  refine ⟨cs, e1, e2, fun j v hj => ?_⟩
  have := e3 j v hj
  rwa [show o + (k + i) * s + j = o + k * s + i * s + j by rw [Nat.add_mul]; omega] at this

set_option maxRecDepth 100000 in
theorem cloneI_any {S : Nat → Prop} {w : World} {A : Option Addr} {m c : Nat} {xs : List Int} (R : Hid (RdL IntR 1 S w A m xs)) (hm : m ≤ 1000000) :
    Calls Try.prog 129 #[.slice A m c] w fun e w' => ∃ A' c', e = .returned (.slice A' m c') ∧ RdL IntR 1 (w.heap.size ≤ ·) w' A' m xs ∧ Below w.heap.size w w' := by
  cases A with
  | none =>
    have hm0 : m = 0 := by
      rcases Nat.eq_zero_or_pos m with h | h
      · exact h
      · obtain ⟨b, o, hA, _⟩ := R.out.addr h; cases hA
    subst hm0
    have hx := R.out.1
    have : xs = [] := List.length_eq_zero_iff.1 hx
    subst this
    go_enter Try.func129, Try.ntmps129
    go_wp2_with fail
    go_ret
    exact ⟨none, 0, rfl, RdL.nil, Below.refl _ _⟩
  | some p =>
    go_enter Try.func129, Try.ntmps129
    have hA := Lib.hid (R.out.alloc IntR.stable (.cells #[] 3))
    go_wp2_with (at_builtin; refine wpList_appL IntR.stable IntR.one sl_i rfl (by exact rfl) (base := w.heap.size) (S := fun _ => True) (n := 0) (xs := []) (by exact rfl) (OwnL.made #[] 0 (Nat.le_refl _) (by unfold maxLen; omega) rfl) (by exact rfl) hA.out (fun _ _ h => h) (by unfold maxLen; omega) (by omega) (by simp only [World.size_alloc]; omega) ?_; intro A' c' w' hc hown hg hat)
    have hb : Below w.heap.size w w' := ((Below.refl _ _).alloc (Nat.le_refl _) _).grown hg (by simp only [World.size_alloc]; omega) (fun k hk => by simp only [Value.ownBlock, Option.some.injEq] at hk; omega)
    rw [Nat.zero_add, List.nil_append] at hown
    obtain ⟨A2, c2, hv, hc2, hrd⟩ := hown.rd (S' := fun b => w.heap.size ≤ b) (fun b hb => hb) (fun cs x hx => hx)
    simp only [Value.slice.injEq] at hv
    obtain ⟨rfl, _, rfl⟩ := hv
    clear hA hown hg hat
    go_ret
    exact ⟨A', c', rfl, hrd, hb⟩

/-! ### Lists joined -/
def FdsR (S : Nat → Prop) (w : World) (cs : List Value) (x : List Fd) : Prop := ∃ A m c, cs = [.slice A m c] ∧ RdL FdR 6 S w A m x
theorem FdsR.stable : Stable FdsR := by
  rintro S S' w w' cs e ⟨A, m, c, rfl, h⟩ hk
  exact ⟨A, m, c, rfl, h.stable FdR.stable hk⟩
theorem fds_at {S : Nat → Prop} {w : World} {A : Option Addr} {m : Nat} {xs : List (List Fd)} (h : RdL FdsR 1 S w A m xs) {i : Nat} (hi : i < m) : ∃ b o x A' m' c', A = some ⟨b, o, none⟩ ∧ xs[i]? = some x ∧ b < w.heap.size ∧ S b ∧ w.cell? ⟨b, o + i, none⟩ = some (.slice A' m' c') ∧ RdL FdR 6 S w A' m' x := by
  obtain ⟨b, o, rfl, hS, hlt⟩ := h.addr hi
  obtain ⟨hl, cs, h1, h2, h3⟩ := h.at hi
  obtain ⟨A', m', c', rfl, hr⟩ := h2
  refine ⟨b, o, xs[i], A', m', c', rfl, by simp [hl], hlt, hS, ?_, hr⟩
  simpa using h3 0 _ rfl
/-- The first i lists, one behind the other. -/
def accF (xs : List (List Fd)) (i : Nat) : List Fd := (xs.take i).flatten
theorem flat_take {xs : List (List Fd)} {i : Nat} {x : List Fd} (h : xs[i]? = some x) : accF xs (i + 1) = accF xs i ++ x := by
  unfold accF
  rw [take_snoc h, List.flatten_append]; simp
theorem flat_le (xs : List (List Fd)) (i : Nat) : (accF xs i).length ≤ xs.flatten.length := by
  unfold accF
  have h := congrArg List.length (congrArg List.flatten (List.take_append_drop i xs))
  rw [List.flatten_append, List.length_append] at h
  omega
set_option maxRecDepth 100000 in
set_option maxHeartbeats 4000000 in
theorem joined_any {S : Nat → Prop} {w : World} {A : Option Addr} {m c : Nat} {xs : List (List Fd)} (R : Hid (RdL FdsR 1 S w A m xs)) (hm : xs.flatten.length ≤ 1000000) (hm2 : m ≤ 1000) :
    Calls Try.prog 98 #[.slice A m c] w fun e w' => ∃ A' c', e = .returned (.slice A' xs.flatten.length c') ∧ xs.flatten.length ≤ c' ∧ RdL FdR 6 (fun b => S b ∨ w.heap.size ≤ b) w' A' xs.flatten.length xs.flatten ∧ Below w.heap.size w w' := by
  have hlen : xs.length = m := R.out.1
  have hacc : accF xs m = xs.flatten := by unfold accF; rw [List.take_of_length_le (by omega)]
  have hle0 := flat_le xs
  obtain ⟨F, hF⟩ : ∃ F, xs.flatten = F := ⟨_, rfl⟩
  rw [hF] at hm hle0 hacc ⊢
  have HACC := Lib.hid hacc
  clear hacc hF
  replace R : Hid (RdL FdsR 1 (fun b => S b ∧ b < w.heap.size) w A m xs) := Lib.hid (R.out.stable FdsR.stable (fun b hb hlt => ⟨⟨hb, hlt⟩, rfl⟩))
  go_enter Try.func98, Try.ntmps98
  go_wp2_with fail
  go_loopw [3, 8] (fun out vi wr => ∃ i : Nat, i ≤ m ∧ vi = .int .i64 i ∧ Hid (OwnL FdR 82 6 w.heap.size (fun b => S b ∧ b < w.heap.size) wr out (accF xs i).length (accF xs i)) ∧ Hid (Below w.heap.size w wr)) (fun _ vi _ => m - (intOf vi).toNat)
  case atStart => exact ⟨0, Nat.zero_le _, rfl, Lib.hid OwnL.nil_, Lib.hid (Below.refl _ _)⟩
  case round =>
    obtain ⟨wo, rfl⟩ : ∃ wo, wo = wr := ⟨_, rfl⟩
    obtain ⟨i, hi, rfl, HO, HT⟩ := hrel
    obtain ⟨Ao, co, rfl⟩ := ownL_form HO.out
    by_cases hlt : i < m
    · have q1 : (i : Int) < (m : Int) := by omega
      have q2 : (0 : Int) ≤ (i : Int) := Int.natCast_nonneg _
      obtain ⟨g, og, x, A1, m1, c1, rfl, hx, hg, _, px, hr⟩ := fds_at (R.out.below FdsR.stable HT.out) hlt
      have hf := flat_take hx
      have hle := hle0 (i + 1)
      rw [hf, List.length_append, hr.1] at hle
      have HF := Lib.hid hf
      obtain ⟨n, hn⟩ : ∃ n, (accF xs i).length = n := ⟨_, rfl⟩
      have HO2 := HO.out
      rw [hn] at HO2 hle ⊢
      have HN := Lib.hid hn
      have hs := HT.out.size
      have hlx : x.length = m1 := hr.1
      have hrest : ∀ cs y, FdR (fun b => S b ∧ b < w.heap.size) wo cs y → FdR (Go.Cib.Rest (fun b => S b ∧ b < w.heap.size) (.slice Ao n co)) wo cs y := fun cs y hy => FdR.stable _ _ _ _ _ _ hy fun b hb _ => ⟨⟨hb, fun e => by have := (HO2.lt _ e.symm).1; omega⟩, rfl⟩
      clear hf hn hx
      go_wp2_with (at_builtin; refine wpList_appL FdR.stable FdR.one sl_fd rfl (by exact rfl) (by exact rfl) HO2 (by exact rfl) hr hrest (by unfold maxLen; omega) (by omega) (by omega) ?_; intro A3 c3 w3 hc3 hown3 hg3 hat)
      have hb3 : Below w.heap.size w w3 := HT.out.grown hg3 hs (fun k hk => (HO2.lt k hk).1)
      refine ⟨⟨i + 1, by omega, by go_num, ?_, Lib.hid hb3⟩, by simp [intOf]; omega⟩
      rw [HF.out, List.length_append, HN.out, hlx]
      exact Lib.hid hown3
    · obtain rfl : i = m := by omega
      have q1 : ¬ (i : Int) < (i : Int) := by omega
      obtain ⟨A2, c2, hv, hc, hrd⟩ := HO.out.rd (S' := fun b => S b ∨ w.heap.size ≤ b) (fun b hb => .inr hb) (fun cs x hx => FdR.stable _ _ _ _ _ _ hx fun b hb _ => ⟨.inl hb.1.1, rfl⟩)
      simp only [Value.slice.injEq] at hv
      obtain ⟨rfl, _, rfl⟩ := hv
      rw [HACC.out] at hrd hc ⊢
      have HR := Lib.hid hrd
      have HC := Lib.hid hc
      clear hrd hc
      go_wp2_with fail
      go_ret
      exact ⟨Ao, co, rfl, HC.out, HR.out, HT.out⟩
end Go.Proofs.Ytpibaahiboajhaa
