/-
  Starts that see each version.
-/
import Derived.Test.YtpibaahiboajhaaChain5
set_option linter.unusedSimpArgs false
set_option linter.unusedVariables false
namespace Go.Proofs.Ytpibaahiboajhaa
open Go.RowKit Go.Cib
attribute [local go_sem] cell_set Later.cell Later.frozen Grw.cell Grw.frozen

theorem sl_u64 : SlTy Try.prog 38 22 (.int .u64 0) 1 8 := ⟨by kernel_rfl, by kernel_rfl, by kernel_rfl, by omega⟩
set_option maxRecDepth 100000 in
set_option maxHeartbeats 2000000 in
theorem everything_any {S : Nat → Prop} {l : List Ver} (A : Option Addr) (n c : Nat) (w : World) (hn : n ≤ 4194303) (hr : Hid (RdL VerR 5 S w A n l)) :
    Calls Try.prog 80 #[.slice A n c] w fun e w' => ∃ A' c', e = .returned (.slice A' (n + 1) c') ∧ RdL U64R 1 (w.heap.size ≤ ·) w' A' (n + 1) (0 :: l.map (·.stamp)) ∧ n + 1 ≤ c' ∧ Below w.heap.size w w' := by
  have hw1 : IntKind.i64.wrap ((n : Int) + 1) = ((n + 1 : Nat) : Int) := by rw [IntKind.wrap_i64]; omega
  have hw2 : ((n + 1 : Nat) : Int) = (n : Int) + 1 := by omega
  have hw3 : IntKind.i64.wrap ((n : Int) + 1) = (n : Int) + 1 := by rw [IntKind.wrap_i64]; omega
  clear hw1 hw2
  go_enter Try.func80, Try.ntmps80
  go_wp2_with (first
    | (refine wpList_make0 U64R (fun b => w.heap.size ≤ b) sl_u64 rfl rfl (base := w.heap.size) rfl rfl (n + 1) (by omega) (by omega) (by unfold maxLen; omega) (by (first | (with_reducible exact Nat.le_refl _) | omega | (simp only [World.size_alloc, World.size_setCell, World.size_drew] <;> omega))) ?_; intro y hys hown; have hyb : Below w.heap.size w y.to := y.ok)
    | (at_builtin; refine wpList_push1 U64R.stable U64R.one sl_u64 rfl rfl (by exact rfl) (by exact rfl) hown (y := 0) rfl rfl (by unfold maxLen; omega) (by omega) hyb.size ?_; intro A3 c3 u hc3 hown3 hus hub hat))
  have hwu : Below w.heap.size w u.to := hyb.trans hub
  clear hat hub hown hys hyb
  obtain ⟨q, hq⟩ := Later.ex hwu
  rw [hq] at hown3 ⊢
  clear hq hus hwu u
  simp only [Nat.zero_add, List.nil_append] at hown3 hc3
  have HRL := Lib.hid hr.out.1
  go_wp2_with fail
  go_loopw [3, 15] (fun out vi wr => ∃ (k : Nat) (A' : Option Addr) (c' : Nat), k ≤ n ∧ vi = .int .i64 k ∧ out = .slice A' (k + 1) c' ∧ k + 1 ≤ c' ∧ Below w.heap.size w wr ∧ OwnL U64R 22 1 w.heap.size (fun b => w.heap.size ≤ b) wr (.slice A' (k + 1) c') (k + 1) (0 :: (l.take k).map (·.stamp))) (fun _ vi _ => n - (intOf vi).toNat)
  case atStart => exact ⟨0, A3, c3, Nat.zero_le _, rfl, rfl, hc3, q.ok, hown3⟩
  case round =>
    clear hown3 hc3
    obtain ⟨k, A3, c3, hk, rfl, rfl, hc3, hb, hown⟩ := hrel
    obtain ⟨y, rfl⟩ := Later.ex hb
    have hyb := y.ok.size
    by_cases hlt : k < n
    · obtain ⟨b, o, rfl, hS, hb0⟩ := hr.out.addr hlt
      obtain ⟨v, A1, m1, c1, hx, hmc, hpl, e0, e1, e2, e3, e4⟩ := vers_at hr.out hlt
      have HX := Lib.hid hx
      have hb1 : b < y.to.heap.size := by omega
      have hb2 : b ≤ y.to.heap.size := by omega
      have hown2 := hown.alloc U64R.stable (.cells #[.int .u64 v.stamp, .bool v.dead, .slice A1 m1 c1, .int .u64 v.blob.gen, .int .i64 v.blob.size] 77)
      have hyb2 : Below w.heap.size w (y.to.alloc (.cells #[.int .u64 v.stamp, .bool v.dead, .slice A1 m1 c1, .int .u64 v.blob.gen, .int .i64 v.blob.size] 77)) := (by repeat (first | (with_reducible exact Below.refl _ _) | (with_reducible assumption) | (with_reducible refine Below.drew ?_) | (with_reducible refine Below.setCell ?_ ?_ _) | (with_reducible refine Below.alloc ?_ ?_ _) | (with_reducible refine Below.later ?_ ?_ _) | (first | (with_reducible exact Nat.le_refl _) | omega | (simp only [World.size_alloc, World.size_setCell, World.size_drew] <;> omega))))
      have bx := BoxAt.new y.to #[.int .u64 v.stamp, .bool v.dead, .slice A1 m1 c1, .int .u64 v.blob.gen, .int .i64 v.blob.size] 77
      obtain ⟨vb, hvb⟩ : ∃ vb, y.to.heap.size = vb := ⟨_, rfl⟩
      obtain ⟨W2, hW2⟩ : ∃ W2, y.to.alloc (.cells #[.int .u64 v.stamp, .bool v.dead, .slice A1 m1 c1, .int .u64 v.blob.gen, .int .i64 v.blob.size] 77) = W2 := ⟨_, rfl⟩
      rw [hW2] at hown2 hyb2 bx
      rw [hvb] at bx
      have k0 := bx.cell 0
      clear hS hx hpl hown bx
      go_wp2_with (at_builtin; refine wpList_push1 U64R.stable U64R.one sl_u64 rfl rfl (by exact rfl) (by exact rfl) hown2 (y := v.stamp) rfl rfl (by unfold maxLen; omega) (by omega) hyb2.size ?_; intro A3 c3 u hc3 hown3 hus hub hat)
      refine ⟨⟨k + 1, A3, c3, by omega, by go_num, rfl, hc3, hyb2.trans hub, ?_⟩, by simp [intOf]; omega⟩
      rw [List.take_add_one, HX.out]
      simpa using hown3
    · have hkn : k = n := by omega
      subst hkn
      obtain ⟨A4, c4, hv, hc4, hrd⟩ := hown.rd (S' := fun b => w.heap.size ≤ b) (fun b hb => hb) (fun cs x hx => hx)
      simp only [Value.slice.injEq] at hv
      obtain ⟨rfl, _, rfl⟩ := hv
      rw [List.take_of_length_le (by rw [HRL.out]; exact Nat.le_refl _)] at hrd
      have HR := Lib.hid hrd
      clear hown hrd
      go_wp2_with fail
      go_ret
      exact ⟨A3, c3, rfl, HR.out, hc3, y.ok⟩
/-- What sees each version keeps each. -/
theorem findIdx_stamp {l : List Ver} (hr : rightL l = true) {i : Nat} (hi : i < l.length) : seenIdx l l[i].stamp = i := by
  have hlt : seenIdx l l[i].stamp < l.length := by
    unfold seenIdx
    exact List.findIdx_lt_length.2 ⟨l[i], List.getElem_mem _, by simp⟩
  have hle : seenIdx l l[i].stamp ≤ i := by
    rcases Nat.lt_or_ge i (seenIdx l l[i].stamp) with h | h
    · have h1 := List.not_of_lt_findIdx (xs := l) (p := fun v : Ver => decide (v.stamp ≤ l[i].stamp)) h
      simp at h1
    · exact h
  rcases Nat.eq_or_lt_of_le hle with h | h
  · exact h
  · exfalso
    have h1 := List.findIdx_getElem (xs := l) (p := fun v : Ver => decide (v.stamp ≤ l[i].stamp)) (w := hlt)
    have h2 := stamps_fall hr (i - seenIdx l l[i].stamp) (seenIdx l l[i].stamp) (by omega) (by omega)
    rw [show seenIdx l l[i].stamp + (i - seenIdx l l[i].stamp) = i by omega] at h2
    rw [List.getD_eq_getElem?_getD, List.getElem?_eq_getElem hi, List.getD_eq_getElem?_getD, List.getElem?_eq_getElem hlt] at h2
    simp only [decide_eq_true_eq] at h1
    simp only [Option.getD_some] at h2
    have h3 : l[seenIdx l l[i].stamp].stamp ≤ l[i].stamp := h1
    omega
theorem seen_mono {l : List Ver} {k : Int} : ∀ (starts : List Int) (es : List (Int × Value)), (mlook es k).isSome = true → (mlook (starts.foldl (seenStep l) es) k).isSome = true
  | [], es, h => h
  | s :: r, es, h => by
    refine seen_mono r _ ?_
    unfold seenStep
    split
    · rw [look_put]
      split
      · rfl
      · exact h
    · exact h
theorem seen_hit {l : List Ver} : ∀ (starts : List Int) (es : List (Int × Value)) (s : Int), s ∈ starts → seenIdx l s < l.length → (mlook (starts.foldl (seenStep l) es) (seenIdx l s : Int)).isSome = true
  | [], _, s, h, _ => by cases h
  | t :: r, es, s, h, hl => by
    rcases List.mem_cons.1 h with rfl | h
    · refine seen_mono r _ ?_
      unfold seenStep
      rw [if_pos hl, look_put, if_pos rfl]; rfl
    · exact seen_hit r _ s h hl
theorem sel_all (p : Nat → Bool) : ∀ (l : List Ver) (i : Nat), (∀ j, j < l.length → p (i + j) = true) → sel p i l = l
  | [], _, _ => rfl
  | v :: r, i, h => by
    have h0 := h 0 (by simp)
    unfold sel
    rw [if_pos (by simpa using h0), sel_all p r (i + 1) (fun j hj => by
      have := h (j + 1) (by simpa using hj)
      rwa [show i + 1 + j = i + (j + 1) by omega])]
theorem keeps_all {l : List Ver} (hr : rightL l = true) (hp : ∀ v ∈ l, 0 < v.stamp) : sel (keepP l (0 :: l.map (·.stamp))) 0 l = l := by
  refine sel_all _ l 0 (fun j hj => ?_)
  rw [Nat.zero_add]
  have h1 : (mlook (seenEs l (0 :: l.map (·.stamp))) (j : Int)).isSome = true := by
    have := seen_hit (l := l) (0 :: l.map (·.stamp)) [(0, .bool true)] l[j].stamp (List.mem_cons_of_mem _ (List.mem_map.2 ⟨l[j], List.getElem_mem _, rfl⟩)) (by rw [findIdx_stamp hr hj]; exact hj)
    rw [findIdx_stamp hr hj] at this
    exact this
  have h2 : noneB l (0 :: l.map (·.stamp)) = false := by
    unfold noneB goneL
    match l, hp with
    | [], _ => simp
    | v :: r, hp =>
      have := hp v (List.mem_cons_self ..)
      simp [this]
  unfold keepP
  rw [h1, h2, hr]; rfl
end Go.Proofs.Ytpibaahiboajhaa
