/-
  What the laws need of the states, of bytes as text, and the example of the page.
-/
import Derived.Test.YtolmpopjonkfgaaDrvN
import Derived.Laws.BytesArg
set_option linter.unusedSimpArgs false
set_option linter.unusedVariables false
namespace Go.Proofs.Ytolmpopjonkfgaa
open Go.RowKit Go.Cib
attribute [local go_sem] cell_set Later.cell Later.frozen Grw.cell Grw.frozen

/-! ### States -/
def rep (z : Int) : List Int := List.replicate 64 z
theorem rep_len (z : Int) : (rep z).length = 64 := by simp [rep]
theorem putL_true : ∀ (c : List (Int × List Int)) (i : Nat) (xs : List (List Int)) (k : Nat), (∀ p ∈ c, 0 ≤ p.1) → k < xs.length →
    (putL (fun _ => true) i c xs)[k]? = (match lastIx c k with | some j => (c[j]?).map (·.2) | none => xs[k]?)
  | [], i, xs, k, _, _ => by simp [putL, lastIx]
  | p :: c, i, xs, k, hc, hk => by
    rw [putL, putL_true c (i + 1) _ k (fun q hq => hc q (List.mem_cons_of_mem _ hq)) (by simpa using hk), lastIx]
    cases h : lastIx c k with
    | some j => simp
    | none =>
      have h0 := hc p (by simp)
      simp only [↓reduceIte]
      by_cases hpk : p.1 = k
      · have : p.1.toNat = k := by omega
        simp [hpk, this, hk]
      · have : p.1.toNat ≠ k := by omega
        simp [hpk, List.getElem?_set_ne this]
theorem DSt.ok.seen_flush {st : DSt} {n : Nat} (h : st.ok n) {k : Nat} (hk : k < n) : (st.settle fun _ => true).seen k = st.seen k := by
  have h1 := putL_true st.cache 0 st.stored k (fun p hp => (h.cat p hp).1) (by rw [h.sl]; exact hk)
  unfold DSt.seen
  have h2 : lastIx (st.settle fun _ => true).cache k = none := rfl
  rw [h2]
  show ((putL (fun _ => true) 0 st.cache st.stored)[k]?).getD [] = _
  rw [h1]
  cases lastIx st.cache k <;> rfl
theorem DSt.seen_nil {st : DSt} (h : st.cache = []) (k : Nat) : st.seen k = (st.stored[k]?).getD [] := by
  unfold DSt.seen; rw [h]; rfl
theorem DSt.seen_settle (st : DSt) (keep : Nat → Bool) (k : Nat) : (st.settle keep).seen k = ((putL keep 0 st.cache st.stored)[k]?).getD [] := rfl
theorem DSt.seen_new {n k : Nat} (hk : k < n) : (DSt.new n).seen k = rep 0 := by
  rw [DSt.seen_nil rfl]; simp [DSt.new, hk, rep]

/-! ### Bytes as text -/
theorem conv_run {S : Nat → Prop} {w : World} {A : Option Addr} {n c : Nat} {bs : List Int} (h : RdL U8R 1 S w A n bs) (hn : 0 < n) : (convert 27 9 (.slice A n c)).run Try.prog w = .ok (.string (strOfNums bs)) w := by
  obtain ⟨b, o, rfl, _, _⟩ := h.addr hn
  refine run_convert_bytes_arg w _ 5 (by kernel_rfl) (by kernel_rfl) b o n c bs h.1 (fun i hi => ?_) _ (by kernel_rfl)
  have hr := u8_range h
  have := hr i (.int .u8 (bs[i]'(by rw [h.1]; exact hi))) (by simp [secCells, h.1, hi])
  rw [this]
  simp [List.getD, h.1, hi]
theorem u8_exact {S : Nat → Prop} {w : World} {A : Option Addr} {n : Nat} {bs : List Int} (h : RdL U8R 1 S w A n bs) (hn : 0 < n) : ∃ b o, A = some ⟨b, o, none⟩ ∧ S b ∧ b < w.heap.size ∧ RdL U8R 1 (· = b) w (some ⟨b, o, none⟩) n bs := by
  obtain ⟨b, o, hA, hS, hlt, hc⟩ := h.2 hn
  exact ⟨b, o, hA, hS, hlt, h.1, fun _ => ⟨b, o, rfl, rfl, hlt, hc⟩⟩
theorem read_at {F : Nat → Prop} {w : World} {p n : Nat} {st : DSt} (h : Hid (DrvAt F w p n st)) (hd : st.dead = false) (z : Nat) (hz : z < n) :
    Calls Try.prog 14 #[.pointer (some ⟨p, 0, none⟩), .int .i64 z] w fun e w' => ∃ b o, e = .returned (.tuple #[.slice (some ⟨b, o, none⟩) 64 64, .int .i64 0]) ∧ w.heap.size ≤ b ∧ b < w'.heap.size ∧ RdL U8R 1 (· = b) w' (some ⟨b, o, none⟩) 64 (st.seen z) ∧ Below w.heap.size w w' := by
  refine (read_good h hd z hz).mono ?_
  rintro e w' ⟨A, rfl, hr, hb⟩
  obtain ⟨b, o, rfl, h1, h2, h3⟩ := u8_exact hr (by omega)
  exact ⟨b, o, rfl, h1, h2, h3, hb⟩
theorem full_at (z : Int) (w : World) :
    Calls Try.prog 13 #[.int .u8 z] w fun e w' => ∃ b o, e = .returned (.slice (some ⟨b, o, none⟩) 64 64) ∧ w.heap.size ≤ b ∧ b < w'.heap.size ∧ RdL U8R 1 (· = b) w' (some ⟨b, o, none⟩) 64 (rep z) ∧ Below w.heap.size w w' := by
  refine (full_any z w).mono ?_
  rintro e w' ⟨A, rfl, hr, hb⟩
  obtain ⟨b, o, rfl, h1, h2, h3⟩ := u8_exact hr (by omega)
  exact ⟨b, o, rfl, h1, h2, h3, hb⟩
theorem rd_keep {F : Nat → Prop} {w w' : World} {b o n : Nat} {bs : List Int} (h : RdL U8R 1 (· = b) w (some ⟨b, o, none⟩) n bs) (hk : Keep F w w') (hb : ¬ F b) : RdL U8R 1 (· = b) w' (some ⟨b, o, none⟩) n bs := h.keep U8R.stable hk (by rintro c rfl; exact hb)
theorem not_new {F F' : Nat → Prop} {w : World} {b : Nat} (hF : ∀ k, F' k → k < w.heap.size → F k) (hb : b < w.heap.size) (h : ¬ F b) : ¬ F' b := fun h2 => h (hF b h2 hb)

theorem below_then {w0 w1 w2 : World} (h2 : Below w1.heap.size w1 w2) (h1 : Below w0.heap.size w0 w1) : Below w0.heap.size w0 w2 := h1.trans (h2.mono h1.size)
/-- The world as it is in the midst of a law, whose drive is its own. -/
structure Own (w : World) (F : Nat → Prop) (w' : World) : Prop where
  below : Below w.heap.size w w'
  own : ∀ b, F b → w.heap.size ≤ b
theorem Own.later {w w1 w2 : World} {F : Nat → Prop} (h : Own w F w1) (hb : Below w1.heap.size w1 w2) : Own w F w2 := ⟨h.below.trans (hb.mono h.below.size), h.own⟩
theorem Own.upd {w w1 w2 : World} {F F' : Nat → Prop} (h : Own w F w1) (hF : ∀ k, F' k → k < w1.heap.size → F k) (hk : Keep F w1 w2) : Own w F' w2 :=
  ⟨h.below.trans (hk.below h.below.size h.own), fun b hb => by
    by_cases hlt : b < w1.heap.size
    · exact h.own b (hF b hb hlt)
    · have := h.below.size; omega⟩

set_option maxRecDepth 100000 in
set_option maxHeartbeats 4000000 in
theorem stores_any (w : World) : Calls Try.prog 10 #[] w fun e w' => e = .returned (.bool true) ∧ Below w.heap.size w w' := by
  go_enter Try.func10, Try.ntmps10
  go_wp2_with fail
  refine (new_good 2 (by omega) (by omega) w).mono ?_
  rintro e w1 ⟨p, F1, rfl, D1, hF1, t1⟩
  have O1 := Lib.hid (Own.mk t1 hF1)
  go_wp2_with fail
  refine (full_at 7 w1).mono ?_
  rintro e w2 ⟨b2, o2, rfl, l2, l2', R2, t2⟩
  have O2 := Lib.hid (O1.out.later t2)
  have n2 : ¬ F1 b2 := fun h => by have := D1.lt h; omega
  have D2 := Lib.hid (D1.below t2)
  clear O1 D1 hF1 t1 t2
  go_wp2_with fail
  refine (write_good D2 rfl 1 (by omega) (Lib.hid R2) n2 (by simp [DSt.new])).mono ?_
  rintro e w3 ⟨rfl, F3, D3, hF3, k3⟩
  have O3 := Lib.hid (O2.out.upd hF3 k3)
  clear R2 O2 D2 hF3 k3 n2 l2 l2'
  go_wp2_with fail
  refine (crash_any (Lib.hid D3) (by simp [DSt.new, DSt.write]) (S := fun _ => False) (ks := []) (Lib.hid RdL.nil) (fun _ h => h.elim)).mono ?_
  rintro e w4 ⟨rfl, F4, D4, hF4, k4⟩
  have O4 := Lib.hid (O3.out.upd hF4 k4)
  replace D4 : DrvAt F4 w4 p 2 (DSt.new 2) := D4
  have E4 := Lib.hid D4
  clear O3 D3 hF4 k4 D4
  go_wp2_with fail
  refine (read_at E4 rfl 1 (by omega)).mono ?_
  rintro e w5 ⟨b5, o5, rfl, l5, l5', R5, t5⟩
  replace R5 : RdL U8R 1 (· = b5) w5 (some ⟨b5, o5, none⟩) 64 (rep 0) := R5
  have n5 : ¬ F4 b5 := fun h => by have := E4.out.lt h; omega
  have O5 := Lib.hid (O4.out.later t5)
  have E5 := Lib.hid (E4.out.below t5)
  have Q5 := Lib.hid R5
  clear E4 O4 t5 R5 l5
  go_wp2_with fail
  refine (full_at 9 w5).mono ?_
  rintro e w6 ⟨b6, o6, rfl, l6, l6', R6, t6⟩
  have O6 := Lib.hid (O5.out.later t6)
  have n6 : ¬ F4 b6 := fun h => by have := E5.out.lt h; omega
  have E6 := Lib.hid (E5.out.below t6)
  have Q6 := Lib.hid (Q5.out.below U8R.stable t6)
  have m6 : b5 < w6.heap.size := by have := t6.size; omega
  clear E5 O5 t6 Q5 l5' l6 l6'
  go_wp2_with fail
  refine (write_good E6 rfl 1 (by omega) (Lib.hid R6) n6 (by simp [DSt.new])).mono ?_
  rintro e w7 ⟨rfl, F7, D7, hF7, k7⟩
  have O7 := Lib.hid (O6.out.upd hF7 k7)
  have Q7 := Lib.hid (rd_keep Q6.out k7 n5)
  have n7 := not_new hF7 m6 n5
  have m7 : b5 < w7.heap.size := by have := k7.size; omega
  have E7 := Lib.hid D7
  clear D7 hF7 k7 Q6 O6 E6 R6 n6 m6 n5
  go_wp2_with fail
  refine (flush_good E7 rfl (by simp [DSt.new, DSt.write])).mono ?_
  rintro e w8 ⟨rfl, F8, D8, hF8, k8⟩
  have O8 := Lib.hid (O7.out.upd hF8 k8)
  have Q8 := Lib.hid (rd_keep Q7.out k8 n7)
  have n8 := not_new hF8 m7 n7
  have m8 : b5 < w8.heap.size := by have := k8.size; omega
  have E8 := Lib.hid D8
  clear D8 hF8 k8 Q7 O7 E7 n7 m7
  go_wp2_with fail
  refine (crash_any E8 (by simp [DSt.settle]) (S := fun _ => False) (ks := []) (Lib.hid RdL.nil) (fun _ h => h.elim)).mono ?_
  rintro e w9 ⟨rfl, F9, D9, hF9, k9⟩
  have O9 := Lib.hid (O8.out.upd hF9 k9)
  have Q9 := Lib.hid (rd_keep Q8.out k9 n8)
  have E9 := Lib.hid D9
  clear D9 hF9 k9 Q8 O8 E8 n8 m8
  go_wp2_with fail
  refine (read_at E9 rfl 1 (by omega)).mono ?_
  rintro e wA ⟨bA, oA, rfl, lA, lA', RA, tA⟩
  replace RA : RdL U8R 1 (· = bA) wA (some ⟨bA, oA, none⟩) 64 (rep 9) := RA
  have OA := Lib.hid (O9.out.later tA)
  have EA := Lib.hid (E9.out.below tA)
  have QA := Lib.hid RA
  have Q5 := Lib.hid (Q9.out.below U8R.stable tA)
  clear E9 O9 tA RA lA lA' Q9
  go_wp2_with fail
  have c5 : ∀ w', Below wA.heap.size wA w' → (convert 27 9 (.slice (some ⟨b5, o5, none⟩) 64 64)).run Try.prog w' = .ok (.string (strOfNums (rep 0))) w' := fun w' h => conv_run (Q5.out.below U8R.stable h) (by omega)
  have cA : ∀ w', Below wA.heap.size wA w' → (convert 27 9 (.slice (some ⟨bA, oA, none⟩) 64 64)).run Try.prog w' = .ok (.string (strOfNums (rep 9))) w' := fun w' h => conv_run (QA.out.below U8R.stable h) (by omega)
  obtain ⟨xa, xb, xc, xd, xe, xf, xg, HA⟩ := EA.out.box
  clear Q5 QA
  refine wp_region_held_drew (S := (fun w' => Below wA.heap.size wA w')) (by kernel_rfl) (by first | exact (Below.refl _ _).drew | assumption) (fun hHeld => ?_)
  refine wpAnyH_take (i := 0) (v := ?_) rfl (by kernel_rfl) (by kernel_rfl) (by kernel_rfl) (fun _ _ _ h => h) (Or.inl ⟨by rfl, ?_⟩) (by assumption) ?_
  rotate_left
  · (intro wq hSw; (try dsimp only at hSw); (try simp only [List.getElem_toArray, List.getElem_cons_succ, List.getElem_cons_zero]); go_simp); try with_reducible rfl
  try simp only [List.getElem_toArray, List.getElem_cons_succ, List.getElem_cons_zero, Act.put, List.setIfInBounds_toArray, List.set_cons_zero, List.set_cons_succ]
  refine wpAnyH_take (i := 1) (v := ?_) rfl (by kernel_rfl) (by kernel_rfl) (by kernel_rfl) (fun _ _ _ h => h) (Or.inl ⟨by rfl, ?_⟩) (by assumption) ?_
  rotate_left
  · (intro wq hSw; (try dsimp only at hSw); (try simp only [List.getElem_toArray, List.getElem_cons_succ, List.getElem_cons_zero]); go_simp); try with_reducible rfl
  try simp only [List.getElem_toArray, List.getElem_cons_succ, List.getElem_cons_zero, Act.put, List.setIfInBounds_toArray, List.set_cons_zero, List.set_cons_succ]
  refine wpAnyH_take (i := 2) (v := ?_) rfl (by kernel_rfl) (by kernel_rfl) (by kernel_rfl) (fun _ _ _ h => h) (Or.inl ⟨by rfl, ?_⟩) (by assumption) ?_
  rotate_left
  · (intro wq hSw; (try dsimp only at hSw); (try simp only [List.getElem_toArray, List.getElem_cons_succ, List.getElem_cons_zero]); go_simp); try with_reducible rfl
  try simp only [List.getElem_toArray, List.getElem_cons_succ, List.getElem_cons_zero, Act.put, List.setIfInBounds_toArray, List.set_cons_zero, List.set_cons_succ]
  refine wpAnyH_take (i := 3) (v := ?_) rfl (by kernel_rfl) (by kernel_rfl) (by kernel_rfl) (fun _ _ _ h => h) (Or.inl ⟨by rfl, ?_⟩) (by assumption) ?_
  rotate_left
  · (intro wq hSw; (try dsimp only at hSw); (try simp only [List.getElem_toArray, List.getElem_cons_succ, List.getElem_cons_zero]); go_simp); try with_reducible rfl
  try simp only [List.getElem_toArray, List.getElem_cons_succ, List.getElem_cons_zero, Act.put, List.setIfInBounds_toArray, List.set_cons_zero, List.set_cons_succ]
  refine wpAnyH_take (i := 4) (v := ?_) rfl (by kernel_rfl) (by kernel_rfl) (by kernel_rfl) (fun _ _ _ h => h) (Or.inl ⟨by rfl, ?_⟩) (by assumption) ?_
  rotate_left
  · (intro wq hSw; (try dsimp only at hSw); (try simp only [List.getElem_toArray, List.getElem_cons_succ, List.getElem_cons_zero]); go_simp); try with_reducible rfl
  try simp only [List.getElem_toArray, List.getElem_cons_succ, List.getElem_cons_zero, Act.put, List.setIfInBounds_toArray, List.set_cons_zero, List.set_cons_succ]
  refine wpAnyH_take (i := 5) (v := ?_) rfl (by kernel_rfl) (by kernel_rfl) (by kernel_rfl) (fun _ _ _ h => h) (Or.inl ⟨by rfl, ?_⟩) (by assumption) ?_
  rotate_left
  · (intro wq hSw; (try dsimp only at hSw); (try simp only [List.getElem_toArray, List.getElem_cons_succ, List.getElem_cons_zero]); go_simp); try with_reducible rfl
  try simp only [List.getElem_toArray, List.getElem_cons_succ, List.getElem_cons_zero, Act.put, List.setIfInBounds_toArray, List.set_cons_zero, List.set_cons_succ]
  refine wpAnyH_take (i := 6) (v := ?_) rfl (by kernel_rfl) (by kernel_rfl) (by kernel_rfl) (fun _ _ _ h => h) (Or.inl ⟨by rfl, ?_⟩) (by assumption) ?_
  rotate_left
  · (intro wq hSw; (try dsimp only at hSw); (try simp only [List.getElem_toArray, List.getElem_cons_succ, List.getElem_cons_zero]); go_simp); try with_reducible rfl
  try simp only [List.getElem_toArray, List.getElem_cons_succ, List.getElem_cons_zero, Act.put, List.setIfInBounds_toArray, List.set_cons_zero, List.set_cons_succ]
  refine wpAnyH_take (i := 7) (v := ?_) rfl (by kernel_rfl) (by kernel_rfl) (by kernel_rfl) (fun _ _ _ h => h) (Or.inl ⟨by rfl, ?_⟩) (by assumption) ?_
  rotate_left
  · (intro wq hSw; (try dsimp only at hSw); (try simp only [List.getElem_toArray, List.getElem_cons_succ, List.getElem_cons_zero]); go_simp); try with_reducible rfl
  try simp only [List.getElem_toArray, List.getElem_cons_succ, List.getElem_cons_zero, Act.put, List.setIfInBounds_toArray, List.set_cons_zero, List.set_cons_succ]
  refine wpAnyH_take (i := 8) (v := ?_) rfl (by kernel_rfl) (by kernel_rfl) (by kernel_rfl) (fun _ _ _ h => h) (Or.inl ⟨by rfl, ?_⟩) (by assumption) ?_
  rotate_left
  · (intro wq hSw; (try dsimp only at hSw); (try simp only [List.getElem_toArray, List.getElem_cons_succ, List.getElem_cons_zero]); go_simp); try with_reducible rfl
  try simp only [List.getElem_toArray, List.getElem_cons_succ, List.getElem_cons_zero, Act.put, List.setIfInBounds_toArray, List.set_cons_zero, List.set_cons_succ]
  refine wpAnyH_ready (rs := [9]) (by kernel_rfl) (by simp) ?_
  refine AllReadyH.cons rfl (fun K hK => ?_) AllReadyH.nil
  try simp only [List.getElem_toArray, List.getElem_cons_succ, List.getElem_cons_zero]
  go_simp
  go_at_call 13
  refine (full_at _ _).mono ?_
  rintro e wz ⟨bz, oz, rfl, _, _, rz, tz⟩
  have tq := below_then tz (by assumption)
  have cz := conv_run (c := 64) rz (by omega)
  try (go_wp2_with fail)
  refine hK.out _ _ (by first | exact (Below.refl _ _).drew | assumption) (fun hHeld => ?_)
  clear hK K
  try simp only [List.getElem_toArray, List.getElem_cons_succ, List.getElem_cons_zero, Act.put, List.setIfInBounds_toArray, List.set_cons_zero, List.set_cons_succ]
  refine wpAnyH_ready (rs := [10]) (by kernel_rfl) (by simp) ?_
  refine AllReadyH.cons rfl (fun K hK => ?_) AllReadyH.nil
  try simp only [List.getElem_toArray, List.getElem_cons_succ, List.getElem_cons_zero]
  go_simp
  refine hK.out _ _ (by first | exact (Below.refl _ _).drew | assumption) (fun hHeld => ?_)
  clear hK K
  try simp only [List.getElem_toArray, List.getElem_cons_succ, List.getElem_cons_zero, Act.put, List.setIfInBounds_toArray, List.set_cons_zero, List.set_cons_succ]
  refine wpAnyH_take (i := 11) (v := ?_) rfl (by kernel_rfl) (by kernel_rfl) (by kernel_rfl) (fun _ _ _ h => h) (Or.inl ⟨by rfl, ?_⟩) (by assumption) ?_
  rotate_left
  · (intro wq hSw; (try dsimp only at hSw); (try simp only [List.getElem_toArray, List.getElem_cons_succ, List.getElem_cons_zero]); go_simp); try with_reducible rfl
  try simp only [List.getElem_toArray, List.getElem_cons_succ, List.getElem_cons_zero, Act.put, List.setIfInBounds_toArray, List.set_cons_zero, List.set_cons_succ]
  refine wpAnyH_take (i := 12) (v := ?_) rfl (by kernel_rfl) (by kernel_rfl) (by kernel_rfl) (fun _ _ _ h => h) (Or.inl ⟨by rfl, ?_⟩) (by assumption) ?_
  rotate_left
  · (intro wq hSw; (try dsimp only at hSw); (try simp only [List.getElem_toArray, List.getElem_cons_succ, List.getElem_cons_zero]); go_simp); try with_reducible rfl
  try simp only [List.getElem_toArray, List.getElem_cons_succ, List.getElem_cons_zero, Act.put, List.setIfInBounds_toArray, List.set_cons_zero, List.set_cons_succ]
  refine wpAnyH_take (i := 13) (v := ?_) rfl (by kernel_rfl) (by kernel_rfl) (by kernel_rfl) (fun _ _ _ h => h) (Or.inl ⟨by rfl, ?_⟩) (by assumption) ?_
  rotate_left
  · (intro wq hSw; (try dsimp only at hSw); (try simp only [List.getElem_toArray, List.getElem_cons_succ, List.getElem_cons_zero]); go_simp); try with_reducible rfl
  try simp only [List.getElem_toArray, List.getElem_cons_succ, List.getElem_cons_zero, Act.put, List.setIfInBounds_toArray, List.set_cons_zero, List.set_cons_succ]
  refine wpAnyH_take (i := 14) (v := ?_) rfl (by kernel_rfl) (by kernel_rfl) (by kernel_rfl) (fun _ _ _ h => h) (Or.inl ⟨by rfl, ?_⟩) (by assumption) ?_
  rotate_left
  · (intro wq hSw; (try dsimp only at hSw); (try simp only [List.getElem_toArray, List.getElem_cons_succ, List.getElem_cons_zero]); go_simp); try with_reducible rfl
  try simp only [List.getElem_toArray, List.getElem_cons_succ, List.getElem_cons_zero, Act.put, List.setIfInBounds_toArray, List.set_cons_zero, List.set_cons_succ]
  refine wpAnyH_take (i := 15) (v := ?_) rfl (by kernel_rfl) (by kernel_rfl) (by kernel_rfl) (fun _ _ _ h => h) (Or.inl ⟨by rfl, ?_⟩) (by assumption) ?_
  rotate_left
  · (intro wq hSw; (try dsimp only at hSw); (try simp only [List.getElem_toArray, List.getElem_cons_succ, List.getElem_cons_zero]); go_simp); try with_reducible rfl
  try simp only [List.getElem_toArray, List.getElem_cons_succ, List.getElem_cons_zero, Act.put, List.setIfInBounds_toArray, List.set_cons_zero, List.set_cons_succ]
  refine wpAnyH_take (i := 16) (v := ?_) rfl (by kernel_rfl) (by kernel_rfl) (by kernel_rfl) (fun _ _ _ h => h) (Or.inl ⟨by rfl, ?_⟩) (by assumption) ?_
  rotate_left
  · (intro wq hSw; (try dsimp only at hSw); (try simp only [List.getElem_toArray, List.getElem_cons_succ, List.getElem_cons_zero]); go_simp); try with_reducible rfl
  try simp only [List.getElem_toArray, List.getElem_cons_succ, List.getElem_cons_zero, Act.put, List.setIfInBounds_toArray, List.set_cons_zero, List.set_cons_succ]
  refine wpAnyH_take (i := 17) (v := ?_) rfl (by kernel_rfl) (by kernel_rfl) (by kernel_rfl) (fun _ _ _ h => h) (Or.inl ⟨by rfl, ?_⟩) (by assumption) ?_
  rotate_left
  · (intro wq hSw; (try dsimp only at hSw); (try simp only [List.getElem_toArray, List.getElem_cons_succ, List.getElem_cons_zero]); go_simp); try with_reducible rfl
  try simp only [List.getElem_toArray, List.getElem_cons_succ, List.getElem_cons_zero, Act.put, List.setIfInBounds_toArray, List.set_cons_zero, List.set_cons_succ]
  refine wpAnyH_take (i := 18) (v := ?_) rfl (by kernel_rfl) (by kernel_rfl) (by kernel_rfl) (fun _ _ _ h => h) (Or.inl ⟨by rfl, ?_⟩) (by assumption) ?_
  rotate_left
  · (intro wq hSw; (try dsimp only at hSw); (try simp only [List.getElem_toArray, List.getElem_cons_succ, List.getElem_cons_zero]); go_simp); try with_reducible rfl
  try simp only [List.getElem_toArray, List.getElem_cons_succ, List.getElem_cons_zero, Act.put, List.setIfInBounds_toArray, List.set_cons_zero, List.set_cons_succ]
  refine wpAnyH_take (i := 19) (v := ?_) rfl (by kernel_rfl) (by kernel_rfl) (by kernel_rfl) (fun _ _ _ h => h) (Or.inl ⟨by rfl, ?_⟩) (by assumption) ?_
  rotate_left
  · (intro wq hSw; (try dsimp only at hSw); (try simp only [List.getElem_toArray, List.getElem_cons_succ, List.getElem_cons_zero]); go_simp); try with_reducible rfl
  try simp only [List.getElem_toArray, List.getElem_cons_succ, List.getElem_cons_zero, Act.put, List.setIfInBounds_toArray, List.set_cons_zero, List.set_cons_succ]
  refine wpAnyH_take (i := 20) (v := ?_) rfl (by kernel_rfl) (by kernel_rfl) (by kernel_rfl) (fun _ _ _ h => h) (Or.inl ⟨by rfl, ?_⟩) (by assumption) ?_
  rotate_left
  · (intro wq hSw; (try dsimp only at hSw); (try simp only [List.getElem_toArray, List.getElem_cons_succ, List.getElem_cons_zero]); go_simp); try with_reducible rfl
  try simp only [List.getElem_toArray, List.getElem_cons_succ, List.getElem_cons_zero, Act.put, List.setIfInBounds_toArray, List.set_cons_zero, List.set_cons_succ]
  refine wpAnyH_take (i := 21) (v := ?_) rfl (by kernel_rfl) (by kernel_rfl) (by kernel_rfl) (fun _ _ _ h => h) (Or.inl ⟨by rfl, ?_⟩) (by assumption) ?_
  rotate_left
  · (intro wq hSw; (try dsimp only at hSw); (try simp only [List.getElem_toArray, List.getElem_cons_succ, List.getElem_cons_zero]); go_simp); try with_reducible rfl
  try simp only [List.getElem_toArray, List.getElem_cons_succ, List.getElem_cons_zero, Act.put, List.setIfInBounds_toArray, List.set_cons_zero, List.set_cons_succ]
  refine wpAnyH_take (i := 22) (v := ?_) rfl (by kernel_rfl) (by kernel_rfl) (by kernel_rfl) (fun _ _ _ h => h) (Or.inl ⟨by rfl, ?_⟩) (by assumption) ?_
  rotate_left
  · (intro wq hSw; (try dsimp only at hSw); (try simp only [List.getElem_toArray, List.getElem_cons_succ, List.getElem_cons_zero]); go_simp); try with_reducible rfl
  try simp only [List.getElem_toArray, List.getElem_cons_succ, List.getElem_cons_zero, Act.put, List.setIfInBounds_toArray, List.set_cons_zero, List.set_cons_succ]
  refine wpAnyH_take (i := 23) (v := ?_) rfl (by kernel_rfl) (by kernel_rfl) (by kernel_rfl) (fun _ _ _ h => h) (Or.inl ⟨by rfl, ?_⟩) (by assumption) ?_
  rotate_left
  · (intro wq hSw; (try dsimp only at hSw); (try simp only [List.getElem_toArray, List.getElem_cons_succ, List.getElem_cons_zero]); go_simp); try with_reducible rfl
  try simp only [List.getElem_toArray, List.getElem_cons_succ, List.getElem_cons_zero, Act.put, List.setIfInBounds_toArray, List.set_cons_zero, List.set_cons_succ]
  refine wpAnyH_take (i := 24) (v := ?_) rfl (by kernel_rfl) (by kernel_rfl) (by kernel_rfl) (fun _ _ _ h => h) (Or.inl ⟨by rfl, ?_⟩) (by assumption) ?_
  rotate_left
  · (intro wq hSw; (try dsimp only at hSw); (try simp only [List.getElem_toArray, List.getElem_cons_succ, List.getElem_cons_zero]); go_simp); try with_reducible rfl
  try simp only [List.getElem_toArray, List.getElem_cons_succ, List.getElem_cons_zero, Act.put, List.setIfInBounds_toArray, List.set_cons_zero, List.set_cons_succ]
  refine wpAnyH_take (i := 25) (v := ?_) rfl (by kernel_rfl) (by kernel_rfl) (by kernel_rfl) (fun _ _ _ h => h) (Or.inl ⟨by rfl, ?_⟩) (by assumption) ?_
  rotate_left
  · (intro wq hSw; (try dsimp only at hSw); (try simp only [List.getElem_toArray, List.getElem_cons_succ, List.getElem_cons_zero]); go_simp); try with_reducible rfl
  try simp only [List.getElem_toArray, List.getElem_cons_succ, List.getElem_cons_zero, Act.put, List.setIfInBounds_toArray, List.set_cons_zero, List.set_cons_succ]
  refine wpAnyH_take (i := 26) (v := ?_) rfl (by kernel_rfl) (by kernel_rfl) (by kernel_rfl) (fun _ _ _ h => h) (Or.inl ⟨by rfl, ?_⟩) (by assumption) ?_
  rotate_left
  · (intro wq hSw; (try dsimp only at hSw); (try simp only [List.getElem_toArray, List.getElem_cons_succ, List.getElem_cons_zero]); go_simp); try with_reducible rfl
  try simp only [List.getElem_toArray, List.getElem_cons_succ, List.getElem_cons_zero, Act.put, List.setIfInBounds_toArray, List.set_cons_zero, List.set_cons_succ]
  refine wpAnyH_take (i := 27) (v := ?_) rfl (by kernel_rfl) (by kernel_rfl) (by kernel_rfl) (fun _ _ _ h => h) (Or.inl ⟨by rfl, ?_⟩) (by assumption) ?_
  rotate_left
  · (intro wq hSw; (try dsimp only at hSw); (try simp only [List.getElem_toArray, List.getElem_cons_succ, List.getElem_cons_zero]); go_simp); try with_reducible rfl
  try simp only [List.getElem_toArray, List.getElem_cons_succ, List.getElem_cons_zero, Act.put, List.setIfInBounds_toArray, List.set_cons_zero, List.set_cons_succ]
  refine wpAnyH_ready (rs := [28]) (by kernel_rfl) (by simp) ?_
  refine AllReadyH.cons rfl (fun K hK => ?_) AllReadyH.nil
  try simp only [List.getElem_toArray, List.getElem_cons_succ, List.getElem_cons_zero]
  go_simp
  go_at_call 13
  refine (full_at _ _).mono ?_
  rintro e wz ⟨bz, oz, rfl, _, _, rz, tz⟩
  have tq := below_then tz (by assumption)
  have cz := conv_run (c := 64) rz (by omega)
  try (go_wp2_with fail)
  refine hK.out _ _ (by first | exact (Below.refl _ _).drew | assumption) (fun hHeld => ?_)
  clear hK K
  try simp only [List.getElem_toArray, List.getElem_cons_succ, List.getElem_cons_zero, Act.put, List.setIfInBounds_toArray, List.set_cons_zero, List.set_cons_succ]
  refine wpAnyH_ready (rs := [29]) (by kernel_rfl) (by simp) ?_
  refine AllReadyH.cons rfl (fun K hK => ?_) AllReadyH.nil
  try simp only [List.getElem_toArray, List.getElem_cons_succ, List.getElem_cons_zero]
  go_simp
  refine hK.out _ _ (by first | exact (Below.refl _ _).drew | assumption) (fun hHeld => ?_)
  clear hK K
  try simp only [List.getElem_toArray, List.getElem_cons_succ, List.getElem_cons_zero, Act.put, List.setIfInBounds_toArray, List.set_cons_zero, List.set_cons_succ]
  refine wpAnyH_take (i := 30) (v := ?_) rfl (by kernel_rfl) (by kernel_rfl) (by kernel_rfl) (fun _ _ _ h => h) (Or.inl ⟨by rfl, ?_⟩) (by assumption) ?_
  rotate_left
  · (intro wq hSw; (try dsimp only at hSw); (try simp only [List.getElem_toArray, List.getElem_cons_succ, List.getElem_cons_zero]); go_simp); try with_reducible rfl
  try simp only [List.getElem_toArray, List.getElem_cons_succ, List.getElem_cons_zero, Act.put, List.setIfInBounds_toArray, List.set_cons_zero, List.set_cons_succ]
  refine wpAnyH_take (i := 31) (v := ?_) rfl (by kernel_rfl) (by kernel_rfl) (by kernel_rfl) (fun _ _ _ h => h) (Or.inl ⟨by rfl, ?_⟩) (by assumption) ?_
  rotate_left
  · (intro wq hSw; (try dsimp only at hSw); (try simp only [List.getElem_toArray, List.getElem_cons_succ, List.getElem_cons_zero]); go_simp); try with_reducible rfl
  try simp only [List.getElem_toArray, List.getElem_cons_succ, List.getElem_cons_zero, Act.put, List.setIfInBounds_toArray, List.set_cons_zero, List.set_cons_succ]
  refine wpAnyH_take (i := 32) (v := ?_) rfl (by kernel_rfl) (by kernel_rfl) (by kernel_rfl) (fun _ _ _ h => h) (Or.inl ⟨by rfl, ?_⟩) (by assumption) ?_
  rotate_left
  · (intro wq hSw; (try dsimp only at hSw); (try simp only [List.getElem_toArray, List.getElem_cons_succ, List.getElem_cons_zero]); go_simp); try with_reducible rfl
  try simp only [List.getElem_toArray, List.getElem_cons_succ, List.getElem_cons_zero, Act.put, List.setIfInBounds_toArray, List.set_cons_zero, List.set_cons_succ]
  refine wpAnyH_take (i := 33) (v := ?_) rfl (by kernel_rfl) (by kernel_rfl) (by kernel_rfl) (fun _ _ _ h => h) (Or.inl ⟨by rfl, ?_⟩) (by assumption) ?_
  rotate_left
  · (intro wq hSw; (try dsimp only at hSw); (try simp only [List.getElem_toArray, List.getElem_cons_succ, List.getElem_cons_zero]); go_simp); try with_reducible rfl
  try simp only [List.getElem_toArray, List.getElem_cons_succ, List.getElem_cons_zero, Act.put, List.setIfInBounds_toArray, List.set_cons_zero, List.set_cons_succ]
  refine wpAnyH_ready (rs := [34]) (by kernel_rfl) (by simp) ?_
  refine AllReadyH.cons rfl (fun K hK => ?_) AllReadyH.nil
  try simp only [List.getElem_toArray, List.getElem_cons_succ, List.getElem_cons_zero]
  go_simp
  go_at_call 53
  refine (sectors_any (Lib.hid (HA.out.below (by assumption)))).mono ?_
  rintro e wz ⟨rfl, tz⟩
  have tq := below_then tz (by assumption)
  try (go_wp2_with fail)
  refine hK.out _ _ (by first | exact (Below.refl _ _).drew | assumption) (fun hHeld => ?_)
  clear hK K
  try simp only [List.getElem_toArray, List.getElem_cons_succ, List.getElem_cons_zero, Act.put, List.setIfInBounds_toArray, List.set_cons_zero, List.set_cons_succ]
  refine wpAnyH_take (i := 35) (v := ?_) rfl (by kernel_rfl) (by kernel_rfl) (by kernel_rfl) (fun _ _ _ h => h) (Or.inl ⟨by rfl, ?_⟩) (by assumption) ?_
  rotate_left
  · (intro wq hSw; (try dsimp only at hSw); (try simp only [List.getElem_toArray, List.getElem_cons_succ, List.getElem_cons_zero]); go_simp); try with_reducible rfl
  try simp only [List.getElem_toArray, List.getElem_cons_succ, List.getElem_cons_zero, Act.put, List.setIfInBounds_toArray, List.set_cons_zero, List.set_cons_succ]
  refine wpAnyH_take (i := 36) (v := ?_) rfl (by kernel_rfl) (by kernel_rfl) (by kernel_rfl) (fun _ _ _ h => h) (Or.inl ⟨by rfl, ?_⟩) (by assumption) ?_
  rotate_left
  · (intro wq hSw; (try dsimp only at hSw); (try simp only [List.getElem_toArray, List.getElem_cons_succ, List.getElem_cons_zero]); go_simp); try with_reducible rfl
  try simp only [List.getElem_toArray, List.getElem_cons_succ, List.getElem_cons_zero, Act.put, List.setIfInBounds_toArray, List.set_cons_zero, List.set_cons_succ]
  refine wpAnyH_take (i := 37) (v := ?_) rfl (by kernel_rfl) (by kernel_rfl) (by kernel_rfl) (fun _ _ _ h => h) (Or.inl ⟨by rfl, ?_⟩) (by assumption) ?_
  rotate_left
  · (intro wq hSw; (try dsimp only at hSw); (try simp only [List.getElem_toArray, List.getElem_cons_succ, List.getElem_cons_zero]); go_simp); try with_reducible rfl
  try simp only [List.getElem_toArray, List.getElem_cons_succ, List.getElem_cons_zero, Act.put, List.setIfInBounds_toArray, List.set_cons_zero, List.set_cons_succ]
  refine wpAnyH_ready (rs := [38]) (by kernel_rfl) (by simp) ?_
  refine AllReadyH.cons rfl (fun K hK => ?_) AllReadyH.nil
  try simp only [List.getElem_toArray, List.getElem_cons_succ, List.getElem_cons_zero]
  go_simp
  go_at_call 11
  refine (new_nil _ (by omega) _).mono ?_
  rintro e wz ⟨rfl, tz⟩
  have tq := below_then tz (by assumption)
  try (go_wp2_with fail)
  refine hK.out _ _ (by first | exact (Below.refl _ _).drew | assumption) (fun hHeld => ?_)
  clear hK K
  try simp only [List.getElem_toArray, List.getElem_cons_succ, List.getElem_cons_zero, Act.put, List.setIfInBounds_toArray, List.set_cons_zero, List.set_cons_succ]
  refine wpAnyH_take (i := 39) (v := ?_) rfl (by kernel_rfl) (by kernel_rfl) (by kernel_rfl) (fun _ _ _ h => h) (Or.inl ⟨by rfl, ?_⟩) (by assumption) ?_
  rotate_left
  · (intro wq hSw; (try dsimp only at hSw); (try simp only [List.getElem_toArray, List.getElem_cons_succ, List.getElem_cons_zero]); go_simp); try with_reducible rfl
  try simp only [List.getElem_toArray, List.getElem_cons_succ, List.getElem_cons_zero, Act.put, List.setIfInBounds_toArray, List.set_cons_zero, List.set_cons_succ]
  refine wpAnyH_take (i := 40) (v := ?_) rfl (by kernel_rfl) (by kernel_rfl) (by kernel_rfl) (fun _ _ _ h => h) (Or.inl ⟨by rfl, ?_⟩) (by assumption) ?_
  rotate_left
  · (intro wq hSw; (try dsimp only at hSw); (try simp only [List.getElem_toArray, List.getElem_cons_succ, List.getElem_cons_zero]); go_simp); try with_reducible rfl
  try simp only [List.getElem_toArray, List.getElem_cons_succ, List.getElem_cons_zero, Act.put, List.setIfInBounds_toArray, List.set_cons_zero, List.set_cons_succ]
  refine wpAnyH_take (i := 41) (v := ?_) rfl (by kernel_rfl) (by kernel_rfl) (by kernel_rfl) (fun _ _ _ h => h) (Or.inl ⟨by rfl, ?_⟩) (by assumption) ?_
  rotate_left
  · (intro wq hSw; (try dsimp only at hSw); (try simp only [List.getElem_toArray, List.getElem_cons_succ, List.getElem_cons_zero]); go_simp); try with_reducible rfl
  try simp only [List.getElem_toArray, List.getElem_cons_succ, List.getElem_cons_zero, Act.put, List.setIfInBounds_toArray, List.set_cons_zero, List.set_cons_succ]
  refine wpAnyH_done (by kernel_rfl) ?_ _
  go_wp2_with fail
  go_ret
  exact ⟨rfl, OA.out.below.trans (Below.mono tq OA.out.below.size)⟩
end Go.Proofs.Ytolmpopjonkfgaa
