/-
  What the laws need of the states, of bytes as text, and the example of the page.
  DriveKeeps, walked.
  Arguments as readings; the last step of a law's proof.
  Puts and bools among the arguments.
-/
import Derived.Test.YtolmpopjonkfgaaPl2
import Derived.Laws.BytesArg
import Derived.Test.YtolmpopjonkfgaaPl1
import Derived.ProofKit
import Derived.OpenShut
import Derived.Deep.Slices
import Derived.Deep.Fields
import Derived.Carry
import Derived.ChangeSame
set_option linter.unusedSimpArgs false
set_option linter.unusedVariables false
namespace Go.Proofs.Ytolmpopjonkfgaa
open Go.RowKit Go.Cib
attribute [local go_sem] cell_set Later.cell Later.frozen Grw.cell Grw.frozen

/-! ### States -/
def rep (z : Int) : List Int := List.replicate 64 z
theorem rep_len (z : Int) : (rep z).length = 64 := by simp [rep]
theorem putL_true : ∀ (c : List (Int × List Int)) (i : Nat) (xs : List (List Int)) (k : Nat), (∀ p ∈ c, 0 ≤ p.1) → k < xs.length →
    (putL (fun _ => true) i c xs)[k]? = (match lastIx c k with | some j => (c[j]?).map (·.2) | none => xs[k]?)
  | [], i, xs, k, _, _ => by simp [putL, lastIx]
  | p :: c, i, xs, k, hc, hk => by
    rw [putL, putL_true c (i + 1) _ k (fun q hq => hc q (List.mem_cons_of_mem _ hq)) (by simpa using hk), lastIx]
    cases h : lastIx c k with
    | some j => simp
    | none =>
      have h0 := hc p (by simp)
      simp only [↓reduceIte]
      by_cases hpk : p.1 = k
      · have : p.1.toNat = k := by omega
        simp [hpk, this, hk]
      · have : p.1.toNat ≠ k := by omega
        simp [hpk, List.getElem?_set_ne this]
theorem DSt.ok.seen_flush {st : DSt} {n : Nat} (h : st.ok n) {k : Nat} (hk : k < n) : (st.settle fun _ => true).seen k = st.seen k := by
  have h1 := putL_true st.cache 0 st.stored k (fun p hp => (h.cat p hp).1) (by rw [h.sl]; exact hk)
  unfold DSt.seen
  have h2 : lastIx (st.settle fun _ => true).cache k = none := rfl
  rw [h2]
  show ((putL (fun _ => true) 0 st.cache st.stored)[k]?).getD [] = _
  rw [h1]
  cases lastIx st.cache k <;> rfl
theorem DSt.seen_nil {st : DSt} (h : st.cache = []) (k : Nat) : st.seen k = (st.stored[k]?).getD [] := by
  unfold DSt.seen; rw [h]; rfl
theorem DSt.seen_settle (st : DSt) (keep : Nat → Bool) (k : Nat) : (st.settle keep).seen k = ((putL keep 0 st.cache st.stored)[k]?).getD [] := rfl
theorem DSt.seen_new {n k : Nat} (hk : k < n) : (DSt.new n).seen k = rep 0 := by
  rw [DSt.seen_nil rfl]; simp [DSt.new, hk, rep]

/-! ### Bytes as text -/
theorem conv_run {S : Nat → Prop} {w : World} {A : Option Addr} {n c : Nat} {bs : List Int} (h : RdL U8R 1 S w A n bs) (hn : 0 < n) : (convert 27 9 (.slice A n c)).run Try.prog w = .ok (.string (strOfNums bs)) w := by
  obtain ⟨b, o, rfl, _, _⟩ := h.addr hn
  refine run_convert_bytes_arg w _ 5 (by kernel_rfl) (by kernel_rfl) b o n c bs h.1 (fun i hi => ?_) _ (by kernel_rfl)
  have hr := u8_range h
  have := hr i (.int .u8 (bs[i]'(by rw [h.1]; exact hi))) (by simp [secCells, h.1, hi])
  rw [this]
  simp [List.getD, h.1, hi]
theorem u8_exact {S : Nat → Prop} {w : World} {A : Option Addr} {n : Nat} {bs : List Int} (h : RdL U8R 1 S w A n bs) (hn : 0 < n) : ∃ b o, A = some ⟨b, o, none⟩ ∧ S b ∧ b < w.heap.size ∧ RdL U8R 1 (· = b) w (some ⟨b, o, none⟩) n bs := by
  obtain ⟨b, o, hA, hS, hlt, hc⟩ := h.2 hn
  exact ⟨b, o, hA, hS, hlt, h.1, fun _ => ⟨b, o, rfl, rfl, hlt, hc⟩⟩
theorem read_at {F : Nat → Prop} {w : World} {p n : Nat} {st : DSt} (h : Hid (DrvAt F w p n st)) (hd : st.dead = false) (z : Nat) (hz : z < n) :
    Calls Try.prog 14 #[.pointer (some ⟨p, 0, none⟩), .int .i64 z] w fun e w' => ∃ b o, e = .returned (.tuple #[.slice (some ⟨b, o, none⟩) 64 64, .int .i64 0]) ∧ w.heap.size ≤ b ∧ b < w'.heap.size ∧ RdL U8R 1 (· = b) w' (some ⟨b, o, none⟩) 64 (st.seen z) ∧ Below w.heap.size w w' := by
  refine (read_good h hd z hz).mono ?_
  rintro e w' ⟨A, rfl, hr, hb⟩
  obtain ⟨b, o, rfl, h1, h2, h3⟩ := u8_exact hr (by omega)
  exact ⟨b, o, rfl, h1, h2, h3, hb⟩
theorem full_at (z : Int) (w : World) :
    Calls Try.prog 13 #[.int .u8 z] w fun e w' => ∃ b o, e = .returned (.slice (some ⟨b, o, none⟩) 64 64) ∧ w.heap.size ≤ b ∧ b < w'.heap.size ∧ RdL U8R 1 (· = b) w' (some ⟨b, o, none⟩) 64 (rep z) ∧ Below w.heap.size w w' := by
  refine (full_any z w).mono ?_
  rintro e w' ⟨A, rfl, hr, hb⟩
  obtain ⟨b, o, rfl, h1, h2, h3⟩ := u8_exact hr (by omega)
  exact ⟨b, o, rfl, h1, h2, h3, hb⟩
theorem rd_keep {F : Nat → Prop} {w w' : World} {b o n : Nat} {bs : List Int} (h : RdL U8R 1 (· = b) w (some ⟨b, o, none⟩) n bs) (hk : Keep F w w') (hb : ¬ F b) : RdL U8R 1 (· = b) w' (some ⟨b, o, none⟩) n bs := h.keep U8R.stable hk (by rintro c rfl; exact hb)
theorem not_new {F F' : Nat → Prop} {w : World} {b : Nat} (hF : ∀ k, F' k → k < w.heap.size → F k) (hb : b < w.heap.size) (h : ¬ F b) : ¬ F' b := fun h2 => h (hF b h2 hb)

theorem below_then {w0 w1 w2 : World} (h2 : Below w1.heap.size w1 w2) (h1 : Below w0.heap.size w0 w1) : Below w0.heap.size w0 w2 := h1.trans (h2.mono h1.size)
/-- The world as it is in the midst of a law, whose drive is its own. -/
structure Own (w : World) (F : Nat → Prop) (w' : World) : Prop where
  below : Below w.heap.size w w'
  own : ∀ b, F b → w.heap.size ≤ b
theorem Own.later {w w1 w2 : World} {F : Nat → Prop} (h : Own w F w1) (hb : Below w1.heap.size w1 w2) : Own w F w2 := ⟨h.below.trans (hb.mono h.below.size), h.own⟩
theorem Own.upd {w w1 w2 : World} {F F' : Nat → Prop} (h : Own w F w1) (hF : ∀ k, F' k → k < w1.heap.size → F k) (hk : Keep F w1 w2) : Own w F' w2 :=
  ⟨h.below.trans (hk.below h.below.size h.own), fun b hb => by
    by_cases hlt : b < w1.heap.size
    · exact h.own b (hF b hb hlt)
    · have := h.below.size; omega⟩

set_option maxRecDepth 100000 in
set_option maxHeartbeats 4000000 in
theorem stores_any (w : World) : Calls Try.prog 10 #[] w fun e w' => e = .returned (.bool true) ∧ Below w.heap.size w w' := by
  go_enter Try.func10, Try.ntmps10
  go_wp2_with fail
  refine (new_good 2 (by omega) (by omega) w).mono ?_
  rintro e w1 ⟨p, F1, rfl, D1, hF1, t1⟩
  have O1 := Lib.hid (Own.mk t1 hF1)
  go_wp2_with fail
  refine (full_at 7 w1).mono ?_
  rintro e w2 ⟨b2, o2, rfl, l2, l2', R2, t2⟩
  have O2 := Lib.hid (O1.out.later t2)
  have n2 : ¬ F1 b2 := fun h => by have := D1.lt h; omega
  have D2 := Lib.hid (D1.below t2)
  clear O1 D1 hF1 t1 t2
  go_wp2_with fail
  refine (write_good D2 rfl 1 (by omega) (Lib.hid R2) n2 (by simp [DSt.new])).mono ?_
  rintro e w3 ⟨rfl, F3, D3, hF3, k3⟩
  have O3 := Lib.hid (O2.out.upd hF3 k3)
  clear R2 O2 D2 hF3 k3 n2 l2 l2'
  go_wp2_with fail
  refine (crash_any (Lib.hid D3) (by simp [DSt.new, DSt.write]) (S := fun _ => False) (ks := []) (Lib.hid RdL.nil) (fun _ h => h.elim)).mono ?_
  rintro e w4 ⟨rfl, F4, D4, hF4, k4⟩
  have O4 := Lib.hid (O3.out.upd hF4 k4)
  replace D4 : DrvAt F4 w4 p 2 (DSt.new 2) := D4
  have E4 := Lib.hid D4
  clear O3 D3 hF4 k4 D4
  go_wp2_with fail
  refine (read_at E4 rfl 1 (by omega)).mono ?_
  rintro e w5 ⟨b5, o5, rfl, l5, l5', R5, t5⟩
  replace R5 : RdL U8R 1 (· = b5) w5 (some ⟨b5, o5, none⟩) 64 (rep 0) := R5
  have n5 : ¬ F4 b5 := fun h => by have := E4.out.lt h; omega
  have O5 := Lib.hid (O4.out.later t5)
  have E5 := Lib.hid (E4.out.below t5)
  have Q5 := Lib.hid R5
  clear E4 O4 t5 R5 l5
  go_wp2_with fail
  refine (full_at 9 w5).mono ?_
  rintro e w6 ⟨b6, o6, rfl, l6, l6', R6, t6⟩
  have O6 := Lib.hid (O5.out.later t6)
  have n6 : ¬ F4 b6 := fun h => by have := E5.out.lt h; omega
  have E6 := Lib.hid (E5.out.below t6)
  have Q6 := Lib.hid (Q5.out.below U8R.stable t6)
  have m6 : b5 < w6.heap.size := by have := t6.size; omega
  clear E5 O5 t6 Q5 l5' l6 l6'
  go_wp2_with fail
  refine (write_good E6 rfl 1 (by omega) (Lib.hid R6) n6 (by simp [DSt.new])).mono ?_
  rintro e w7 ⟨rfl, F7, D7, hF7, k7⟩
  have O7 := Lib.hid (O6.out.upd hF7 k7)
  have Q7 := Lib.hid (rd_keep Q6.out k7 n5)
  have n7 := not_new hF7 m6 n5
  have m7 : b5 < w7.heap.size := by have := k7.size; omega
  have E7 := Lib.hid D7
  clear D7 hF7 k7 Q6 O6 E6 R6 n6 m6 n5
  go_wp2_with fail
  refine (flush_good E7 rfl (by simp [DSt.new, DSt.write])).mono ?_
  rintro e w8 ⟨rfl, F8, D8, hF8, k8⟩
  have O8 := Lib.hid (O7.out.upd hF8 k8)
  have Q8 := Lib.hid (rd_keep Q7.out k8 n7)
  have n8 := not_new hF8 m7 n7
  have m8 : b5 < w8.heap.size := by have := k8.size; omega
  have E8 := Lib.hid D8
  clear D8 hF8 k8 Q7 O7 E7 n7 m7
  go_wp2_with fail
  refine (crash_any E8 (by simp [DSt.settle]) (S := fun _ => False) (ks := []) (Lib.hid RdL.nil) (fun _ h => h.elim)).mono ?_
  rintro e w9 ⟨rfl, F9, D9, hF9, k9⟩
  have O9 := Lib.hid (O8.out.upd hF9 k9)
  have Q9 := Lib.hid (rd_keep Q8.out k9 n8)
  have E9 := Lib.hid D9
  clear D9 hF9 k9 Q8 O8 E8 n8 m8
  go_wp2_with fail
  refine (read_at E9 rfl 1 (by omega)).mono ?_
  rintro e wA ⟨bA, oA, rfl, lA, lA', RA, tA⟩
  replace RA : RdL U8R 1 (· = bA) wA (some ⟨bA, oA, none⟩) 64 (rep 9) := RA
  have OA := Lib.hid (O9.out.later tA)
  have EA := Lib.hid (E9.out.below tA)
  have QA := Lib.hid RA
  have Q5 := Lib.hid (Q9.out.below U8R.stable tA)
  clear E9 O9 tA RA lA lA' Q9
  go_wp2_with fail
  have c5 : ∀ w', Below wA.heap.size wA w' → (convert 27 9 (.slice (some ⟨b5, o5, none⟩) 64 64)).run Try.prog w' = .ok (.string (strOfNums (rep 0))) w' := fun w' h => conv_run (Q5.out.below U8R.stable h) (by omega)
  have cA : ∀ w', Below wA.heap.size wA w' → (convert 27 9 (.slice (some ⟨bA, oA, none⟩) 64 64)).run Try.prog w' = .ok (.string (strOfNums (rep 9))) w' := fun w' h => conv_run (QA.out.below U8R.stable h) (by omega)
  obtain ⟨xa, xb, xc, xd, xe, xf, xg, HA⟩ := EA.out.box
  clear Q5 QA
  refine wp_region_held_drew (S := (fun w' => Below wA.heap.size wA w')) (by kernel_rfl) (by first | exact (Below.refl _ _).drew | assumption) (fun hHeld => ?_)
  refine wpAnyH_take (i := 0) (v := ?_) rfl (by kernel_rfl) (by kernel_rfl) (by kernel_rfl) (fun _ _ _ h => h) (Or.inl ⟨by rfl, ?_⟩) (by assumption) ?_
  rotate_left
  · (intro wq hSw; (try dsimp only at hSw); (try simp only [List.getElem_toArray, List.getElem_cons_succ, List.getElem_cons_zero]); go_simp); try with_reducible rfl
  try simp only [List.getElem_toArray, List.getElem_cons_succ, List.getElem_cons_zero, Act.put, List.setIfInBounds_toArray, List.set_cons_zero, List.set_cons_succ]
  refine wpAnyH_take (i := 1) (v := ?_) rfl (by kernel_rfl) (by kernel_rfl) (by kernel_rfl) (fun _ _ _ h => h) (Or.inl ⟨by rfl, ?_⟩) (by assumption) ?_
  rotate_left
  · (intro wq hSw; (try dsimp only at hSw); (try simp only [List.getElem_toArray, List.getElem_cons_succ, List.getElem_cons_zero]); go_simp); try with_reducible rfl
  try simp only [List.getElem_toArray, List.getElem_cons_succ, List.getElem_cons_zero, Act.put, List.setIfInBounds_toArray, List.set_cons_zero, List.set_cons_succ]
  refine wpAnyH_take (i := 2) (v := ?_) rfl (by kernel_rfl) (by kernel_rfl) (by kernel_rfl) (fun _ _ _ h => h) (Or.inl ⟨by rfl, ?_⟩) (by assumption) ?_
  rotate_left
  · (intro wq hSw; (try dsimp only at hSw); (try simp only [List.getElem_toArray, List.getElem_cons_succ, List.getElem_cons_zero]); go_simp); try with_reducible rfl
  try simp only [List.getElem_toArray, List.getElem_cons_succ, List.getElem_cons_zero, Act.put, List.setIfInBounds_toArray, List.set_cons_zero, List.set_cons_succ]
  refine wpAnyH_take (i := 3) (v := ?_) rfl (by kernel_rfl) (by kernel_rfl) (by kernel_rfl) (fun _ _ _ h => h) (Or.inl ⟨by rfl, ?_⟩) (by assumption) ?_
  rotate_left
  · (intro wq hSw; (try dsimp only at hSw); (try simp only [List.getElem_toArray, List.getElem_cons_succ, List.getElem_cons_zero]); go_simp); try with_reducible rfl
  try simp only [List.getElem_toArray, List.getElem_cons_succ, List.getElem_cons_zero, Act.put, List.setIfInBounds_toArray, List.set_cons_zero, List.set_cons_succ]
  refine wpAnyH_take (i := 4) (v := ?_) rfl (by kernel_rfl) (by kernel_rfl) (by kernel_rfl) (fun _ _ _ h => h) (Or.inl ⟨by rfl, ?_⟩) (by assumption) ?_
  rotate_left
  · (intro wq hSw; (try dsimp only at hSw); (try simp only [List.getElem_toArray, List.getElem_cons_succ, List.getElem_cons_zero]); go_simp); try with_reducible rfl
  try simp only [List.getElem_toArray, List.getElem_cons_succ, List.getElem_cons_zero, Act.put, List.setIfInBounds_toArray, List.set_cons_zero, List.set_cons_succ]
  refine wpAnyH_take (i := 5) (v := ?_) rfl (by kernel_rfl) (by kernel_rfl) (by kernel_rfl) (fun _ _ _ h => h) (Or.inl ⟨by rfl, ?_⟩) (by assumption) ?_
  rotate_left
  · (intro wq hSw; (try dsimp only at hSw); (try simp only [List.getElem_toArray, List.getElem_cons_succ, List.getElem_cons_zero]); go_simp); try with_reducible rfl
  try simp only [List.getElem_toArray, List.getElem_cons_succ, List.getElem_cons_zero, Act.put, List.setIfInBounds_toArray, List.set_cons_zero, List.set_cons_succ]
  refine wpAnyH_take (i := 6) (v := ?_) rfl (by kernel_rfl) (by kernel_rfl) (by kernel_rfl) (fun _ _ _ h => h) (Or.inl ⟨by rfl, ?_⟩) (by assumption) ?_
  rotate_left
  · (intro wq hSw; (try dsimp only at hSw); (try simp only [List.getElem_toArray, List.getElem_cons_succ, List.getElem_cons_zero]); go_simp); try with_reducible rfl
  try simp only [List.getElem_toArray, List.getElem_cons_succ, List.getElem_cons_zero, Act.put, List.setIfInBounds_toArray, List.set_cons_zero, List.set_cons_succ]
  refine wpAnyH_take (i := 7) (v := ?_) rfl (by kernel_rfl) (by kernel_rfl) (by kernel_rfl) (fun _ _ _ h => h) (Or.inl ⟨by rfl, ?_⟩) (by assumption) ?_
  rotate_left
  · (intro wq hSw; (try dsimp only at hSw); (try simp only [List.getElem_toArray, List.getElem_cons_succ, List.getElem_cons_zero]); go_simp); try with_reducible rfl
  try simp only [List.getElem_toArray, List.getElem_cons_succ, List.getElem_cons_zero, Act.put, List.setIfInBounds_toArray, List.set_cons_zero, List.set_cons_succ]
  refine wpAnyH_take (i := 8) (v := ?_) rfl (by kernel_rfl) (by kernel_rfl) (by kernel_rfl) (fun _ _ _ h => h) (Or.inl ⟨by rfl, ?_⟩) (by assumption) ?_
  rotate_left
  · (intro wq hSw; (try dsimp only at hSw); (try simp only [List.getElem_toArray, List.getElem_cons_succ, List.getElem_cons_zero]); go_simp); try with_reducible rfl
  try simp only [List.getElem_toArray, List.getElem_cons_succ, List.getElem_cons_zero, Act.put, List.setIfInBounds_toArray, List.set_cons_zero, List.set_cons_succ]
  refine wpAnyH_ready (rs := [9]) (by kernel_rfl) (by simp) ?_
  refine AllReadyH.cons rfl (fun K hK => ?_) AllReadyH.nil
  try simp only [List.getElem_toArray, List.getElem_cons_succ, List.getElem_cons_zero]
  go_simp
  go_at_call 13
  refine (full_at _ _).mono ?_
  rintro e wz ⟨bz, oz, rfl, _, _, rz, tz⟩
  have tq := below_then tz (by assumption)
  have cz := conv_run (c := 64) rz (by omega)
  try (go_wp2_with fail)
  refine hK.out _ _ (by first | exact (Below.refl _ _).drew | assumption) (fun hHeld => ?_)
  clear hK K
  try simp only [List.getElem_toArray, List.getElem_cons_succ, List.getElem_cons_zero, Act.put, List.setIfInBounds_toArray, List.set_cons_zero, List.set_cons_succ]
  refine wpAnyH_ready (rs := [10]) (by kernel_rfl) (by simp) ?_
  refine AllReadyH.cons rfl (fun K hK => ?_) AllReadyH.nil
  try simp only [List.getElem_toArray, List.getElem_cons_succ, List.getElem_cons_zero]
  go_simp
  refine hK.out _ _ (by first | exact (Below.refl _ _).drew | assumption) (fun hHeld => ?_)
  clear hK K
  try simp only [List.getElem_toArray, List.getElem_cons_succ, List.getElem_cons_zero, Act.put, List.setIfInBounds_toArray, List.set_cons_zero, List.set_cons_succ]
  refine wpAnyH_take (i := 11) (v := ?_) rfl (by kernel_rfl) (by kernel_rfl) (by kernel_rfl) (fun _ _ _ h => h) (Or.inl ⟨by rfl, ?_⟩) (by assumption) ?_
  rotate_left
  · (intro wq hSw; (try dsimp only at hSw); (try simp only [List.getElem_toArray, List.getElem_cons_succ, List.getElem_cons_zero]); go_simp); try with_reducible rfl
  try simp only [List.getElem_toArray, List.getElem_cons_succ, List.getElem_cons_zero, Act.put, List.setIfInBounds_toArray, List.set_cons_zero, List.set_cons_succ]
  refine wpAnyH_take (i := 12) (v := ?_) rfl (by kernel_rfl) (by kernel_rfl) (by kernel_rfl) (fun _ _ _ h => h) (Or.inl ⟨by rfl, ?_⟩) (by assumption) ?_
  rotate_left
  · (intro wq hSw; (try dsimp only at hSw); (try simp only [List.getElem_toArray, List.getElem_cons_succ, List.getElem_cons_zero]); go_simp); try with_reducible rfl
  try simp only [List.getElem_toArray, List.getElem_cons_succ, List.getElem_cons_zero, Act.put, List.setIfInBounds_toArray, List.set_cons_zero, List.set_cons_succ]
  refine wpAnyH_take (i := 13) (v := ?_) rfl (by kernel_rfl) (by kernel_rfl) (by kernel_rfl) (fun _ _ _ h => h) (Or.inl ⟨by rfl, ?_⟩) (by assumption) ?_
  rotate_left
  · (intro wq hSw; (try dsimp only at hSw); (try simp only [List.getElem_toArray, List.getElem_cons_succ, List.getElem_cons_zero]); go_simp); try with_reducible rfl
  try simp only [List.getElem_toArray, List.getElem_cons_succ, List.getElem_cons_zero, Act.put, List.setIfInBounds_toArray, List.set_cons_zero, List.set_cons_succ]
  refine wpAnyH_take (i := 14) (v := ?_) rfl (by kernel_rfl) (by kernel_rfl) (by kernel_rfl) (fun _ _ _ h => h) (Or.inl ⟨by rfl, ?_⟩) (by assumption) ?_
  rotate_left
  · (intro wq hSw; (try dsimp only at hSw); (try simp only [List.getElem_toArray, List.getElem_cons_succ, List.getElem_cons_zero]); go_simp); try with_reducible rfl
  try simp only [List.getElem_toArray, List.getElem_cons_succ, List.getElem_cons_zero, Act.put, List.setIfInBounds_toArray, List.set_cons_zero, List.set_cons_succ]
  refine wpAnyH_take (i := 15) (v := ?_) rfl (by kernel_rfl) (by kernel_rfl) (by kernel_rfl) (fun _ _ _ h => h) (Or.inl ⟨by rfl, ?_⟩) (by assumption) ?_
  rotate_left
  · (intro wq hSw; (try dsimp only at hSw); (try simp only [List.getElem_toArray, List.getElem_cons_succ, List.getElem_cons_zero]); go_simp); try with_reducible rfl
  try simp only [List.getElem_toArray, List.getElem_cons_succ, List.getElem_cons_zero, Act.put, List.setIfInBounds_toArray, List.set_cons_zero, List.set_cons_succ]
  refine wpAnyH_take (i := 16) (v := ?_) rfl (by kernel_rfl) (by kernel_rfl) (by kernel_rfl) (fun _ _ _ h => h) (Or.inl ⟨by rfl, ?_⟩) (by assumption) ?_
  rotate_left
  · (intro wq hSw; (try dsimp only at hSw); (try simp only [List.getElem_toArray, List.getElem_cons_succ, List.getElem_cons_zero]); go_simp); try with_reducible rfl
  try simp only [List.getElem_toArray, List.getElem_cons_succ, List.getElem_cons_zero, Act.put, List.setIfInBounds_toArray, List.set_cons_zero, List.set_cons_succ]
  refine wpAnyH_take (i := 17) (v := ?_) rfl (by kernel_rfl) (by kernel_rfl) (by kernel_rfl) (fun _ _ _ h => h) (Or.inl ⟨by rfl, ?_⟩) (by assumption) ?_
  rotate_left
  · (intro wq hSw; (try dsimp only at hSw); (try simp only [List.getElem_toArray, List.getElem_cons_succ, List.getElem_cons_zero]); go_simp); try with_reducible rfl
  try simp only [List.getElem_toArray, List.getElem_cons_succ, List.getElem_cons_zero, Act.put, List.setIfInBounds_toArray, List.set_cons_zero, List.set_cons_succ]
  refine wpAnyH_take (i := 18) (v := ?_) rfl (by kernel_rfl) (by kernel_rfl) (by kernel_rfl) (fun _ _ _ h => h) (Or.inl ⟨by rfl, ?_⟩) (by assumption) ?_
  rotate_left
  · (intro wq hSw; (try dsimp only at hSw); (try simp only [List.getElem_toArray, List.getElem_cons_succ, List.getElem_cons_zero]); go_simp); try with_reducible rfl
  try simp only [List.getElem_toArray, List.getElem_cons_succ, List.getElem_cons_zero, Act.put, List.setIfInBounds_toArray, List.set_cons_zero, List.set_cons_succ]
  refine wpAnyH_take (i := 19) (v := ?_) rfl (by kernel_rfl) (by kernel_rfl) (by kernel_rfl) (fun _ _ _ h => h) (Or.inl ⟨by rfl, ?_⟩) (by assumption) ?_
  rotate_left
  · (intro wq hSw; (try dsimp only at hSw); (try simp only [List.getElem_toArray, List.getElem_cons_succ, List.getElem_cons_zero]); go_simp); try with_reducible rfl
  try simp only [List.getElem_toArray, List.getElem_cons_succ, List.getElem_cons_zero, Act.put, List.setIfInBounds_toArray, List.set_cons_zero, List.set_cons_succ]
  refine wpAnyH_take (i := 20) (v := ?_) rfl (by kernel_rfl) (by kernel_rfl) (by kernel_rfl) (fun _ _ _ h => h) (Or.inl ⟨by rfl, ?_⟩) (by assumption) ?_
  rotate_left
  · (intro wq hSw; (try dsimp only at hSw); (try simp only [List.getElem_toArray, List.getElem_cons_succ, List.getElem_cons_zero]); go_simp); try with_reducible rfl
  try simp only [List.getElem_toArray, List.getElem_cons_succ, List.getElem_cons_zero, Act.put, List.setIfInBounds_toArray, List.set_cons_zero, List.set_cons_succ]
  refine wpAnyH_take (i := 21) (v := ?_) rfl (by kernel_rfl) (by kernel_rfl) (by kernel_rfl) (fun _ _ _ h => h) (Or.inl ⟨by rfl, ?_⟩) (by assumption) ?_
  rotate_left
  · (intro wq hSw; (try dsimp only at hSw); (try simp only [List.getElem_toArray, List.getElem_cons_succ, List.getElem_cons_zero]); go_simp); try with_reducible rfl
  try simp only [List.getElem_toArray, List.getElem_cons_succ, List.getElem_cons_zero, Act.put, List.setIfInBounds_toArray, List.set_cons_zero, List.set_cons_succ]
  refine wpAnyH_take (i := 22) (v := ?_) rfl (by kernel_rfl) (by kernel_rfl) (by kernel_rfl) (fun _ _ _ h => h) (Or.inl ⟨by rfl, ?_⟩) (by assumption) ?_
  rotate_left
  · (intro wq hSw; (try dsimp only at hSw); (try simp only [List.getElem_toArray, List.getElem_cons_succ, List.getElem_cons_zero]); go_simp); try with_reducible rfl
  try simp only [List.getElem_toArray, List.getElem_cons_succ, List.getElem_cons_zero, Act.put, List.setIfInBounds_toArray, List.set_cons_zero, List.set_cons_succ]
  refine wpAnyH_take (i := 23) (v := ?_) rfl (by kernel_rfl) (by kernel_rfl) (by kernel_rfl) (fun _ _ _ h => h) (Or.inl ⟨by rfl, ?_⟩) (by assumption) ?_
  rotate_left
  · (intro wq hSw; (try dsimp only at hSw); (try simp only [List.getElem_toArray, List.getElem_cons_succ, List.getElem_cons_zero]); go_simp); try with_reducible rfl
  try simp only [List.getElem_toArray, List.getElem_cons_succ, List.getElem_cons_zero, Act.put, List.setIfInBounds_toArray, List.set_cons_zero, List.set_cons_succ]
  refine wpAnyH_take (i := 24) (v := ?_) rfl (by kernel_rfl) (by kernel_rfl) (by kernel_rfl) (fun _ _ _ h => h) (Or.inl ⟨by rfl, ?_⟩) (by assumption) ?_
  rotate_left
  · (intro wq hSw; (try dsimp only at hSw); (try simp only [List.getElem_toArray, List.getElem_cons_succ, List.getElem_cons_zero]); go_simp); try with_reducible rfl
  try simp only [List.getElem_toArray, List.getElem_cons_succ, List.getElem_cons_zero, Act.put, List.setIfInBounds_toArray, List.set_cons_zero, List.set_cons_succ]
  refine wpAnyH_take (i := 25) (v := ?_) rfl (by kernel_rfl) (by kernel_rfl) (by kernel_rfl) (fun _ _ _ h => h) (Or.inl ⟨by rfl, ?_⟩) (by assumption) ?_
  rotate_left
  · (intro wq hSw; (try dsimp only at hSw); (try simp only [List.getElem_toArray, List.getElem_cons_succ, List.getElem_cons_zero]); go_simp); try with_reducible rfl
  try simp only [List.getElem_toArray, List.getElem_cons_succ, List.getElem_cons_zero, Act.put, List.setIfInBounds_toArray, List.set_cons_zero, List.set_cons_succ]
  refine wpAnyH_take (i := 26) (v := ?_) rfl (by kernel_rfl) (by kernel_rfl) (by kernel_rfl) (fun _ _ _ h => h) (Or.inl ⟨by rfl, ?_⟩) (by assumption) ?_
  rotate_left
  · (intro wq hSw; (try dsimp only at hSw); (try simp only [List.getElem_toArray, List.getElem_cons_succ, List.getElem_cons_zero]); go_simp); try with_reducible rfl
  try simp only [List.getElem_toArray, List.getElem_cons_succ, List.getElem_cons_zero, Act.put, List.setIfInBounds_toArray, List.set_cons_zero, List.set_cons_succ]
  refine wpAnyH_take (i := 27) (v := ?_) rfl (by kernel_rfl) (by kernel_rfl) (by kernel_rfl) (fun _ _ _ h => h) (Or.inl ⟨by rfl, ?_⟩) (by assumption) ?_
  rotate_left
  · (intro wq hSw; (try dsimp only at hSw); (try simp only [List.getElem_toArray, List.getElem_cons_succ, List.getElem_cons_zero]); go_simp); try with_reducible rfl
  try simp only [List.getElem_toArray, List.getElem_cons_succ, List.getElem_cons_zero, Act.put, List.setIfInBounds_toArray, List.set_cons_zero, List.set_cons_succ]
  refine wpAnyH_ready (rs := [28]) (by kernel_rfl) (by simp) ?_
  refine AllReadyH.cons rfl (fun K hK => ?_) AllReadyH.nil
  try simp only [List.getElem_toArray, List.getElem_cons_succ, List.getElem_cons_zero]
  go_simp
  go_at_call 13
  refine (full_at _ _).mono ?_
  rintro e wz ⟨bz, oz, rfl, _, _, rz, tz⟩
  have tq := below_then tz (by assumption)
  have cz := conv_run (c := 64) rz (by omega)
  try (go_wp2_with fail)
  refine hK.out _ _ (by first | exact (Below.refl _ _).drew | assumption) (fun hHeld => ?_)
  clear hK K
  try simp only [List.getElem_toArray, List.getElem_cons_succ, List.getElem_cons_zero, Act.put, List.setIfInBounds_toArray, List.set_cons_zero, List.set_cons_succ]
  refine wpAnyH_ready (rs := [29]) (by kernel_rfl) (by simp) ?_
  refine AllReadyH.cons rfl (fun K hK => ?_) AllReadyH.nil
  try simp only [List.getElem_toArray, List.getElem_cons_succ, List.getElem_cons_zero]
  go_simp
  refine hK.out _ _ (by first | exact (Below.refl _ _).drew | assumption) (fun hHeld => ?_)
  clear hK K
  try simp only [List.getElem_toArray, List.getElem_cons_succ, List.getElem_cons_zero, Act.put, List.setIfInBounds_toArray, List.set_cons_zero, List.set_cons_succ]
  refine wpAnyH_take (i := 30) (v := ?_) rfl (by kernel_rfl) (by kernel_rfl) (by kernel_rfl) (fun _ _ _ h => h) (Or.inl ⟨by rfl, ?_⟩) (by assumption) ?_
  rotate_left
  · (intro wq hSw; (try dsimp only at hSw); (try simp only [List.getElem_toArray, List.getElem_cons_succ, List.getElem_cons_zero]); go_simp); try with_reducible rfl
  try simp only [List.getElem_toArray, List.getElem_cons_succ, List.getElem_cons_zero, Act.put, List.setIfInBounds_toArray, List.set_cons_zero, List.set_cons_succ]
  refine wpAnyH_take (i := 31) (v := ?_) rfl (by kernel_rfl) (by kernel_rfl) (by kernel_rfl) (fun _ _ _ h => h) (Or.inl ⟨by rfl, ?_⟩) (by assumption) ?_
  rotate_left
  · (intro wq hSw; (try dsimp only at hSw); (try simp only [List.getElem_toArray, List.getElem_cons_succ, List.getElem_cons_zero]); go_simp); try with_reducible rfl
  try simp only [List.getElem_toArray, List.getElem_cons_succ, List.getElem_cons_zero, Act.put, List.setIfInBounds_toArray, List.set_cons_zero, List.set_cons_succ]
  refine wpAnyH_take (i := 32) (v := ?_) rfl (by kernel_rfl) (by kernel_rfl) (by kernel_rfl) (fun _ _ _ h => h) (Or.inl ⟨by rfl, ?_⟩) (by assumption) ?_
  rotate_left
  · (intro wq hSw; (try dsimp only at hSw); (try simp only [List.getElem_toArray, List.getElem_cons_succ, List.getElem_cons_zero]); go_simp); try with_reducible rfl
  try simp only [List.getElem_toArray, List.getElem_cons_succ, List.getElem_cons_zero, Act.put, List.setIfInBounds_toArray, List.set_cons_zero, List.set_cons_succ]
  refine wpAnyH_take (i := 33) (v := ?_) rfl (by kernel_rfl) (by kernel_rfl) (by kernel_rfl) (fun _ _ _ h => h) (Or.inl ⟨by rfl, ?_⟩) (by assumption) ?_
  rotate_left
  · (intro wq hSw; (try dsimp only at hSw); (try simp only [List.getElem_toArray, List.getElem_cons_succ, List.getElem_cons_zero]); go_simp); try with_reducible rfl
  try simp only [List.getElem_toArray, List.getElem_cons_succ, List.getElem_cons_zero, Act.put, List.setIfInBounds_toArray, List.set_cons_zero, List.set_cons_succ]
  refine wpAnyH_ready (rs := [34]) (by kernel_rfl) (by simp) ?_
  refine AllReadyH.cons rfl (fun K hK => ?_) AllReadyH.nil
  try simp only [List.getElem_toArray, List.getElem_cons_succ, List.getElem_cons_zero]
  go_simp
  go_at_call 53
  refine (sectors_any (Lib.hid (HA.out.below (by assumption)))).mono ?_
  rintro e wz ⟨rfl, tz⟩
  have tq := below_then tz (by assumption)
  try (go_wp2_with fail)
  refine hK.out _ _ (by first | exact (Below.refl _ _).drew | assumption) (fun hHeld => ?_)
  clear hK K
  try simp only [List.getElem_toArray, List.getElem_cons_succ, List.getElem_cons_zero, Act.put, List.setIfInBounds_toArray, List.set_cons_zero, List.set_cons_succ]
  refine wpAnyH_take (i := 35) (v := ?_) rfl (by kernel_rfl) (by kernel_rfl) (by kernel_rfl) (fun _ _ _ h => h) (Or.inl ⟨by rfl, ?_⟩) (by assumption) ?_
  rotate_left
  · (intro wq hSw; (try dsimp only at hSw); (try simp only [List.getElem_toArray, List.getElem_cons_succ, List.getElem_cons_zero]); go_simp); try with_reducible rfl
  try simp only [List.getElem_toArray, List.getElem_cons_succ, List.getElem_cons_zero, Act.put, List.setIfInBounds_toArray, List.set_cons_zero, List.set_cons_succ]
  refine wpAnyH_take (i := 36) (v := ?_) rfl (by kernel_rfl) (by kernel_rfl) (by kernel_rfl) (fun _ _ _ h => h) (Or.inl ⟨by rfl, ?_⟩) (by assumption) ?_
  rotate_left
  · (intro wq hSw; (try dsimp only at hSw); (try simp only [List.getElem_toArray, List.getElem_cons_succ, List.getElem_cons_zero]); go_simp); try with_reducible rfl
  try simp only [List.getElem_toArray, List.getElem_cons_succ, List.getElem_cons_zero, Act.put, List.setIfInBounds_toArray, List.set_cons_zero, List.set_cons_succ]
  refine wpAnyH_take (i := 37) (v := ?_) rfl (by kernel_rfl) (by kernel_rfl) (by kernel_rfl) (fun _ _ _ h => h) (Or.inl ⟨by rfl, ?_⟩) (by assumption) ?_
  rotate_left
  · (intro wq hSw; (try dsimp only at hSw); (try simp only [List.getElem_toArray, List.getElem_cons_succ, List.getElem_cons_zero]); go_simp); try with_reducible rfl
  try simp only [List.getElem_toArray, List.getElem_cons_succ, List.getElem_cons_zero, Act.put, List.setIfInBounds_toArray, List.set_cons_zero, List.set_cons_succ]
  refine wpAnyH_ready (rs := [38]) (by kernel_rfl) (by simp) ?_
  refine AllReadyH.cons rfl (fun K hK => ?_) AllReadyH.nil
  try simp only [List.getElem_toArray, List.getElem_cons_succ, List.getElem_cons_zero]
  go_simp
  go_at_call 11
  refine (new_nil _ (by omega) _).mono ?_
  rintro e wz ⟨rfl, tz⟩
  have tq := below_then tz (by assumption)
  try (go_wp2_with fail)
  refine hK.out _ _ (by first | exact (Below.refl _ _).drew | assumption) (fun hHeld => ?_)
  clear hK K
  try simp only [List.getElem_toArray, List.getElem_cons_succ, List.getElem_cons_zero, Act.put, List.setIfInBounds_toArray, List.set_cons_zero, List.set_cons_succ]
  refine wpAnyH_take (i := 39) (v := ?_) rfl (by kernel_rfl) (by kernel_rfl) (by kernel_rfl) (fun _ _ _ h => h) (Or.inl ⟨by rfl, ?_⟩) (by assumption) ?_
  rotate_left
  · (intro wq hSw; (try dsimp only at hSw); (try simp only [List.getElem_toArray, List.getElem_cons_succ, List.getElem_cons_zero]); go_simp); try with_reducible rfl
  try simp only [List.getElem_toArray, List.getElem_cons_succ, List.getElem_cons_zero, Act.put, List.setIfInBounds_toArray, List.set_cons_zero, List.set_cons_succ]
  refine wpAnyH_take (i := 40) (v := ?_) rfl (by kernel_rfl) (by kernel_rfl) (by kernel_rfl) (fun _ _ _ h => h) (Or.inl ⟨by rfl, ?_⟩) (by assumption) ?_
  rotate_left
  · (intro wq hSw; (try dsimp only at hSw); (try simp only [List.getElem_toArray, List.getElem_cons_succ, List.getElem_cons_zero]); go_simp); try with_reducible rfl
  try simp only [List.getElem_toArray, List.getElem_cons_succ, List.getElem_cons_zero, Act.put, List.setIfInBounds_toArray, List.set_cons_zero, List.set_cons_succ]
  refine wpAnyH_take (i := 41) (v := ?_) rfl (by kernel_rfl) (by kernel_rfl) (by kernel_rfl) (fun _ _ _ h => h) (Or.inl ⟨by rfl, ?_⟩) (by assumption) ?_
  rotate_left
  · (intro wq hSw; (try dsimp only at hSw); (try simp only [List.getElem_toArray, List.getElem_cons_succ, List.getElem_cons_zero]); go_simp); try with_reducible rfl
  try simp only [List.getElem_toArray, List.getElem_cons_succ, List.getElem_cons_zero, Act.put, List.setIfInBounds_toArray, List.set_cons_zero, List.set_cons_succ]
  refine wpAnyH_done (by kernel_rfl) ?_ _
  go_wp2_with fail
  go_ret
  exact ⟨rfl, OA.out.below.trans (Below.mono tq OA.out.below.size)⟩
end Go.Proofs.Ytolmpopjonkfgaa

set_option linter.unusedSimpArgs false
set_option linter.unusedVariables false
namespace Go.Proofs.Ytolmpopjonkfgaa
open Go.RowKit Go.Cib
attribute [local go_sem] cell_set Later.cell Later.frozen Grw.cell Grw.frozen

theorem run_min_as (ts : Array TypeId) (t : TypeId) (x y : Int) (w : World) : (Builtin.min_ ts t #[.int .i64 x, .int .i64 y]).run Try.prog w = .ok (.int .i64 (min x y)) w := by
  rw [run_min_int2, show (if y < x then y else x) = min x y by omega]
theorem run_max_as (ts : Array TypeId) (t : TypeId) (x y : Int) (w : World) : (Builtin.max_ ts t #[.int .i64 x, .int .i64 y]).run Try.prog w = .ok (.int .i64 (max x y)) w := by
  rw [run_max_int2]
  congr 2
  omega
attribute [local go_sem ↓] run_min_as run_max_as

/-- A put: a place and a byte. -/
def PutR (_ : Nat → Prop) (_ : World) (cs : List Value) (x : Int × Int) : Prop := cs = [.int .i64 x.1, .int .u8 x.2]
theorem PutR.stable : Stable PutR := fun _ _ _ _ _ _ h _ => h

theorem makeU8 (k : Nat) (hk : k ≤ 600) (w : World) : (Instr.makeSlice 27 (.int .i64 (k : Int)) (.int .i64 (k : Int))).run Try.prog w = .ok (.slice (some ⟨w.heap.size, 0, none⟩) k k) (w.alloc (.cells ((List.replicate k (0 : Int)).map (Value.int .u8)).toArray 5)) := by
  obtain ⟨i, hi, hz, hs, hb⟩ := info_parts (show (Try.prog.info? 5).map (fun i => (i.zero, i.size, i.bytes)) = some (some (.int .u8 0), 1, 1) by kernel_rfl)
  have h := run_make (P := Try.prog) w 27 5 i (.int .u8 0) (by kernel_rfl) hi hz .i64 .i64 k k (by omega) (by omega) (by rw [hb]; omega) (by omega)
  simp only [Int.toNat_natCast, hs, Nat.mul_one] at h
  rw [h, show (Value.int .u8 0).cells = Array.replicate 1 (.int .u8 0) from rfl, madeCells_rep _ _ _ (by omega)]
  simp [List.map_replicate]

theorem put_at {S : Nat → Prop} {w : World} {A : Option Addr} {m : Nat} {xs : List (Int × Int)} (h : RdL PutR 2 S w A m xs) {i : Nat} (hi : i < m) : ∃ b o a z, A = some ⟨b, o, none⟩ ∧ xs[i]? = some (a, z) ∧
    ∀ w', Below w.heap.size w w' → w'.cell? ⟨b, o + i * 2, none⟩ = some (.int .i64 a) ∧ w'.cell? ⟨b, o + i * 2 + 1, none⟩ = some (.int .u8 z) := by
  obtain ⟨b, o, rfl, _, hlt⟩ := h.addr hi
  obtain ⟨hl, cs, h1, h2, h3⟩ := h.at hi
  have h4 : cs = [.int .i64 xs[i].1, .int .u8 xs[i].2] := h2
  subst h4
  refine ⟨b, o, xs[i].1, xs[i].2, rfl, by simp [hl], fun w' hb => ⟨?_, ?_⟩⟩
  · have := h3 0 _ rfl
    rw [hb.cell (p := ⟨b, _, none⟩) hlt]; exact this
  · have := h3 1 _ rfl
    rw [hb.cell (p := ⟨b, _, none⟩) hlt]; exact this

theorem bool_first {S : Nat → Prop} {w : World} {A : Option Addr} {m : Nat} {ks : List Bool} (h : RdL BoolR 1 S w A m ks) (hm : 0 < m) : ∃ b o v, A = some ⟨b, o, none⟩ ∧ keepOf ks 0 = v ∧ ∀ w', Below w.heap.size w w' → w'.cell? ⟨b, o, none⟩ = some (.bool v) := by
  obtain ⟨b, o, rfl, _, hlt⟩ := h.addr hm
  obtain ⟨hl, cs, h1, h2, h3⟩ := h.at hm
  have h4 : cs = [.bool ks[0]] := h2
  subst h4
  refine ⟨b, o, ks[0], rfl, by simp [keepOf, hl], fun w' hb => ?_⟩
  have := h3 0 _ rfl
  simp only [Nat.zero_mul, Nat.add_zero] at this
  rw [hb.cell (p := ⟨b, _, none⟩) hlt]; exact this
theorem keepOf_nil {ks : List Bool} (h : ks.length = 0) : keepOf ks 0 = false := by
  rw [List.length_eq_zero_iff.1 h]; rfl

/-- Where a put goes. -/
def spotOf (a : Int) (n : Nat) : Nat := (max 0 (min a ((n : Int) - 1))).toNat
theorem spot_eq (a : Int) (n : Nat) (hn : 1 ≤ n) : max 0 (min a ((n : Int) - 1)) = (spotOf a n : Int) ∧ spotOf a n < n := by
  unfold spotOf; omega

set_option maxRecDepth 100000 in
theorem keeps_bad (n at_ c : Int) (A0 A1 : Option Addr) (m0 c0 m1 c1 : Nat) (w : World) (h : ¬ (2 ≤ n ∧ n ≤ 20 ∧ m0 ≤ 100 ∧ m1 ≤ 200)) :
    Calls Try.prog 3 #[.int .i64 n, .slice A0 m0 c0, .int .i64 at_, .int .u8 c, .slice A1 m1 c1] w fun e w' => e = .returned (.bool true) ∧ Below w.heap.size w w' := by
  have hfin : ∀ w', Below w.heap.size w w' → Calls Try.prog 10 #[] w' fun e w'' => e = .returned (.bool true) ∧ Below w.heap.size w w'' := fun w' h => (stores_any w').mono fun e w'' ⟨h1, h2⟩ => ⟨h1, h.trans (h2.mono h.size)⟩
  have HF := Lib.hid hfin
  clear hfin
  by_cases h0 : n < 2
  · have d0 : decide (n < 2) = true := by simpa using h0
    go_enter Try.func3, Try.ntmps3
    go_wp2_with fail
    refine (HF.out _ (Below.refl _ _)).mono ?_
    rintro e w' ⟨rfl, hb⟩
    go_wp2_with fail
    go_ret
    exact ⟨rfl, hb⟩
  have d0 : decide (n < 2) = false := by simpa using h0
  by_cases h1 : 20 < n
  · have d1 : decide (20 < n) = true := by simpa using h1
    go_enter Try.func3, Try.ntmps3
    go_wp2_with fail
    refine (HF.out _ (Below.refl _ _)).mono ?_
    rintro e w' ⟨rfl, hb⟩
    go_wp2_with fail
    go_ret
    exact ⟨rfl, hb⟩
  have d1 : decide (20 < n) = false := by simpa using h1
  by_cases h2 : 100 < m0
  · have d2 : decide (100 < m0) = true := by simpa using h2
    have d2' : (100 : Int) < m0 := by omega
    go_enter Try.func3, Try.ntmps3
    go_wp2_with fail
    refine (HF.out _ (Below.refl _ _)).mono ?_
    rintro e w' ⟨rfl, hb⟩
    go_wp2_with fail
    go_ret
    exact ⟨rfl, hb⟩
  have d2 : ¬ (100 : Int) < m0 := by omega
  have d3 : (200 : Int) < m1 := by omega
  go_enter Try.func3, Try.ntmps3
  go_wp2_with fail
  refine (HF.out _ (Below.refl _ _)).mono ?_
  rintro e w' ⟨rfl, hb⟩
  go_wp2_with fail
  go_ret
  exact ⟨rfl, hb⟩

/-- In the midst of a law: what was noted is hl, what the drive's sectors are is sl. -/
structure Mid (w : World) (F : Nat → Prop) (wr : World) (p n hb : Nat) (st : DSt) (hl sl : List Int) : Prop where
  own : Own w F wr
  drv : DrvAt F wr p n st
  live : st.dead = false
  had : BoxAt wr hb ((hl.map (Value.int .u8)).toArray)
  len : hl.length = n
  len2 : sl.length = n
  out : ¬ F hb
  new : w.heap.size ≤ hb
  sees : ∀ k (h : k < n), st.seen k = rep (sl[k]'(by omega))

theorem Mid.later {w w1 w2 : World} {F : Nat → Prop} {p n hb : Nat} {st : DSt} {hl sl : List Int} (h : Mid w F w1 p n hb st hl sl) (hb2 : Below w1.heap.size w1 w2) : Mid w F w2 p n hb st hl sl :=
  { h with own := h.own.later hb2, drv := h.drv.below hb2, had := h.had.below hb2 }
theorem Mid.upd {w w1 w2 : World} {F F' : Nat → Prop} {p n hb : Nat} {st st' : DSt} {hl sl sl' : List Int} (h : Mid w F w1 p n hb st hl sl) (hD : DrvAt F' w2 p n st') (hF : ∀ k, F' k → k < w1.heap.size → F k) (hK : Keep F w1 w2) (hd : st'.dead = false)
    (h2 : sl'.length = n) (hs : ∀ k (h : k < n), st'.seen k = rep (sl'[k]'(by omega))) : Mid w F' w2 p n hb st' hl sl' :=
  ⟨h.own.upd hF hK, hD, hd, h.had.keeps hK h.out, h.len, h2, not_new hF h.had.lt h.out, h.new, hs⟩
theorem Mid.write {w w1 w2 : World} {F F' : Nat → Prop} {p n hb : Nat} {st : DSt} {hl sl : List Int} (h : Mid w F w1 p n hb st hl sl) {k : Nat} (hk : k < n) {z : Int} (hD : DrvAt F' w2 p n (st.write k (rep z))) (hF : ∀ k, F' k → k < w1.heap.size → F k) (hK : Keep F w1 w2) :
    Mid w F' w2 p n hb (st.write k (rep z)) hl (sl.set k z) := by
  refine h.upd hD hF hK h.live (by simp [h.len2]) (fun j hj => ?_)
  rw [DSt.seen_write]
  by_cases e : k = j
  · subst e; simp
  · have : ¬ (k : Int) = j := by omega
    simp [this, List.getElem_set_ne e, h.sees j hj]
theorem Mid.flush {w w1 w2 : World} {F F' : Nat → Prop} {p n hb : Nat} {st : DSt} {hl sl : List Int} (h : Mid w F w1 p n hb st hl sl) (hD : DrvAt F' w2 p n (st.settle fun _ => true)) (hF : ∀ k, F' k → k < w1.heap.size → F k) (hK : Keep F w1 w2) :
    Mid w F' w2 p n hb (st.settle fun _ => true) hl sl :=
  h.upd hD hF hK h.live h.len2 (fun j hj => (h.drv.ok.seen_flush hj).trans (h.sees j hj))
theorem Mid.note {w w2 : World} {F : Nat → Prop} {p n hb : Nat} {st : DSt} {hl sl : List Int} (h : Mid w F w2 p n hb st hl sl) (k : Nat) (z : Int) : Mid w F (w2.setCell ⟨hb, k, none⟩ (.int .u8 z)) p n hb st (hl.set k z) sl := by
  have hset : Keep (fun b => b = hb) w2 (w2.setCell ⟨hb, k, none⟩ (.int .u8 z)) := (Keep.refl (fun b => b = hb) w2).setCell (p := ⟨hb, k, none⟩) (fun _ => rfl) _
  refine ⟨⟨h.own.below.trans (hset.below h.own.below.size (by rintro b rfl; exact h.new)), h.own.own⟩, h.drv.keep hset (by rintro b hf rfl; exact h.out hf), h.live, ?_, by simp [h.len], h.len2, h.out, h.new, h.sees⟩
  have := h.had.set k (.int .u8 z)
  simpa [List.map_set] using this

theorem crash_one (st : DSt) (hc : st.cache = []) (sp : Nat) (s : List Int) (keep : Nat → Bool) {n : Nat} (hl : st.stored.length = n) {k : Nat} (hk : k < n) :
    ((st.write sp s).settle keep).seen k = if keep 0 = true ∧ sp = k then s else st.seen k := by
  rw [DSt.seen_settle, DSt.seen_nil hc]
  simp only [DSt.write, hc, List.nil_append, putL, Int.toNat_natCast]
  by_cases h : keep 0 = true
  · by_cases e : sp = k
    · subst e; simp [h, hl, hk]
    · simp [h, e, List.getElem?_set_ne e]
  · simp [h]
/-- What the sectors are behind the crash. -/
def wantL (hl : List Int) (ks : List Bool) (sp : Nat) (c : Int) : List Int := if keepOf ks 0 then hl.set sp c else hl

set_option maxRecDepth 100000 in
set_option maxHeartbeats 8000000 in
theorem keeps_good (n : Nat) (at_ c : Int) (A0 A1 : Option Addr) (m0 c0 m1 c1 : Nat) (w : World) (h2 : 2 ≤ n) (h20 : n ≤ 20) (h100 : m0 ≤ 100) (h200 : m1 ≤ 200) {first : List (Int × Int)} {ks : List Bool}
    (R0 : Hid (RdL PutR 2 (fun _ => True) w A0 m0 first)) (R1 : Hid (RdL BoolR 1 (fun _ => True) w A1 m1 ks)) :
    Calls Try.prog 3 #[.int .i64 n, .slice A0 m0 c0, .int .i64 at_, .int .u8 c, .slice A1 m1 c1] w fun e w' => e = .returned (.bool true) ∧ Below w.heap.size w w' := by
  replace R1 : Hid (RdL BoolR 1 (fun b => b < w.heap.size) w A1 m1 ks) := Lib.hid (R1.out.stable BoolR.stable (fun b _ hlt => ⟨hlt, rfl⟩))
  have d0 : (2 : Int) ≤ n := by omega
  have d1 : (n : Int) ≤ 20 := by omega
  have d2 : (m0 : Int) ≤ 100 := by omega
  have d3 : (m1 : Int) ≤ 200 := by omega
  go_enter Try.func3, Try.ntmps3
  go_wp2_with fail
  refine (new_good n (by omega) (by omega) w).mono ?_
  rintro e w1 ⟨p, F1, rfl, D1, hF1, t1⟩
  have hmk := makeU8 n (by omega) w1
  have b1 := BoxAt.new w1 ((List.replicate n (0 : Int)).map (Value.int .u8)).toArray 5
  have a1 : Below w1.heap.size w1 (w1.alloc (.cells ((List.replicate n (0 : Int)).map (Value.int .u8)).toArray 5)) := (Below.refl _ _).alloc (Nat.le_refl _) _
  obtain ⟨w2, hw2⟩ : ∃ w2, w1.alloc (.cells ((List.replicate n (0 : Int)).map (Value.int .u8)).toArray 5) = w2 := ⟨_, rfl⟩
  obtain ⟨hb, hhb⟩ : ∃ hb, w1.heap.size = hb := ⟨_, rfl⟩
  rw [hw2] at hmk b1 a1
  have M0 : Mid w F1 w2 p n hb (DSt.new n) (List.replicate n 0) (List.replicate n 0) := by
    rw [← hhb]
    exact ⟨(Own.mk t1 hF1).later a1, D1.below a1, rfl, b1, by simp, by simp, fun h => by have := D1.lt h; omega, t1.size, fun k hk => by rw [DSt.seen_new hk]; simp⟩
  have HM := Lib.hid M0
  rw [hhb] at hmk
  clear M0 a1 b1 D1 hF1 t1 hw2 hhb
  go_wp2_with fail
  clear hmk
  go_loopw [13] (fun vi wr => ∃ (i : Nat) (F : Nat → Prop) (st : DSt) (hl : List Int), i ≤ m0 ∧ vi = .int .i64 i ∧ st.cache.length = i ∧ Hid (Mid w F wr p n hb st hl hl)) (fun vi _ => m0 - (intOf vi).toNat)
  case atStart => exact ⟨0, F1, DSt.new n, List.replicate n 0, Nat.zero_le _, rfl, rfl, HM⟩
  case round =>
    obtain ⟨i, F, st, hl, hi, rfl, hci, M⟩ := hrel
    by_cases hlt : i < m0
    · obtain ⟨b, o, a, z, rfl, hx, hcells⟩ := put_at R0.out hlt
      have HC := Lib.hid hcells
      clear hcells
      obtain ⟨v0, v1⟩ := HC.out wr M.out.own.below
      obtain ⟨e0, e1⟩ := spot_eq a n (by omega)
      obtain ⟨kk, hkk⟩ : ∃ kk, spotOf a n = kk := ⟨_, rfl⟩
      rw [hkk] at e0 e1
      have hk0 : (0 : Int) ≤ (kk : Int) := Int.natCast_nonneg _
      have hk1 : (kk : Int) < (n : Int) := by omega
      go_wp2_with fail
      refine (full_at z wr).mono ?_
      rintro e w3 ⟨b3, o3, rfl, l3, l3', R3, t3⟩
      have M3 := Lib.hid (M.out.later t3)
      have n3 : ¬ F b3 := fun h => by have := M.out.drv.lt h; omega
      clear v0 v1 M t3 l3 l3'
      go_wp2_with fail
      refine (write_good (Lib.hid M3.out.drv) M3.out.live kk e1 (Lib.hid R3) n3 (by omega)).mono ?_
      rintro e w4 ⟨rfl, F4, D4, hF4, K4⟩
      have M4 := M3.out.write e1 (z := z) D4 hF4 K4
      have M5 := Lib.hid (M4.note kk z)
      obtain ⟨v0, v1⟩ := HC.out w4 ((M3.out.own.upd hF4 K4).below)
      have hx4 := M3.out.had.keeps K4 M3.out.out
      have q0 : w4.cell? ⟨hb, kk, none⟩ = some (.int .u8 (hl[kk]'(by rw [M3.out.len]; exact e1))) := by rw [hx4.cell]; simp [M3.out.len, e1]
      have q1 := hx4.frozen kk
      obtain ⟨ov, hov⟩ : ∃ ov, hl[kk]'(by rw [M3.out.len]; exact e1) = ov := ⟨_, rfl⟩
      rw [hov] at q0
      obtain ⟨w5, hw5⟩ : ∃ w5, w4.setCell ⟨hb, kk, none⟩ (.int .u8 z) = w5 := ⟨_, rfl⟩
      rw [hw5] at M5
      clear hov hx4 D4 hF4 K4 M3 R3 n3 M4
      go_wp2_with fail
      clear q0 q1 v0 v1 hw5
      refine (read_at (Lib.hid M5.out.drv) M5.out.live kk e1).mono ?_
      rintro e w6 ⟨b6, o6, rfl, l6, l6', R6, t6⟩
      have es : (st.write (kk : Int) (rep z)).seen kk = rep z := by rw [DSt.seen_write]; simp
      rw [es] at R6
      have M6 := Lib.hid (M5.out.later t6)
      have R6 := Lib.hid R6
      have c6 : ∀ w', Below w6.heap.size w6 w' → (convert 27 9 (.slice (some ⟨b6, o6, none⟩) 64 64)).run Try.prog w' = .ok (.string (strOfNums (rep z))) w' := fun w' h => conv_run (R6.out.below U8R.stable h) (by omega)
      have v6 : ∀ w', Below w6.heap.size w6 w' → w'.cell? ⟨b, o + i * 2 + 1, none⟩ = some (.int .u8 z) := fun w' h => (HC.out w' (M6.out.own.later h).below).2
      clear M5 es t6 l6 l6'
      go_wp2_with fail
      refine wp_region_held_drew (S := (fun w' => Below w6.heap.size w6 w')) (by kernel_rfl) (by first | exact (Below.refl _ _).drew | assumption) (fun hHeld => ?_)
      refine wpAnyH_take (i := 0) (v := ?_) rfl (by kernel_rfl) (by kernel_rfl) (by kernel_rfl) (fun _ _ _ h => h) (Or.inl ⟨by rfl, ?_⟩) (by assumption) ?_
      rotate_left
      · (intro wq hSw; (try dsimp only at hSw); (try simp only [List.getElem_toArray, List.getElem_cons_succ, List.getElem_cons_zero]); go_simp); try with_reducible rfl
      try simp only [List.getElem_toArray, List.getElem_cons_succ, List.getElem_cons_zero, Act.put, List.setIfInBounds_toArray, List.set_cons_zero, List.set_cons_succ]
      refine wpAnyH_take (i := 1) (v := ?_) rfl (by kernel_rfl) (by kernel_rfl) (by kernel_rfl) (fun _ _ _ h => h) (Or.inl ⟨by rfl, ?_⟩) (by assumption) ?_
      rotate_left
      · (intro wq hSw; (try dsimp only at hSw); (try simp only [List.getElem_toArray, List.getElem_cons_succ, List.getElem_cons_zero]); go_simp); try with_reducible rfl
      try simp only [List.getElem_toArray, List.getElem_cons_succ, List.getElem_cons_zero, Act.put, List.setIfInBounds_toArray, List.set_cons_zero, List.set_cons_succ]
      refine wpAnyH_take (i := 2) (v := ?_) rfl (by kernel_rfl) (by kernel_rfl) (by kernel_rfl) (fun _ _ _ h => h) (Or.inl ⟨by rfl, ?_⟩) (by assumption) ?_
      rotate_left
      · (intro wq hSw; (try dsimp only at hSw); (try simp only [List.getElem_toArray, List.getElem_cons_succ, List.getElem_cons_zero]); go_simp); try with_reducible rfl
      try simp only [List.getElem_toArray, List.getElem_cons_succ, List.getElem_cons_zero, Act.put, List.setIfInBounds_toArray, List.set_cons_zero, List.set_cons_succ]
      refine wpAnyH_take (i := 3) (v := ?_) rfl (by kernel_rfl) (by kernel_rfl) (by kernel_rfl) (fun _ _ _ h => h) (Or.inl ⟨by rfl, ?_⟩) (by assumption) ?_
      rotate_left
      · (intro wq hSw; (try dsimp only at hSw); (try simp only [List.getElem_toArray, List.getElem_cons_succ, List.getElem_cons_zero]); go_simp); try with_reducible rfl
      try simp only [List.getElem_toArray, List.getElem_cons_succ, List.getElem_cons_zero, Act.put, List.setIfInBounds_toArray, List.set_cons_zero, List.set_cons_succ]
      refine wpAnyH_take (i := 4) (v := ?_) rfl (by kernel_rfl) (by kernel_rfl) (by kernel_rfl) (fun _ _ _ h => h) (Or.inl ⟨by rfl, ?_⟩) (by assumption) ?_
      rotate_left
      · (intro wq hSw; (try dsimp only at hSw); (try simp only [List.getElem_toArray, List.getElem_cons_succ, List.getElem_cons_zero]); go_simp); try with_reducible rfl
      try simp only [List.getElem_toArray, List.getElem_cons_succ, List.getElem_cons_zero, Act.put, List.setIfInBounds_toArray, List.set_cons_zero, List.set_cons_succ]
      refine wpAnyH_take (i := 5) (v := ?_) rfl (by kernel_rfl) (by kernel_rfl) (by kernel_rfl) (fun _ _ _ h => h) (Or.inl ⟨by rfl, ?_⟩) (by assumption) ?_
      rotate_left
      · (intro wq hSw; (try dsimp only at hSw); (try simp only [List.getElem_toArray, List.getElem_cons_succ, List.getElem_cons_zero]); go_simp); try with_reducible rfl
      try simp only [List.getElem_toArray, List.getElem_cons_succ, List.getElem_cons_zero, Act.put, List.setIfInBounds_toArray, List.set_cons_zero, List.set_cons_succ]
      refine wpAnyH_take (i := 6) (v := ?_) rfl (by kernel_rfl) (by kernel_rfl) (by kernel_rfl) (fun _ _ _ h => h) (Or.inl ⟨by rfl, ?_⟩) (by assumption) ?_
      rotate_left
      · (intro wq hSw; (try dsimp only at hSw); (try simp only [List.getElem_toArray, List.getElem_cons_succ, List.getElem_cons_zero]); go_simp); try with_reducible rfl
      try simp only [List.getElem_toArray, List.getElem_cons_succ, List.getElem_cons_zero, Act.put, List.setIfInBounds_toArray, List.set_cons_zero, List.set_cons_succ]
      refine wpAnyH_take (i := 7) (v := ?_) rfl (by kernel_rfl) (by kernel_rfl) (by kernel_rfl) (fun _ _ _ h => h) (Or.inl ⟨by rfl, ?_⟩) (by assumption) ?_
      rotate_left
      · (intro wq hSw; (try dsimp only at hSw); (try simp only [List.getElem_toArray, List.getElem_cons_succ, List.getElem_cons_zero]); go_simp); try with_reducible rfl
      try simp only [List.getElem_toArray, List.getElem_cons_succ, List.getElem_cons_zero, Act.put, List.setIfInBounds_toArray, List.set_cons_zero, List.set_cons_succ]
      refine wpAnyH_take (i := 8) (v := ?_) rfl (by kernel_rfl) (by kernel_rfl) (by kernel_rfl) (fun _ _ _ h => h) (Or.inl ⟨by rfl, ?_⟩) (by assumption) ?_
      rotate_left
      · (intro wq hSw; (try dsimp only at hSw); (try simp only [List.getElem_toArray, List.getElem_cons_succ, List.getElem_cons_zero]); go_simp); try with_reducible rfl
      try simp only [List.getElem_toArray, List.getElem_cons_succ, List.getElem_cons_zero, Act.put, List.setIfInBounds_toArray, List.set_cons_zero, List.set_cons_succ]
      refine wpAnyH_take (i := 9) (v := ?_) rfl (by kernel_rfl) (by kernel_rfl) (by kernel_rfl) (fun _ _ _ h => h) (Or.inl ⟨by rfl, ?_⟩) (by assumption) ?_
      rotate_left
      · (intro wq hSw; (try dsimp only at hSw); (try simp only [List.getElem_toArray, List.getElem_cons_succ, List.getElem_cons_zero]); go_simp); try with_reducible rfl
      try simp only [List.getElem_toArray, List.getElem_cons_succ, List.getElem_cons_zero, Act.put, List.setIfInBounds_toArray, List.set_cons_zero, List.set_cons_succ]
      refine wpAnyH_ready (rs := [10]) (by kernel_rfl) (by simp) ?_
      refine AllReadyH.cons rfl (fun K hK => ?_) AllReadyH.nil
      try simp only [List.getElem_toArray, List.getElem_cons_succ, List.getElem_cons_zero]
      go_simp
      go_at_call 13
      refine (full_at _ _).mono ?_
      rintro e wz ⟨bz, oz, rfl, _, _, rz, tz⟩
      have tq := below_then tz (by assumption)
      have cz := conv_run (c := 64) rz (by omega)
      try (go_wp2_with fail)
      refine hK.out _ _ (by first | exact (Below.refl _ _).drew | assumption) (fun hHeld => ?_)
      clear hK K
      try simp only [List.getElem_toArray, List.getElem_cons_succ, List.getElem_cons_zero, Act.put, List.setIfInBounds_toArray, List.set_cons_zero, List.set_cons_succ]
      refine wpAnyH_ready (rs := [11]) (by kernel_rfl) (by simp) ?_
      refine AllReadyH.cons rfl (fun K hK => ?_) AllReadyH.nil
      try simp only [List.getElem_toArray, List.getElem_cons_succ, List.getElem_cons_zero]
      go_simp
      refine hK.out _ _ (by first | exact (Below.refl _ _).drew | assumption) (fun hHeld => ?_)
      clear hK K
      try simp only [List.getElem_toArray, List.getElem_cons_succ, List.getElem_cons_zero, Act.put, List.setIfInBounds_toArray, List.set_cons_zero, List.set_cons_succ]
      refine wpAnyH_take (i := 12) (v := ?_) rfl (by kernel_rfl) (by kernel_rfl) (by kernel_rfl) (fun _ _ _ h => h) (Or.inl ⟨by rfl, ?_⟩) (by assumption) ?_
      rotate_left
      · (intro wq hSw; (try dsimp only at hSw); (try simp only [List.getElem_toArray, List.getElem_cons_succ, List.getElem_cons_zero]); go_simp); try with_reducible rfl
      try simp only [List.getElem_toArray, List.getElem_cons_succ, List.getElem_cons_zero, Act.put, List.setIfInBounds_toArray, List.set_cons_zero, List.set_cons_succ]
      refine wpAnyH_take (i := 13) (v := ?_) rfl (by kernel_rfl) (by kernel_rfl) (by kernel_rfl) (fun _ _ _ h => h) (Or.inl ⟨by rfl, ?_⟩) (by assumption) ?_
      rotate_left
      · (intro wq hSw; (try dsimp only at hSw); (try simp only [List.getElem_toArray, List.getElem_cons_succ, List.getElem_cons_zero]); go_simp); try with_reducible rfl
      try simp only [List.getElem_toArray, List.getElem_cons_succ, List.getElem_cons_zero, Act.put, List.setIfInBounds_toArray, List.set_cons_zero, List.set_cons_succ]
      refine wpAnyH_done (by kernel_rfl) ?_ _
      go_wp2_with fail
      exact ⟨⟨i + 1, F4, _, _, by omega, by go_num, by simp [DSt.write, hci], Lib.hid (M6.out.later tq)⟩, by simp [intOf]; omega⟩
    · obtain rfl : i = m0 := by omega
      clear HM hlt hi
      obtain ⟨e0, e1⟩ := spot_eq at_ n (by omega)
      obtain ⟨sp, hsp⟩ : ∃ sp, spotOf at_ n = sp := ⟨_, rfl⟩
      rw [hsp] at e0 e1
      have hk0 : (0 : Int) ≤ (sp : Int) := Int.natCast_nonneg _
      have hk1 : (sp : Int) < (n : Int) := by omega
      go_wp2_with fail
      refine (flush_good (Lib.hid M.out.drv) M.out.live (by omega)).mono ?_
      rintro e w3 ⟨rfl, F3, D3, hF3, K3⟩
      have M3 := Lib.hid (M.out.flush D3 hF3 K3)
      clear D3 hF3 K3 M
      go_wp2_with fail
      refine (full_at c w3).mono ?_
      rintro e w4 ⟨b4, o4, rfl, l4, l4', R4, t4⟩
      have n4 : ¬ F3 b4 := fun h => by have := M3.out.drv.lt h; omega
      have M4 := Lib.hid (M3.out.later t4)
      clear M3 t4 l4 l4'
      go_wp2_with fail
      refine (write_good (Lib.hid M4.out.drv) M4.out.live sp e1 (Lib.hid R4) n4 (by simp [DSt.settle])).mono ?_
      rintro e w5 ⟨rfl, F5, D5, hF5, K5⟩
      have M5 := Lib.hid (M4.out.write e1 (z := c) D5 hF5 K5)
      have hst : (st.settle fun _ => true).stored.length = n := M4.out.drv.ok.sl
      have hse := M4.out.sees
      have hln := M4.out.len2
      clear D5 hF5 K5 n4
      go_wp2_with fail
      refine (crash_any (c := c1) (Lib.hid M5.out.drv) (by simp [DSt.settle, DSt.write]) (S := fun b => b < w.heap.size) (ks := ks) (A := A1) (m := m1) (Lib.hid (R1.out.below BoolR.stable M5.out.own.below)) (fun b hb hf => by have := M5.out.own.own b hf; omega)).mono ?_
      rintro e w6 ⟨rfl, F6, D6, hF6, K6⟩
      have M6 := Lib.hid (M5.out.upd (sl' := wantL hl ks sp c) D6 hF6 K6 M5.out.live (by unfold wantL; split <;> simp [hln]) (fun k hk => by
        rw [crash_one _ rfl sp (rep c) (keepOf ks) hst hk]
        unfold wantL
        by_cases h : keepOf ks 0 = true
        · by_cases e : sp = k
          · subst e; simp [h]
          · simp [h, e, List.getElem_set_ne e, hse k hk]
        · simp [h, hse k hk]))
      obtain ⟨st6, hst6⟩ : ∃ s, (((st.settle fun _ => true).write (sp : Int) (rep c)).settle (keepOf ks)) = s := ⟨_, rfl⟩
      rw [hst6] at M6
      clear M4 R4 M5 hst hse D6 hF6 K6 hst6
      go_wp2_with fail
      go_loopw [18] (fun vi wr => ∃ k : Nat, k ≤ n ∧ vi = .int .i64 k ∧ Hid (Mid w F6 wr p n hb st6 hl (wantL hl ks sp c))) (fun vi _ => n - (intOf vi).toNat)
      case atStart => exact ⟨0, Nat.zero_le _, rfl, M6⟩
      case round =>
        obtain ⟨k, hk, rfl, M⟩ := hrel
        by_cases hkn : k < n
        · have hwl : (wantL hl ks sp c).length = n := M.out.len2
          obtain ⟨wv, hwv⟩ : ∃ wv, (wantL hl ks sp c)[k]'(by omega) = wv := ⟨_, rfl⟩
          have hse := M.out.sees k hkn
          rw [hwv] at hse
          have hk2 : (k : Int) < (n : Int) := by omega
          go_wp2_with fail
          refine (read_at (Lib.hid M.out.drv) M.out.live k hkn).mono ?_
          rintro e w7 ⟨b7, o7, rfl, l7, l7', R7, t7⟩
          rw [hse] at R7
          have R7 := Lib.hid R7
          have M7 := Lib.hid (M.out.later t7)
          have c7 : ∀ w', Below w7.heap.size w7 w' → (convert 27 9 (.slice (some ⟨b7, o7, none⟩) 64 64)).run Try.prog w' = .ok (.string (strOfNums (rep wv))) w' := fun w' h => conv_run (R7.out.below U8R.stable h) (by omega)
          have q0 : w7.cell? ⟨hb, k, none⟩ = some (.int .u8 (hl[k]'(by rw [hln]; exact hkn))) := by rw [M7.out.had.cell]; simp [hln, hkn]
          obtain ⟨ov, hov⟩ : ∃ ov, hl[k]'(by rw [hln]; exact hkn) = ov := ⟨_, rfl⟩
          rw [hov] at q0
          have hcase : wv = if keepOf ks 0 = true ∧ k = sp then c else ov := by
            rw [← hwv, ← hov]
            unfold wantL
            by_cases h : keepOf ks 0 = true
            · by_cases e : k = sp
              · subst e; simp [h]
              · have e2 : sp ≠ k := fun h => e h.symm
                simp [h, e, List.getElem_set_ne e2]
            · simp [h]
          clear hse t7 l7 l7' M hwv hov
          by_cases hks : k = sp
          · subst hks
            by_cases hm1 : 0 < m1
            · obtain ⟨kb, ko, kv, rfl, hkv, hkc⟩ := bool_first R1.out hm1
              have q1 := hkc w7 M7.out.own.below
              have hm2 : (0 : Int) < (m1 : Int) := by omega
              rw [hkv] at hcase
              clear hkc
              cases kv
              · obtain rfl : wv = ov := by simpa using hcase
                clear hcase hkv
                go_wp2_with fail
                refine wp_region_held_drew (S := (fun w' => Below w7.heap.size w7 w')) (by kernel_rfl) (by first | exact (Below.refl _ _).drew | assumption) (fun hHeld => ?_)
                refine wpAnyH_take (i := 0) (v := ?_) rfl (by kernel_rfl) (by kernel_rfl) (by kernel_rfl) (fun _ _ _ h => h) (Or.inl ⟨by rfl, ?_⟩) (by assumption) ?_
                rotate_left
                · (intro wq hSw; (try dsimp only at hSw); (try simp only [List.getElem_toArray, List.getElem_cons_succ, List.getElem_cons_zero]); go_simp); try with_reducible rfl
                try simp only [List.getElem_toArray, List.getElem_cons_succ, List.getElem_cons_zero, Act.put, List.setIfInBounds_toArray, List.set_cons_zero, List.set_cons_succ]
                refine wpAnyH_take (i := 1) (v := ?_) rfl (by kernel_rfl) (by kernel_rfl) (by kernel_rfl) (fun _ _ _ h => h) (Or.inl ⟨by rfl, ?_⟩) (by assumption) ?_
                rotate_left
                · (intro wq hSw; (try dsimp only at hSw); (try simp only [List.getElem_toArray, List.getElem_cons_succ, List.getElem_cons_zero]); go_simp); try with_reducible rfl
                try simp only [List.getElem_toArray, List.getElem_cons_succ, List.getElem_cons_zero, Act.put, List.setIfInBounds_toArray, List.set_cons_zero, List.set_cons_succ]
                refine wpAnyH_take (i := 2) (v := ?_) rfl (by kernel_rfl) (by kernel_rfl) (by kernel_rfl) (fun _ _ _ h => h) (Or.inl ⟨by rfl, ?_⟩) (by assumption) ?_
                rotate_left
                · (intro wq hSw; (try dsimp only at hSw); (try simp only [List.getElem_toArray, List.getElem_cons_succ, List.getElem_cons_zero]); go_simp); try with_reducible rfl
                try simp only [List.getElem_toArray, List.getElem_cons_succ, List.getElem_cons_zero, Act.put, List.setIfInBounds_toArray, List.set_cons_zero, List.set_cons_succ]
                refine wpAnyH_take (i := 3) (v := ?_) rfl (by kernel_rfl) (by kernel_rfl) (by kernel_rfl) (fun _ _ _ h => h) (Or.inl ⟨by rfl, ?_⟩) (by assumption) ?_
                rotate_left
                · (intro wq hSw; (try dsimp only at hSw); (try simp only [List.getElem_toArray, List.getElem_cons_succ, List.getElem_cons_zero]); go_simp); try with_reducible rfl
                try simp only [List.getElem_toArray, List.getElem_cons_succ, List.getElem_cons_zero, Act.put, List.setIfInBounds_toArray, List.set_cons_zero, List.set_cons_succ]
                refine wpAnyH_take (i := 4) (v := ?_) rfl (by kernel_rfl) (by kernel_rfl) (by kernel_rfl) (fun _ _ _ h => h) (Or.inl ⟨by rfl, ?_⟩) (by assumption) ?_
                rotate_left
                · (intro wq hSw; (try dsimp only at hSw); (try simp only [List.getElem_toArray, List.getElem_cons_succ, List.getElem_cons_zero]); go_simp); try with_reducible rfl
                try simp only [List.getElem_toArray, List.getElem_cons_succ, List.getElem_cons_zero, Act.put, List.setIfInBounds_toArray, List.set_cons_zero, List.set_cons_succ]
                refine wpAnyH_take (i := 5) (v := ?_) rfl (by kernel_rfl) (by kernel_rfl) (by kernel_rfl) (fun _ _ _ h => h) (Or.inl ⟨by rfl, ?_⟩) (by assumption) ?_
                rotate_left
                · (intro wq hSw; (try dsimp only at hSw); (try simp only [List.getElem_toArray, List.getElem_cons_succ, List.getElem_cons_zero]); go_simp); try with_reducible rfl
                try simp only [List.getElem_toArray, List.getElem_cons_succ, List.getElem_cons_zero, Act.put, List.setIfInBounds_toArray, List.set_cons_zero, List.set_cons_succ]
                refine wpAnyH_ready (rs := [6]) (by kernel_rfl) (by simp) ?_
                refine AllReadyH.cons rfl (fun K hK => ?_) AllReadyH.nil
                try simp only [List.getElem_toArray, List.getElem_cons_succ, List.getElem_cons_zero]
                go_simp
                go_at_call 13
                refine (full_at _ _).mono ?_
                rintro e wz ⟨bz, oz, rfl, _, _, rz, tz⟩
                have tq := below_then tz (by assumption)
                have cz := conv_run (c := 64) rz (by omega)
                try (go_wp2_with fail)
                refine hK.out _ _ (by first | exact (Below.refl _ _).drew | assumption) (fun hHeld => ?_)
                clear hK K
                try simp only [List.getElem_toArray, List.getElem_cons_succ, List.getElem_cons_zero, Act.put, List.setIfInBounds_toArray, List.set_cons_zero, List.set_cons_succ]
                refine wpAnyH_ready (rs := [7]) (by kernel_rfl) (by simp) ?_
                refine AllReadyH.cons rfl (fun K hK => ?_) AllReadyH.nil
                try simp only [List.getElem_toArray, List.getElem_cons_succ, List.getElem_cons_zero]
                go_simp
                refine hK.out _ _ (by first | exact (Below.refl _ _).drew | assumption) (fun hHeld => ?_)
                clear hK K
                try simp only [List.getElem_toArray, List.getElem_cons_succ, List.getElem_cons_zero, Act.put, List.setIfInBounds_toArray, List.set_cons_zero, List.set_cons_succ]
                refine wpAnyH_take (i := 8) (v := ?_) rfl (by kernel_rfl) (by kernel_rfl) (by kernel_rfl) (fun _ _ _ h => h) (Or.inl ⟨by rfl, ?_⟩) (by assumption) ?_
                rotate_left
                · (intro wq hSw; (try dsimp only at hSw); (try simp only [List.getElem_toArray, List.getElem_cons_succ, List.getElem_cons_zero]); go_simp); try with_reducible rfl
                try simp only [List.getElem_toArray, List.getElem_cons_succ, List.getElem_cons_zero, Act.put, List.setIfInBounds_toArray, List.set_cons_zero, List.set_cons_succ]
                refine wpAnyH_take (i := 9) (v := ?_) rfl (by kernel_rfl) (by kernel_rfl) (by kernel_rfl) (fun _ _ _ h => h) (Or.inl ⟨by rfl, ?_⟩) (by assumption) ?_
                rotate_left
                · (intro wq hSw; (try dsimp only at hSw); (try simp only [List.getElem_toArray, List.getElem_cons_succ, List.getElem_cons_zero]); go_simp); try with_reducible rfl
                try simp only [List.getElem_toArray, List.getElem_cons_succ, List.getElem_cons_zero, Act.put, List.setIfInBounds_toArray, List.set_cons_zero, List.set_cons_succ]
                refine wpAnyH_done (by kernel_rfl) ?_ _
                go_wp2_with fail
                exact ⟨⟨k + 1, by omega, by go_num, Lib.hid (M7.out.later tq)⟩, by simp [intOf]; omega⟩
              · obtain rfl : wv = c := by simpa using hcase
                clear hcase hkv
                go_wp2_with fail
                refine wp_region_held_drew (S := (fun w' => Below w7.heap.size w7 w')) (by kernel_rfl) (by first | exact (Below.refl _ _).drew | assumption) (fun hHeld => ?_)
                refine wpAnyH_take (i := 0) (v := ?_) rfl (by kernel_rfl) (by kernel_rfl) (by kernel_rfl) (fun _ _ _ h => h) (Or.inl ⟨by rfl, ?_⟩) (by assumption) ?_
                rotate_left
                · (intro wq hSw; (try dsimp only at hSw); (try simp only [List.getElem_toArray, List.getElem_cons_succ, List.getElem_cons_zero]); go_simp); try with_reducible rfl
                try simp only [List.getElem_toArray, List.getElem_cons_succ, List.getElem_cons_zero, Act.put, List.setIfInBounds_toArray, List.set_cons_zero, List.set_cons_succ]
                refine wpAnyH_take (i := 1) (v := ?_) rfl (by kernel_rfl) (by kernel_rfl) (by kernel_rfl) (fun _ _ _ h => h) (Or.inl ⟨by rfl, ?_⟩) (by assumption) ?_
                rotate_left
                · (intro wq hSw; (try dsimp only at hSw); (try simp only [List.getElem_toArray, List.getElem_cons_succ, List.getElem_cons_zero]); go_simp); try with_reducible rfl
                try simp only [List.getElem_toArray, List.getElem_cons_succ, List.getElem_cons_zero, Act.put, List.setIfInBounds_toArray, List.set_cons_zero, List.set_cons_succ]
                refine wpAnyH_take (i := 2) (v := ?_) rfl (by kernel_rfl) (by kernel_rfl) (by kernel_rfl) (fun _ _ _ h => h) (Or.inl ⟨by rfl, ?_⟩) (by assumption) ?_
                rotate_left
                · (intro wq hSw; (try dsimp only at hSw); (try simp only [List.getElem_toArray, List.getElem_cons_succ, List.getElem_cons_zero]); go_simp); try with_reducible rfl
                try simp only [List.getElem_toArray, List.getElem_cons_succ, List.getElem_cons_zero, Act.put, List.setIfInBounds_toArray, List.set_cons_zero, List.set_cons_succ]
                refine wpAnyH_take (i := 3) (v := ?_) rfl (by kernel_rfl) (by kernel_rfl) (by kernel_rfl) (fun _ _ _ h => h) (Or.inl ⟨by rfl, ?_⟩) (by assumption) ?_
                rotate_left
                · (intro wq hSw; (try dsimp only at hSw); (try simp only [List.getElem_toArray, List.getElem_cons_succ, List.getElem_cons_zero]); go_simp); try with_reducible rfl
                try simp only [List.getElem_toArray, List.getElem_cons_succ, List.getElem_cons_zero, Act.put, List.setIfInBounds_toArray, List.set_cons_zero, List.set_cons_succ]
                refine wpAnyH_take (i := 4) (v := ?_) rfl (by kernel_rfl) (by kernel_rfl) (by kernel_rfl) (fun _ _ _ h => h) (Or.inl ⟨by rfl, ?_⟩) (by assumption) ?_
                rotate_left
                · (intro wq hSw; (try dsimp only at hSw); (try simp only [List.getElem_toArray, List.getElem_cons_succ, List.getElem_cons_zero]); go_simp); try with_reducible rfl
                try simp only [List.getElem_toArray, List.getElem_cons_succ, List.getElem_cons_zero, Act.put, List.setIfInBounds_toArray, List.set_cons_zero, List.set_cons_succ]
                refine wpAnyH_take (i := 5) (v := ?_) rfl (by kernel_rfl) (by kernel_rfl) (by kernel_rfl) (fun _ _ _ h => h) (Or.inl ⟨by rfl, ?_⟩) (by assumption) ?_
                rotate_left
                · (intro wq hSw; (try dsimp only at hSw); (try simp only [List.getElem_toArray, List.getElem_cons_succ, List.getElem_cons_zero]); go_simp); try with_reducible rfl
                try simp only [List.getElem_toArray, List.getElem_cons_succ, List.getElem_cons_zero, Act.put, List.setIfInBounds_toArray, List.set_cons_zero, List.set_cons_succ]
                refine wpAnyH_ready (rs := [6]) (by kernel_rfl) (by simp) ?_
                refine AllReadyH.cons rfl (fun K hK => ?_) AllReadyH.nil
                try simp only [List.getElem_toArray, List.getElem_cons_succ, List.getElem_cons_zero]
                go_simp
                go_at_call 13
                refine (full_at _ _).mono ?_
                rintro e wz ⟨bz, oz, rfl, _, _, rz, tz⟩
                have tq := below_then tz (by assumption)
                have cz := conv_run (c := 64) rz (by omega)
                try (go_wp2_with fail)
                refine hK.out _ _ (by first | exact (Below.refl _ _).drew | assumption) (fun hHeld => ?_)
                clear hK K
                try simp only [List.getElem_toArray, List.getElem_cons_succ, List.getElem_cons_zero, Act.put, List.setIfInBounds_toArray, List.set_cons_zero, List.set_cons_succ]
                refine wpAnyH_ready (rs := [7]) (by kernel_rfl) (by simp) ?_
                refine AllReadyH.cons rfl (fun K hK => ?_) AllReadyH.nil
                try simp only [List.getElem_toArray, List.getElem_cons_succ, List.getElem_cons_zero]
                go_simp
                refine hK.out _ _ (by first | exact (Below.refl _ _).drew | assumption) (fun hHeld => ?_)
                clear hK K
                try simp only [List.getElem_toArray, List.getElem_cons_succ, List.getElem_cons_zero, Act.put, List.setIfInBounds_toArray, List.set_cons_zero, List.set_cons_succ]
                refine wpAnyH_take (i := 8) (v := ?_) rfl (by kernel_rfl) (by kernel_rfl) (by kernel_rfl) (fun _ _ _ h => h) (Or.inl ⟨by rfl, ?_⟩) (by assumption) ?_
                rotate_left
                · (intro wq hSw; (try dsimp only at hSw); (try simp only [List.getElem_toArray, List.getElem_cons_succ, List.getElem_cons_zero]); go_simp); try with_reducible rfl
                try simp only [List.getElem_toArray, List.getElem_cons_succ, List.getElem_cons_zero, Act.put, List.setIfInBounds_toArray, List.set_cons_zero, List.set_cons_succ]
                refine wpAnyH_take (i := 9) (v := ?_) rfl (by kernel_rfl) (by kernel_rfl) (by kernel_rfl) (fun _ _ _ h => h) (Or.inl ⟨by rfl, ?_⟩) (by assumption) ?_
                rotate_left
                · (intro wq hSw; (try dsimp only at hSw); (try simp only [List.getElem_toArray, List.getElem_cons_succ, List.getElem_cons_zero]); go_simp); try with_reducible rfl
                try simp only [List.getElem_toArray, List.getElem_cons_succ, List.getElem_cons_zero, Act.put, List.setIfInBounds_toArray, List.set_cons_zero, List.set_cons_succ]
                refine wpAnyH_done (by kernel_rfl) ?_ _
                go_wp2_with fail
                exact ⟨⟨k + 1, by omega, by go_num, Lib.hid (M7.out.later tq)⟩, by simp [intOf]; omega⟩
            · have hm0 : m1 = 0 := by omega
              obtain rfl : wv = ov := by simpa [keepOf_nil (R1.out.1.trans hm0)] using hcase
              have hm2 : ¬ (0 : Int) < (m1 : Int) := by omega
              clear hcase hm0
              go_wp2_with fail
              refine wp_region_held_drew (S := (fun w' => Below w7.heap.size w7 w')) (by kernel_rfl) (by first | exact (Below.refl _ _).drew | assumption) (fun hHeld => ?_)
              refine wpAnyH_take (i := 0) (v := ?_) rfl (by kernel_rfl) (by kernel_rfl) (by kernel_rfl) (fun _ _ _ h => h) (Or.inl ⟨by rfl, ?_⟩) (by assumption) ?_
              rotate_left
              · (intro wq hSw; (try dsimp only at hSw); (try simp only [List.getElem_toArray, List.getElem_cons_succ, List.getElem_cons_zero]); go_simp); try with_reducible rfl
              try simp only [List.getElem_toArray, List.getElem_cons_succ, List.getElem_cons_zero, Act.put, List.setIfInBounds_toArray, List.set_cons_zero, List.set_cons_succ]
              refine wpAnyH_take (i := 1) (v := ?_) rfl (by kernel_rfl) (by kernel_rfl) (by kernel_rfl) (fun _ _ _ h => h) (Or.inl ⟨by rfl, ?_⟩) (by assumption) ?_
              rotate_left
              · (intro wq hSw; (try dsimp only at hSw); (try simp only [List.getElem_toArray, List.getElem_cons_succ, List.getElem_cons_zero]); go_simp); try with_reducible rfl
              try simp only [List.getElem_toArray, List.getElem_cons_succ, List.getElem_cons_zero, Act.put, List.setIfInBounds_toArray, List.set_cons_zero, List.set_cons_succ]
              refine wpAnyH_take (i := 2) (v := ?_) rfl (by kernel_rfl) (by kernel_rfl) (by kernel_rfl) (fun _ _ _ h => h) (Or.inl ⟨by rfl, ?_⟩) (by assumption) ?_
              rotate_left
              · (intro wq hSw; (try dsimp only at hSw); (try simp only [List.getElem_toArray, List.getElem_cons_succ, List.getElem_cons_zero]); go_simp); try with_reducible rfl
              try simp only [List.getElem_toArray, List.getElem_cons_succ, List.getElem_cons_zero, Act.put, List.setIfInBounds_toArray, List.set_cons_zero, List.set_cons_succ]
              refine wpAnyH_take (i := 3) (v := ?_) rfl (by kernel_rfl) (by kernel_rfl) (by kernel_rfl) (fun _ _ _ h => h) (Or.inl ⟨by rfl, ?_⟩) (by assumption) ?_
              rotate_left
              · (intro wq hSw; (try dsimp only at hSw); (try simp only [List.getElem_toArray, List.getElem_cons_succ, List.getElem_cons_zero]); go_simp); try with_reducible rfl
              try simp only [List.getElem_toArray, List.getElem_cons_succ, List.getElem_cons_zero, Act.put, List.setIfInBounds_toArray, List.set_cons_zero, List.set_cons_succ]
              refine wpAnyH_take (i := 4) (v := ?_) rfl (by kernel_rfl) (by kernel_rfl) (by kernel_rfl) (fun _ _ _ h => h) (Or.inl ⟨by rfl, ?_⟩) (by assumption) ?_
              rotate_left
              · (intro wq hSw; (try dsimp only at hSw); (try simp only [List.getElem_toArray, List.getElem_cons_succ, List.getElem_cons_zero]); go_simp); try with_reducible rfl
              try simp only [List.getElem_toArray, List.getElem_cons_succ, List.getElem_cons_zero, Act.put, List.setIfInBounds_toArray, List.set_cons_zero, List.set_cons_succ]
              refine wpAnyH_take (i := 5) (v := ?_) rfl (by kernel_rfl) (by kernel_rfl) (by kernel_rfl) (fun _ _ _ h => h) (Or.inl ⟨by rfl, ?_⟩) (by assumption) ?_
              rotate_left
              · (intro wq hSw; (try dsimp only at hSw); (try simp only [List.getElem_toArray, List.getElem_cons_succ, List.getElem_cons_zero]); go_simp); try with_reducible rfl
              try simp only [List.getElem_toArray, List.getElem_cons_succ, List.getElem_cons_zero, Act.put, List.setIfInBounds_toArray, List.set_cons_zero, List.set_cons_succ]
              refine wpAnyH_ready (rs := [6]) (by kernel_rfl) (by simp) ?_
              refine AllReadyH.cons rfl (fun K hK => ?_) AllReadyH.nil
              try simp only [List.getElem_toArray, List.getElem_cons_succ, List.getElem_cons_zero]
              go_simp
              go_at_call 13
              refine (full_at _ _).mono ?_
              rintro e wz ⟨bz, oz, rfl, _, _, rz, tz⟩
              have tq := below_then tz (by assumption)
              have cz := conv_run (c := 64) rz (by omega)
              try (go_wp2_with fail)
              refine hK.out _ _ (by first | exact (Below.refl _ _).drew | assumption) (fun hHeld => ?_)
              clear hK K
              try simp only [List.getElem_toArray, List.getElem_cons_succ, List.getElem_cons_zero, Act.put, List.setIfInBounds_toArray, List.set_cons_zero, List.set_cons_succ]
              refine wpAnyH_ready (rs := [7]) (by kernel_rfl) (by simp) ?_
              refine AllReadyH.cons rfl (fun K hK => ?_) AllReadyH.nil
              try simp only [List.getElem_toArray, List.getElem_cons_succ, List.getElem_cons_zero]
              go_simp
              refine hK.out _ _ (by first | exact (Below.refl _ _).drew | assumption) (fun hHeld => ?_)
              clear hK K
              try simp only [List.getElem_toArray, List.getElem_cons_succ, List.getElem_cons_zero, Act.put, List.setIfInBounds_toArray, List.set_cons_zero, List.set_cons_succ]
              refine wpAnyH_take (i := 8) (v := ?_) rfl (by kernel_rfl) (by kernel_rfl) (by kernel_rfl) (fun _ _ _ h => h) (Or.inl ⟨by rfl, ?_⟩) (by assumption) ?_
              rotate_left
              · (intro wq hSw; (try dsimp only at hSw); (try simp only [List.getElem_toArray, List.getElem_cons_succ, List.getElem_cons_zero]); go_simp); try with_reducible rfl
              try simp only [List.getElem_toArray, List.getElem_cons_succ, List.getElem_cons_zero, Act.put, List.setIfInBounds_toArray, List.set_cons_zero, List.set_cons_succ]
              refine wpAnyH_take (i := 9) (v := ?_) rfl (by kernel_rfl) (by kernel_rfl) (by kernel_rfl) (fun _ _ _ h => h) (Or.inl ⟨by rfl, ?_⟩) (by assumption) ?_
              rotate_left
              · (intro wq hSw; (try dsimp only at hSw); (try simp only [List.getElem_toArray, List.getElem_cons_succ, List.getElem_cons_zero]); go_simp); try with_reducible rfl
              try simp only [List.getElem_toArray, List.getElem_cons_succ, List.getElem_cons_zero, Act.put, List.setIfInBounds_toArray, List.set_cons_zero, List.set_cons_succ]
              refine wpAnyH_done (by kernel_rfl) ?_ _
              go_wp2_with fail
              exact ⟨⟨k + 1, by omega, by go_num, Lib.hid (M7.out.later tq)⟩, by simp [intOf]; omega⟩
          · obtain rfl : wv = ov := by simpa [hks] using hcase
            have hks2 : ¬ (k : Int) = (sp : Int) := by omega
            clear hcase
            go_wp2_with fail
            refine wp_region_held_drew (S := (fun w' => Below w7.heap.size w7 w')) (by kernel_rfl) (by first | exact (Below.refl _ _).drew | assumption) (fun hHeld => ?_)
            refine wpAnyH_take (i := 0) (v := ?_) rfl (by kernel_rfl) (by kernel_rfl) (by kernel_rfl) (fun _ _ _ h => h) (Or.inl ⟨by rfl, ?_⟩) (by assumption) ?_
            rotate_left
            · (intro wq hSw; (try dsimp only at hSw); (try simp only [List.getElem_toArray, List.getElem_cons_succ, List.getElem_cons_zero]); go_simp); try with_reducible rfl
            try simp only [List.getElem_toArray, List.getElem_cons_succ, List.getElem_cons_zero, Act.put, List.setIfInBounds_toArray, List.set_cons_zero, List.set_cons_succ]
            refine wpAnyH_take (i := 1) (v := ?_) rfl (by kernel_rfl) (by kernel_rfl) (by kernel_rfl) (fun _ _ _ h => h) (Or.inl ⟨by rfl, ?_⟩) (by assumption) ?_
            rotate_left
            · (intro wq hSw; (try dsimp only at hSw); (try simp only [List.getElem_toArray, List.getElem_cons_succ, List.getElem_cons_zero]); go_simp); try with_reducible rfl
            try simp only [List.getElem_toArray, List.getElem_cons_succ, List.getElem_cons_zero, Act.put, List.setIfInBounds_toArray, List.set_cons_zero, List.set_cons_succ]
            refine wpAnyH_take (i := 2) (v := ?_) rfl (by kernel_rfl) (by kernel_rfl) (by kernel_rfl) (fun _ _ _ h => h) (Or.inl ⟨by rfl, ?_⟩) (by assumption) ?_
            rotate_left
            · (intro wq hSw; (try dsimp only at hSw); (try simp only [List.getElem_toArray, List.getElem_cons_succ, List.getElem_cons_zero]); go_simp); try with_reducible rfl
            try simp only [List.getElem_toArray, List.getElem_cons_succ, List.getElem_cons_zero, Act.put, List.setIfInBounds_toArray, List.set_cons_zero, List.set_cons_succ]
            refine wpAnyH_take (i := 3) (v := ?_) rfl (by kernel_rfl) (by kernel_rfl) (by kernel_rfl) (fun _ _ _ h => h) (Or.inl ⟨by rfl, ?_⟩) (by assumption) ?_
            rotate_left
            · (intro wq hSw; (try dsimp only at hSw); (try simp only [List.getElem_toArray, List.getElem_cons_succ, List.getElem_cons_zero]); go_simp); try with_reducible rfl
            try simp only [List.getElem_toArray, List.getElem_cons_succ, List.getElem_cons_zero, Act.put, List.setIfInBounds_toArray, List.set_cons_zero, List.set_cons_succ]
            refine wpAnyH_take (i := 4) (v := ?_) rfl (by kernel_rfl) (by kernel_rfl) (by kernel_rfl) (fun _ _ _ h => h) (Or.inl ⟨by rfl, ?_⟩) (by assumption) ?_
            rotate_left
            · (intro wq hSw; (try dsimp only at hSw); (try simp only [List.getElem_toArray, List.getElem_cons_succ, List.getElem_cons_zero]); go_simp); try with_reducible rfl
            try simp only [List.getElem_toArray, List.getElem_cons_succ, List.getElem_cons_zero, Act.put, List.setIfInBounds_toArray, List.set_cons_zero, List.set_cons_succ]
            refine wpAnyH_take (i := 5) (v := ?_) rfl (by kernel_rfl) (by kernel_rfl) (by kernel_rfl) (fun _ _ _ h => h) (Or.inl ⟨by rfl, ?_⟩) (by assumption) ?_
            rotate_left
            · (intro wq hSw; (try dsimp only at hSw); (try simp only [List.getElem_toArray, List.getElem_cons_succ, List.getElem_cons_zero]); go_simp); try with_reducible rfl
            try simp only [List.getElem_toArray, List.getElem_cons_succ, List.getElem_cons_zero, Act.put, List.setIfInBounds_toArray, List.set_cons_zero, List.set_cons_succ]
            refine wpAnyH_ready (rs := [6]) (by kernel_rfl) (by simp) ?_
            refine AllReadyH.cons rfl (fun K hK => ?_) AllReadyH.nil
            try simp only [List.getElem_toArray, List.getElem_cons_succ, List.getElem_cons_zero]
            go_simp
            go_at_call 13
            refine (full_at _ _).mono ?_
            rintro e wz ⟨bz, oz, rfl, _, _, rz, tz⟩
            have tq := below_then tz (by assumption)
            have cz := conv_run (c := 64) rz (by omega)
            try (go_wp2_with fail)
            refine hK.out _ _ (by first | exact (Below.refl _ _).drew | assumption) (fun hHeld => ?_)
            clear hK K
            try simp only [List.getElem_toArray, List.getElem_cons_succ, List.getElem_cons_zero, Act.put, List.setIfInBounds_toArray, List.set_cons_zero, List.set_cons_succ]
            refine wpAnyH_ready (rs := [7]) (by kernel_rfl) (by simp) ?_
            refine AllReadyH.cons rfl (fun K hK => ?_) AllReadyH.nil
            try simp only [List.getElem_toArray, List.getElem_cons_succ, List.getElem_cons_zero]
            go_simp
            refine hK.out _ _ (by first | exact (Below.refl _ _).drew | assumption) (fun hHeld => ?_)
            clear hK K
            try simp only [List.getElem_toArray, List.getElem_cons_succ, List.getElem_cons_zero, Act.put, List.setIfInBounds_toArray, List.set_cons_zero, List.set_cons_succ]
            refine wpAnyH_take (i := 8) (v := ?_) rfl (by kernel_rfl) (by kernel_rfl) (by kernel_rfl) (fun _ _ _ h => h) (Or.inl ⟨by rfl, ?_⟩) (by assumption) ?_
            rotate_left
            · (intro wq hSw; (try dsimp only at hSw); (try simp only [List.getElem_toArray, List.getElem_cons_succ, List.getElem_cons_zero]); go_simp); try with_reducible rfl
            try simp only [List.getElem_toArray, List.getElem_cons_succ, List.getElem_cons_zero, Act.put, List.setIfInBounds_toArray, List.set_cons_zero, List.set_cons_succ]
            refine wpAnyH_take (i := 9) (v := ?_) rfl (by kernel_rfl) (by kernel_rfl) (by kernel_rfl) (fun _ _ _ h => h) (Or.inl ⟨by rfl, ?_⟩) (by assumption) ?_
            rotate_left
            · (intro wq hSw; (try dsimp only at hSw); (try simp only [List.getElem_toArray, List.getElem_cons_succ, List.getElem_cons_zero]); go_simp); try with_reducible rfl
            try simp only [List.getElem_toArray, List.getElem_cons_succ, List.getElem_cons_zero, Act.put, List.setIfInBounds_toArray, List.set_cons_zero, List.set_cons_succ]
            refine wpAnyH_done (by kernel_rfl) ?_ _
            go_wp2_with fail
            exact ⟨⟨k + 1, by omega, by go_num, Lib.hid (M7.out.later tq)⟩, by simp [intOf]; omega⟩
        · obtain rfl : k = n := by omega
          go_wp2_with fail
          refine (stores_any wr).mono ?_
          rintro e w8 ⟨rfl, t8⟩
          go_wp2_with fail
          go_ret
          exact ⟨rfl, M.out.own.below.trans (t8.mono M.out.own.below.size)⟩
end Go.Proofs.Ytolmpopjonkfgaa

set_option linter.unusedSimpArgs false
set_option linter.unusedVariables false
namespace Go.Cib
open Go.RowKit Go.ChangeShapes Go.WideShapes Go.Deep

section
variable {P : Program} {X : Type}

/-- What reads as data of type t reads by R. -/
def Opens (P : Program) (t : TypeId) (R : (Nat → Prop) → World → List Value → X → Prop) (s : Nat) : Prop :=
  P.cellsOf t = s ∧ 0 < s ∧ ∀ (H : Type) (enc : TypeId × Value → H) (w : World) (base : Nat) (spare : Nat → Bool) (held : Bool) (fuel : Nat) (cs : List Value) (x : DataW H × List MemPlace),
    cs.length = s → DataW.trod enc P w base spare held fuel t cs = some x → ∃ y : X, R (fun _ => True) w cs y

theorem opens_int {t : TypeId} (h : P.underlying t = some (.int .i64)) (hc : P.cellsOf t = 1) : Opens P t IntR 1 :=
  ⟨hc, by omega, fun H enc w base spare held fuel cs x _ hx => by
    obtain ⟨n, rfl, _, _⟩ := DataW.trod_int h hx
    exact ⟨n, rfl⟩⟩
theorem opens_u64 {t : TypeId} (h : P.underlying t = some (.int .u64)) (hc : P.cellsOf t = 1) : Opens P t U64R 1 :=
  ⟨hc, by omega, fun H enc w base spare held fuel cs x _ hx => by
    obtain ⟨n, rfl, _, _⟩ := DataW.trod_int h hx
    exact ⟨n, rfl⟩⟩

theorem opens_slice {R : (Nat → Prop) → World → List Value → X → Prop} {t e : TypeId} {s : Nat} (ht : P.underlying t = some (.slice e)) (ho : Opens P e R s) {H : Type} {enc : TypeId × Value → H} {w : World} {base : Nat} {spare : Nat → Bool} {held : Bool} {fuel : Nat} {cs : List Value} {x : DataW H × List MemPlace}
    (h : DataW.trod enc P w base spare held fuel t cs = some x) : ∃ A n c xs, cs = [.slice A n c] ∧ n ≤ c ∧ c ≤ maxLen ∧ RdL R s (fun _ => True) w A n xs := by
  obtain ⟨hs, hpos, hR⟩ := ho
  rcases open_slice ht h with ⟨rfl, _⟩ | ⟨a, len, cap, m, n, D, Pl, rfl, hb, hl, hm, hmm, hx, hi⟩
  · exact ⟨none, 0, 0, [], rfl, Nat.le_refl _, by simp [maxLen], RdL.nil⟩
  · have hlm : len ≤ m := by rw [hmm]; split <;> omega
    rw [hs] at hi
    have hel : ∀ i, i < len → ∃ (cs' : List Value) (y : X), cs'.length = s ∧ R (fun _ => True) w cs' y ∧ ∀ j v, cs'[j]? = some v → w.cell? ((a.add (i * s)).add j) = some v := by
      intro i hil
      obtain ⟨cs', h1, h2⟩ := hi i (by omega)
      obtain ⟨_, h3, h4⟩ := World.cells?_some h1
      obtain ⟨y, hy⟩ := hR _ _ _ _ _ _ _ _ _ h3 h2
      exact ⟨cs', y, h3, hy, fun j v hj => by
        have hjl := (List.getElem?_eq_some_iff.1 hj).1
        rw [h4 j (by omega), hj]⟩
    rcases Nat.eq_zero_or_pos len with h0 | h0
    · subst h0
      exact ⟨some a, 0, cap, [], rfl, hl, hm, RdL.nil⟩
    · have hspot : a.spot = none := by
        obtain ⟨cs', y, h1, _, h2⟩ := hel 0 h0
        have h3 := h2 0 (cs'[0]'(by omega)) (List.getElem?_eq_getElem (by omega))
        simp only [Nat.zero_mul, Addr.add, if_true] at h3
        unfold World.cell? at h3
        split at h3
        · split at h3
          · cases h3
          · rename_i hs; simpa using hs
        · cases h3
      obtain ⟨b, o, sp⟩ := a
      simp only at hspot
      subst hspot
      have hxs : ∀ k, k ≤ len → ∃ xs : List X, xs.length = k ∧ ∀ i y, xs[i]? = some y → ∃ cs' : List Value, cs'.length = s ∧ R (fun _ => True) w cs' y ∧ ∀ j v, cs'[j]? = some v → w.cell? ⟨b, o + i * s + j, none⟩ = some v := by
        intro k
        induction k with
        | zero => exact fun _ => ⟨[], rfl, by simp⟩
        | succ k ih =>
          intro hk
          obtain ⟨xs, e1, e2⟩ := ih (by omega)
          obtain ⟨cs', y, h1, h2, h3⟩ := hel k (by omega)
          refine ⟨xs ++ [y], by simp [e1], fun i y' hy' => ?_⟩
          by_cases hik : i < k
          · rw [List.getElem?_append_left (by omega)] at hy'
            exact e2 i y' hy'
          · have hie : i = k := by
              have := (List.getElem?_eq_some_iff.1 hy').1
              simp [e1] at this; omega
            subst hie
            rw [List.getElem?_append_right (by omega)] at hy'
            simp only [e1, Nat.sub_self, List.getElem?_cons_zero, Option.some.injEq] at hy'
            subst hy'
            exact ⟨cs', h1, h2, fun j v hj => by have := h3 j v hj; rw [Addr.add_lit, Addr.add_lit] at this; exact this⟩
      obtain ⟨xs, e1, e2⟩ := hxs len (Nat.le_refl _)
      obtain ⟨cs', y, h1, _, h3⟩ := hel 0 h0
      have hblt : b < w.heap.size := by
        have := h3 0 (cs'[0]'(by omega)) (List.getElem?_eq_getElem (by omega))
        have := World.block_lt_of_cell? w _ this
        simpa [Addr.add_lit] using this
      exact ⟨some ⟨b, o, none⟩, len, cap, xs, rfl, hl, hm, e1, fun _ => ⟨b, o, rfl, trivial, hblt, e2⟩⟩

/-- A slice among the arguments. -/
theorem open_rd {R : (Nat → Prop) → World → List Value → X → Prop} {t e : TypeId} {s : Nat} (ht : P.underlying t = some (.slice e)) (ho : Opens P e R s) {H : Type} {enc : TypeId × Value → H} {w : World} {base b0 : Nat} {spare : Nat → Bool} {held : Bool} {r : Reach} {v : Value} {d : DataW H} {ps : List MemPlace}
    (hval : Value.okWide P w r b0 t v) (h : DataW.Trod enc P w base spare held t v d ps) : ∃ A n c xs, v = .slice A n c ∧ n ≤ c ∧ c ≤ maxLen ∧ RdL R s (fun _ => True) w A n xs := by
  obtain ⟨A, n, c, rfl⟩ := okWide_slice ht hval
  obtain ⟨fuel, hf⟩ := h
  obtain ⟨A', n', c', xs, e1, e2, e3, e4⟩ := opens_slice ht ho hf
  simp only [Value.cells, List.cons.injEq, and_true, Value.slice.injEq] at e1
  obtain ⟨rfl, rfl, rfl⟩ := e1
  exact ⟨A, n, c, xs, rfl, e2, e3, e4⟩
end

section
variable {H : Type} {enc : TypeId × Value → H} {P : Program}

theorem trodAll_stays (hl : laidOutB P = true) {W W' : World} (hb : Below W.heap.size W W') : ∀ (ts : List TypeId) (vs : List Value) (ds : List (DataW H)) (ps : List MemPlace), (∀ t ∈ ts, P.readableRec t = true ∧ t < P.types.size) → (∀ x ∈ ps, x.block < W.heap.size) →
    DataW.TrodAll enc P W 0 (fun _ => true) true ts vs ds ps → DataW.TrodAll enc P W' 0 (fun b => decide (b < W.heap.size)) true ts vs ds ps
  | [], vs, ds, ps, _, _, h => by
    obtain ⟨rfl, rfl, rfl⟩ := trodAll_nil h
    exact trodAll_mk0
  | t :: ts, vs, ds, ps, hr, hlt, h => by
    obtain ⟨v, vs', d, ds', p, q, rfl, rfl, rfl, hd, hrest⟩ := trodAll_cons h
    have h1 := Below.trod hl (hr t (by simp)).1 (hr t (by simp)).2 hd hb (fun x hx => hlt x (by simp [hx]))
    have h2 := trodAll_stays hl hb ts vs' ds' q (fun u hu => hr u (List.mem_cons_of_mem _ hu)) (fun x hx => hlt x (by simp [hx])) hrest
    exact trodAll_cons_mk h1 h2

/-- The end of a law's proof: it answered true, and what was there is as it was. -/
theorem law_post {f : Func} {s : ChangeSpec} {W W' : World} {args : Array Value} {ds gs : List (DataW H)} {before : List MemPlace} {tb : TypeId} (hl : laidOutB P = true) (hr : ∀ t ∈ f.params.toList, P.readableRec t = true ∧ t < P.types.size)
    (hres : f.resultTypes = #[tb]) (htb : P.underlying tb = some .bool) (hvars : s.vars = []) (hfn : (s.fn H (ds ++ gs)).results = [.lit (.bool true)] ∧ (s.fn H (ds ++ gs)).args = ds ∧ (s.fn H (ds ++ gs)).vars = [])
    (hW : DataW.Whole enc P f.params.toList s.vars false W args.toList ds gs before) (hb : Below W.heap.size W W') :
    s.post enc P f false true false false W args (.bool true) W' := by
  have hlt : ∀ p ∈ before, p.block < W.heap.size := fun p hp => hW.lt p hp
  have hW2 := hW
  obtain ⟨p, q, hA, hV, rfl, hz, hn⟩ := hW2
  rw [hvars] at hV
  obtain ⟨rfl, rfl⟩ := trodVars_none hV
  simp only [List.append_nil] at hlt hfn hz hW ⊢
  have hargs := trodAll_stays hl hb _ _ _ _ hr hlt hA
  have hr1 : ∀ (b : Nat) (sp : Nat → Bool) (hd : Bool), DataW.TrodAll enc P W' b sp hd f.resultTypes.toList ((Value.bool true).resultList f.resultTypes.size) (s.fn H ds).results [] := fun b sp hd => by
    rw [hres, hfn.1]
    exact trodAll_mk1 (shut_bool htb true)
  refine ⟨ds, [], p, [], p, [], hW, by rw [List.append_nil]; exact hr1 _ _ _, by rw [List.append_nil, hfn.2.1]; exact hargs, by rw [List.append_nil, hvars, hfn.2.2]; exact rfl, World.keptBut_mono (fun x hx => ⟨hx, .inr (.inl hx)⟩) (hb.frame (· ∈ p)), fun h => by cases h⟩
end
end Go.Cib

set_option linter.unusedSimpArgs false
set_option linter.unusedVariables false
namespace Go.Proofs.Ytolmpopjonkfgaa
open Go.RowKit Go.Cib
attribute [local go_sem] cell_set Later.cell Later.frozen Grw.cell Grw.frozen
open Go.ChangeShapes Go.WideShapes Go.ChangeAt Go.Deep

theorem laidOut_ : laidOutB Try.prog = true := by kernel_rfl
theorem ownKnob_ : ownKnob Try.prog.godebug = none := by kernel_rfl
theorem sl_put : Try.prog.underlying 22 = some (.slice 29) := by kernel_rfl
theorem sl_bool : Try.prog.underlying 23 = some (.slice 4) := by kernel_rfl

theorem opens_bool : Opens Try.prog 4 BoolR 1 :=
  ⟨by kernel_rfl, by omega, fun H enc w base spare held fuel cs x _ hx => by
    obtain ⟨n, rfl, _⟩ := DataW.trod_bool Try.underlying4 hx
    exact ⟨n, rfl⟩⟩
set_option maxRecDepth 100000 in
theorem opens_put : Opens Try.prog 29 PutR 2 := by
  refine ⟨by kernel_rfl, by omega, fun H enc w base spare held fuel cs x hl hx => ?_⟩
  obtain ⟨xs, n, _, _, hlen, hxl, hf⟩ := DataW.trod_struct Try.underlying29 hx
  match cs, hl with
  | [c0, c1], _ =>
    have f0 := hf 0 _ rfl
    have f1 := hf 1 _ rfl
    have k1 : Try.prog.cellsOf 3 = 1 := by kernel_rfl
    have k2 : Try.prog.cellsOf 5 = 1 := by kernel_rfl
    have hx3 : xs.length = 2 := hxl
    simp only [List.getElem_toArray, List.getElem_cons_zero, List.getElem_cons_succ, k1, k2, List.drop_zero, List.drop_succ_cons, List.take_succ_cons, List.take_zero] at f0 f1
    rw [List.getElem?_eq_getElem (by omega)] at f0 f1
    obtain ⟨g, e1, _, _⟩ := DataW.trod_int Try.underlying3 f0
    obtain ⟨z, e2, _, _⟩ := DataW.trod_int Try.underlying5 f1
    simp only [List.cons.injEq, and_true] at e1 e2
    subst e1; subst e2
    exact ⟨(g, z), rfl⟩
theorem keeps_any (n at_ c : Int) (A0 A1 : Option Addr) (m0 c0 m1 c1 : Nat) (w : World) {first : List (Int × Int)} {ks : List Bool}
    (R0 : Hid (RdL PutR 2 (fun _ => True) w A0 m0 first)) (R1 : Hid (RdL BoolR 1 (fun _ => True) w A1 m1 ks)) :
    Calls Try.prog 3 #[.int .i64 n, .slice A0 m0 c0, .int .i64 at_, .int .u8 c, .slice A1 m1 c1] w fun e w' => e = .returned (.bool true) ∧ Below w.heap.size w w' := by
  by_cases h : 2 ≤ n ∧ n ≤ 20 ∧ m0 ≤ 100 ∧ m1 ≤ 200
  · obtain ⟨k, rfl⟩ : ∃ k : Nat, n = k := ⟨n.toNat, by omega⟩
    exact keeps_good k at_ c A0 A1 m0 c0 m1 c1 w (by omega) (by omega) h.2.2.1 h.2.2.2 R0 R1
  · exact keeps_bad n at_ c A0 A1 m0 c0 m1 c1 w h
end Go.Proofs.Ytolmpopjonkfgaa
