/-
  An oracle that isn't there; the page's example.
-/
import Derived.Test.YtpibaahiboajhaaOsc3
set_option linter.unusedSimpArgs false
set_option linter.unusedVariables false
namespace Go.Proofs.Ytpibaahiboajhaa
open Go.RowKit Go.Cib
attribute [local go_sem] cell_set Later.cell Later.frozen Grw.cell Grw.frozen
open Go.Sort Go.Proofs Go.Shelf

/-- No oracle, now and later. -/
def ONone (w : World) (p : Option Addr) : Prop := ∀ w', Below w.heap.size w w' → Calls Try.prog 65 #[.pointer p] w' fun e w2 => e = .returned (.bool true) ∧ w2 = w'
theorem ONone.nil (w : World) : ONone w none := fun w' _ => onone_nil w'
theorem ONone.empty {w : World} {o : Nat} (hl : o < w.heap.size) (hc : w.cell? ⟨o, 2, none⟩ = some (.map none)) : ONone w (some ⟨o, 0, none⟩) := fun w' hb => onone_empty ((hb.cell (p := ⟨o, 2, none⟩) hl).trans hc)
section
variable {w : World} {p : Option Addr}
theorem olast_none (h : ONone w p) : Calls Try.prog 25 #[.pointer p] w fun e w' => e = .returned (.int .u64 0) ∧ w' = w := by
  have hn := h w (Below.refl _ _)
  clear h
  go_enter Try.func25, Try.ntmps25
  go_wp2_with (go_at_call 65; refine hn.mono ?_; rintro e w' ⟨rfl, rfl⟩)
  go_ret
  exact ⟨rfl, rfl⟩
theorem omost_none (h : ONone w p) : Calls Try.prog 26 #[.pointer p] w fun e w' => e = .returned (.int .u64 0) ∧ w' = w := by
  have hn := h w (Below.refl _ _)
  clear h
  go_enter Try.func26, Try.ntmps26
  go_wp2_with (go_at_call 65; refine hn.mono ?_; rintro e w' ⟨rfl, rfl⟩)
  go_ret
  exact ⟨rfl, rfl⟩
theorem oopen_none (h : ONone w p) : Calls Try.prog 27 #[.pointer p] w fun e w' => e = .returned (.int .i64 0) ∧ w' = w := by
  have hn := h w (Below.refl _ _)
  clear h
  go_enter Try.func27, Try.ntmps27
  go_wp2_with (go_at_call 65; refine hn.mono ?_; rintro e w' ⟨rfl, rfl⟩)
  go_ret
  exact ⟨rfl, rfl⟩
theorem onext_none (h : ONone w p) : Calls Try.prog 21 #[.pointer p] w fun e w' => e = .returned (.tuple #[.int .u64 0, .int .i64 1]) ∧ w' = w := by
  have hn := h w (Below.refl _ _)
  clear h
  go_enter Try.func21, Try.ntmps21
  go_wp2_with (go_at_call 65; refine hn.mono ?_; rintro e w' ⟨rfl, rfl⟩)
  refine bodyPost_ret (v := .tuple #[.int .u64 0, .int .i64 1]) (by simp [results, Try.results21, go_sem, *]) rfl ?_
  exact ⟨rfl, rfl⟩
theorem opub_none (h : ONone w p) (s : Int) : Calls Try.prog 23 #[.pointer p, .int .u64 s] w fun e w' => e = .returned (.bool false) ∧ w' = w := by
  have hn := h w (Below.refl _ _)
  clear h
  go_enter Try.func23, Try.ntmps23
  go_wp2_with (go_at_call 65; refine hn.mono ?_; rintro e w' ⟨rfl, rfl⟩)
  go_ret
  exact ⟨rfl, rfl⟩
theorem obegin_none (h : ONone w p) : Calls Try.prog 17 #[.pointer p] w fun e w' => e = .returned (.int .u64 0) ∧ w' = w := by
  have hn := h w (Below.refl _ _)
  clear h
  go_enter Try.func17, Try.ntmps17
  go_wp2_with (go_at_call 65; refine hn.mono ?_; rintro e w' ⟨rfl, rfl⟩)
  go_ret
  exact ⟨rfl, rfl⟩
theorem oend_none (h : ONone w p) (s : Int) : Calls Try.prog 19 #[.pointer p, .int .u64 s] w fun e w' => e = .returned (.bool false) ∧ w' = w := by
  have hn := h w (Below.refl _ _)
  clear h
  go_enter Try.func19, Try.ntmps19
  go_wp2_with (go_at_call 65; refine hn.mono ?_; rintro e w' ⟨rfl, rfl⟩)
  go_ret
  exact ⟨rfl, rfl⟩
theorem ostarts_none (h : ONone w p) : Calls Try.prog 29 #[.pointer p] w fun e w' => e = .returned (.slice none 0 0) ∧ w' = w := by
  have hn := h w (Below.refl _ _)
  clear h
  go_enter Try.func29, Try.ntmps29
  go_wp2_with (go_at_call 65; refine hn.mono ?_; rintro e w' ⟨rfl, rfl⟩)
  go_ret
  exact ⟨rfl, rfl⟩
set_option maxRecDepth 100000 in
theorem ohor_none (h : ONone w p) : Calls Try.prog 31 #[.pointer p] w fun e w' => e = .returned (.int .u64 0) ∧ w' = w := by
  have hl := olast_none h
  have hs := ostarts_none h
  clear h
  go_enter Try.func31, Try.ntmps31
  go_wp2_with (first
    | (go_at_call 25; refine hl.mono ?_; rintro e w9 ⟨rfl, h1⟩; replace h1 := h1.symm; subst h1)
    | (go_at_call 29; refine hs.mono ?_; rintro e w9 ⟨rfl, h1⟩; replace h1 := h1.symm; subst h1))
  go_loopw [3, 11] (fun vh vi wq => vi = .int .i64 0 ∧ vh = .int .u64 0 ∧ Hid (wq = w)) (fun _ _ _ => 0)
  case atStart => exact ⟨rfl, rfl, Lib.hid rfl⟩
  case round =>
    obtain ⟨rfl, rfl, HQ⟩ := hrel
    go_wp2_with fail
    go_ret
    exact ⟨rfl, HQ.out⟩
end
theorem OrcAt.drewN {w : World} {o b : Nat} {last most : Int} {L : List Int} (h : OrcAt w o b last most L) (q : Nat) : OrcAt (w.drewN q) o b last most L := ⟨h.box, h.ne, h.map, h.len, h.rng⟩
theorem below_drewN {B : Nat} {a w : World} (h : Below B a w) (q : Nat) : Below B a (w.drewN q) := ⟨h.os, h.tape, h.output, h.size, h.block⟩
theorem OrcAt.size2 {w : World} {o b : Nat} {last most : Int} {L : List Int} (h : OrcAt w o b last most L) : o < w.heap.size ∧ b < w.heap.size := by
  obtain ⟨es, h1, _⟩ := h.map
  exact ⟨h.box.lt, h1.lt⟩
/-- What changes the two blocks alone leaves what lay ahead of them. -/
theorem keep_two {B : Nat} {a w w' : World} {o b : Nat} (h : Below B a w) (hk : Keep (fun k => k = o ∨ k = b) w w') (ho : B ≤ o) (hb : B ≤ b) (hB : B ≤ w.heap.size) : Below B a w' :=
  h.trans (hk.below hB (fun k hk => by rcases hk with rfl | rfl <;> assumption))
set_option maxRecDepth 100000 in
set_option maxHeartbeats 8000000 in
theorem stamps_any (w : World) : Calls Try.prog 14 #[] w fun e w' => e = .returned (.bool true) ∧ Below w.heap.size w w' := by
  have n1 := onew_ok w 5 9 (by omega) (by omega) (by omega)
  go_enter Try.func14, Try.ntmps14
  go_wp2_with fail
  refine n1.mono ?_
  rintro e w1 ⟨rfl, h1, b1⟩
  obtain ⟨o, ho⟩ : ∃ o, w.heap.size + 1 = o := ⟨_, rfl⟩
  obtain ⟨b, hb⟩ : ∃ b, w.heap.size = b := ⟨_, rfl⟩
  rw [ho, hb] at h1
  rw [ho]
  have hbo : w.heap.size ≤ o := by omega
  have hbb : w.heap.size ≤ b := by omega
  have hB := b1.size
  clear n1 ho hb
  go_wp2_with fail
  refine (obegin_ok h1 (by simp)).mono ?_
  rintro e w2 ⟨rfl, h2, k2⟩
  have b2 := keep_two b1 k2 hbo hbb hB
  have n3 := onext_ok h2
  rw [if_pos (by omega)] at n3
  clear h1 b1 k2 hB
  go_wp2_with fail
  refine n3.mono ?_
  rintro e w3 ⟨rfl, q, rfl⟩
  have h3 := h2.drewN q
  have b3 := below_drewN b2 q
  have n4 := opub_ok 6 h3
  rw [decide_eq_true (by omega), if_pos (by omega)] at n4
  clear h2 b2 n3
  go_wp2_with fail
  refine n4.mono ?_
  rintro e w4 ⟨rfl, h4, k4⟩
  have b4 := keep_two b3 k4 hbo hbb b3.size
  have n5 := ohor_ok (xs := [5]) h4 (by simp) (by simp) (by simp)
  rw [show hor 6 [5] = 5 by decide] at n5
  clear h3 b3 k4 n4
  go_wp2_with fail
  refine n5.mono ?_
  rintro e w5 ⟨rfl, t5⟩
  have h5 := h4.below t5
  have b5 := below_then t5 b4
  have n6 := oend_ok 5 h5
  rw [decide_eq_true (by simp), show ([5] : List Int).erase 5 = [] by decide] at n6
  clear h4 b4 t5 n5
  go_wp2_with fail
  refine n6.mono ?_
  rintro e w6 ⟨rfl, h6, k6⟩
  have b6 := keep_two b5 k6 hbo hbb b5.size
  have n7 := ohor_ok (xs := []) h6 (by simp) (by simp) (by simp)
  rw [show hor 6 [] = 6 by decide] at n7
  clear h5 b5 k6 n6
  go_wp2_with fail
  refine n7.mono ?_
  rintro e w7 ⟨rfl, t7⟩
  have h7 := h6.below t7
  have b7 := below_then t7 b6
  have n8 := olast_ok h7
  have n9 := omost_ok h7
  have n10 := onew_none w7 2 1 (by omega)
  have B7 := Lib.hid b7
  clear h6 b6 t7 n7 h7 b7
  go_wp2_with (first
    | (go_at_call 25; refine n8.mono ?_; rintro e w' ⟨rfl, rfl⟩)
    | (go_at_call 26; refine n9.mono ?_; rintro e w' ⟨rfl, rfl⟩)
    | (go_at_call 15; refine n10.mono ?_; rintro e w' ⟨rfl, rfl⟩))
  go_ret
  exact ⟨rfl, B7.out⟩
end Go.Proofs.Ytpibaahiboajhaa
