/-
  slices.Sorted(maps.Keys(m)) for keys of the kind uint64.
-/
import Derived.Test.YtpibaahiboajhaaSrt10
set_option linter.unusedSimpArgs false
set_option linter.unusedVariables false
namespace Go.Proofs.Ytpibaahiboajhaa
open Go.RowKit Go.Cib
attribute [local go_sem] cell_set Later.cell Later.frozen Grw.cell Grw.frozen
open Go.Sort Go.Proofs Go.Shelf

set_option maxRecDepth 100000 in
set_option maxHeartbeats 4000000 in
theorem sort_u {w wr : World} {blk off n cap : Nat} {d : Array Int} (h : RowIs w blk off n wr d) (hn : n ≤ 1000000) :
    Calls Try.prog 106 #[.slice (some ⟨blk, off, none⟩) n cap] wr fun e w' => e = .returned (.tuple #[]) ∧ RowIs w blk off n w' (sort ltInt d) := by
  have hs := h.size
  have hk : bitsLen n ≤ 62 := (bitsLen_le_iff n 62).2 (by omega)
  have hp := pdq_u hn (n + 1) 0 n (bitsLen n) d wr (by omega) h (Nat.zero_le _) (Nat.le_refl _) (by omega) (Or.inl rfl) (cap := cap)
  rw [show pdq ltInt d 0 n (bitsLen n) true true = sort ltInt d from by unfold sort; rw [hs]] at hp
  have hb := bitsLen_u n (by omega)
  obtain ⟨k, hke⟩ : ∃ k, bitsLen n = k := ⟨_, rfl⟩
  rw [hke] at hp hb
  clear h hk hke hs
  go_enter Try.func106, Try.ntmps106
  go_wp2_with (first
    | (go_at_call 132; refine (hb _).mono ?_; rintro e w' ⟨rfl, rfl⟩)
    | (go_at_call 131; refine hp.mono ?_; rintro e w' ⟨rfl, t⟩))
  go_end0
  exact ⟨rfl, t⟩
set_option maxRecDepth 100000 in
set_option maxHeartbeats 4000000 in
theorem insertion_none (p : Option Addr) (cap : Nat) (w : World) : Calls Try.prog 146 #[.slice p 0 cap, .int .i64 0, .int .i64 0] w fun e w' => e = .returned (.tuple #[]) ∧ w' = w := by
  go_enter Try.func146, Try.ntmps146
  go_wp2
  go_loopw [6] (fun vi wq => vi = .int .i64 1 ∧ wq = w) (fun _ _ => 0)
  case atStart => exact ⟨rfl, rfl⟩
  case round =>
    obtain ⟨rfl, rfl⟩ := hrel
    go_wp2
    go_end0
    exact ⟨rfl, rfl⟩
set_option maxRecDepth 100000 in
set_option maxHeartbeats 4000000 in
theorem pdq_none (p : Option Addr) (cap : Nat) (w : World) : Calls Try.prog 131 #[.slice p 0 cap, .int .i64 0, .int .i64 0, .int .i64 0] w fun e w' => e = .returned (.tuple #[]) ∧ w' = w := by
  have hc := insertion_none p cap w
  go_enter Try.func131, Try.ntmps131
  go_wp2
  go_loopw [1, 2, 3, 8, 9] (fun s1 s2 s3 s8 s9 wq => s1 = .int .i64 0 ∧ s2 = .int .i64 0 ∧ wq = w) (fun _ _ _ _ _ _ => 0)
  case atStart => exact ⟨rfl, rfl, rfl⟩
  case round =>
    obtain ⟨rfl, rfl, rfl⟩ := hrel
    go_wp2_with (go_at_call 146; refine hc.mono ?_; rintro e w' ⟨rfl, rfl⟩)
    (try simp only [Exit.inBlock, Exit.then])
    refine bodyPost_ret (results_none rfl _ _ _) rfl ?_
    exact ⟨rfl, rfl⟩
set_option maxRecDepth 100000 in
set_option maxHeartbeats 4000000 in
theorem sort_none (p : Option Addr) (cap : Nat) (w : World) : Calls Try.prog 106 #[.slice p 0 cap] w fun e w' => e = .returned (.tuple #[]) ∧ w' = w := by
  have hp := pdq_none p cap w
  have hb : Calls Try.prog 132 #[.int .u64 0] w fun e w' => e = .returned (.int .i64 0) ∧ w' = w := by
    have := bitsLen_u 0 (by omega) w
    simpa [bitsLen] using this
  go_enter Try.func106, Try.ntmps106
  go_wp2_with (first
    | (go_at_call 132; refine hb.mono ?_; rintro e w' ⟨rfl, rfl⟩)
    | (go_at_call 131; refine hp.mono ?_; rintro e w' ⟨rfl, rfl⟩))
  go_end0
  exact ⟨rfl, rfl⟩

/-- A list that rises is what any order of it sorts to. -/
theorem sort_rises_u {ss xs : List Int} (hp : ss.Perm xs) (hr : xs.Pairwise (· < ·)) : ss.mergeSort (fun x y => decide (x ≤ y)) = xs := by
  have tr : ∀ a b c : Int, decide (a ≤ b) = true → decide (b ≤ c) = true → decide (a ≤ c) = true := fun a b c h1 h2 => by simp only [decide_eq_true_eq] at *; omega
  have tot : ∀ a b : Int, (decide (a ≤ b) || decide (b ≤ a)) = true := fun a b => by simp only [Bool.or_eq_true, decide_eq_true_eq]; omega
  refine List.Perm.eq_of_pairwise (le := fun a b : Int => decide (a ≤ b) = true) (fun a b _ _ h1 h2 => ?_) (List.pairwise_mergeSort tr tot ss) ?_ ((List.mergeSort_perm ss _).trans hp)
  · simp only [decide_eq_true_eq] at h1 h2
    omega
  · exact hr.imp (fun h => by simp only [decide_eq_true_eq]; omega)

set_option maxRecDepth 100000 in
set_option maxHeartbeats 4000000 in
theorem collect_u {w : World} {b p : Nat} {es : List (Int × Value)} (hm : MapAt (Value.int .u64) w b es) (hp : w.cell? ⟨p, 0, none⟩ = some (.map (some b))) (hpl : p < w.heap.size) (hl : es.length ≤ 1000000) :
    Calls Try.prog 105 #[.func (.func 107) #[] #[.pointer (some ⟨p, 0, none⟩)]] w fun e w' =>
      ∃ (v : Value) (ss : List Int), e = .returned v ∧ ss.Perm (es.map (·.1)) ∧ w'.ownsRow w.heap.size 22 1 v ss.length (ss.map (Value.int .u64)) ∧ Below w.heap.size w w' := by
  have hc := callsIn_wide.1 (appendU_any 5 (by omega) p b es hl w hpl hp hm)
  clear hm hp
  go_enter Try.func105, Try.ntmps105
  go_wp2_with fail
  refine hc.mono ?_
  rintro e w' ⟨v, ss, rfl, h1, h2, h3⟩
  have H1 := Lib.hid h1
  have H2 := Lib.hid h2
  have H3 := Lib.hid h3
  clear h1 h2 h3 hc
  go_wp2_with fail
  go_ret
  exact ⟨v, ss, rfl, H1.out, H2.out, H3.out⟩
set_option maxRecDepth 100000 in
set_option maxHeartbeats 4000000 in
theorem sorted_u {w : World} {b p : Nat} {es : List (Int × Value)} {xs : List Int} (hm : MapAt (Value.int .u64) w b es) (hp : w.cell? ⟨p, 0, none⟩ = some (.map (some b))) (hpl : p < w.heap.size) (hl : es.length ≤ 1000000)
    (hx : (es.map (·.1)).Perm xs) (hr : xs.Pairwise (· < ·)) :
    Calls Try.prog 67 #[.func (.func 107) #[] #[.pointer (some ⟨p, 0, none⟩)]] w fun e w' =>
      ∃ A c, e = .returned (.slice A xs.length c) ∧ RdL U64R 1 (w.heap.size ≤ ·) w' A xs.length xs ∧ Below w.heap.size w w' := by
  have hc := collect_u hm hp hpl hl
  have hel : es.length = xs.length := by have := hx.length_eq; simpa using this
  have HX := Lib.hid hx
  clear hm hp hx
  go_enter Try.func67, Try.ntmps67
  go_wp2_with fail
  refine hc.mono ?_
  rintro e w1 ⟨v, ss, rfl, h1, h2, h3⟩
  clear hc
  have hperm : ss.Perm xs := h1.trans HX.out
  have hsl : ss.length = xs.length := hperm.length_eq
  rcases h2.2 with ⟨rfl, hz⟩ | ⟨g, cap, cur, rfl, hbg, hg, hnc, hcm, hcs, htake⟩
  · have hxs : xs = [] := List.eq_nil_of_length_eq_zero (by omega)
    subst hxs
    have H3 := Lib.hid h3
    have hs := sort_none none 0 w1
    clear h1 h2 h3 hperm hsl HX hel
    go_wp2_with fail
    refine hs.mono ?_
    rintro e w2 ⟨rfl, h⟩
    subst h
    go_wp2_with fail
    go_ret
    exact ⟨none, 0, rfl, RdL.nil, H3.out⟩
  · have hrow : RowIs w1 g 0 xs.length w1 ss.toArray := by
      refine ⟨by simpa using hsl, ⟨cur, cur, 22, hg, hg, rfl, by omega, fun t ht => ?_, fun _ _ => rfl⟩, World.grownBy.refl _ _⟩
      have ht2 : (cur.toList.take (ss.length * 1))[t]? = (ss.map (Value.int .u64))[t]? := by rw [htake]
      rw [List.getElem?_take, if_pos (by omega), List.getElem?_map, List.getElem?_eq_getElem (by omega : t < ss.length)] at ht2
      rw [Nat.zero_add]
      simp only [Option.map_some] at ht2
      rw [← Array.getElem?_toList, ht2, getElem!_pos ss.toArray t (by simpa using (by omega : t < ss.length))]
      simp
    have hs := sort_u (cap := cap) hrow (by omega)
    rw [← hsl] at hs
    have hd : sort ltInt ss.toArray = xs.toArray := by
      have h1 := sortInt ss
      rw [sort_rises_u hperm hr] at h1
      rw [← h1]
    rw [hd, hsl] at hs
    rw [hsl]
    have H3 := Lib.hid h3
    clear h1 h2 h3 hperm HX hel hrow hd hg htake hcs
    go_wp2_with fail
    refine hs.mono ?_
    rintro e w2 ⟨rfl, t2⟩
    have hb2 : Below w.heap.size w w2 := H3.out.grown t2.grown H3.out.size (fun k e => by cases e; exact hbg)
    have hrd : RdL U64R 1 (w.heap.size ≤ ·) w2 (some ⟨g, 0, none⟩) xs.length xs := by
      refine ⟨rfl, fun h0 => ⟨g, 0, rfl, hbg, Nat.lt_of_lt_of_le t2.lt t2.grown.size, fun i x hx => ?_⟩⟩
      have hi : i < xs.length := (List.getElem?_eq_some_iff.1 hx).1
      refine ⟨[.int .u64 x], rfl, rfl, fun j u hj => ?_⟩
      cases j with
      | zero =>
        simp only [List.getElem?_cons_zero, Option.some.injEq] at hj
        subst hj
        have hc := t2.cell (t := i) hi
        rw [getElem!_pos xs.toArray i (by simpa using hi)] at hc
        have hxi : xs.toArray[i]'(by simpa using hi) = x := by
          have := (List.getElem?_eq_some_iff.1 hx).2
          simpa using this
        rw [hxi] at hc
        rw [show 0 + i * 1 + 0 = 0 + i by omega]
        exact hc
      | succ j => simp at hj
    have HB := Lib.hid hb2
    have HR := Lib.hid hrd
    clear hb2 hrd t2 hs
    go_wp2_with fail
    go_ret
    exact ⟨_, cap, rfl, HR.out, HB.out⟩
theorem keysU_it (mb : Option Nat) (W : World) : Calls Try.prog 68 #[.map mb] W fun e w' => e = .returned (.func (.func 107) #[] #[.pointer (some ⟨W.heap.size, 0, none⟩)]) ∧ w' = W.alloc (.cells #[.map mb] 51) := by
  go_enter Try.func68, Try.ntmps68
  go_wp2
  go_ret
  exact ⟨rfl, rfl⟩
end Go.Proofs.Ytpibaahiboajhaa
