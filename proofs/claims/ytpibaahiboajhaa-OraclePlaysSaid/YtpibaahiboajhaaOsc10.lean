/-
  The document's oracle: which starts are open, each once; the same numbers.
-/
import Derived.Test.YtpibaahiboajhaaOsc9
set_option linter.unusedSimpArgs false
set_option linter.unusedVariables false
namespace Go.Proofs.Ytpibaahiboajhaa
open Go.RowKit Go.Cib
attribute [local go_sem] cell_set Later.cell Later.frozen Grw.cell Grw.frozen
open Go.Sort Go.Proofs Go.Shelf

/-- Neighbours that are alike, once. -/
def dd (L : List Int) : List Int := L.foldl (fun out x => if out.getLast? = some x then out else out ++ [x]) []
theorem dd_snoc (L : List Int) (x : Int) : dd (L ++ [x]) = if (dd L).getLast? = some x then dd L else dd L ++ [x] := by
  unfold dd
  rw [List.foldl_append]
  rfl
theorem snoc_ind {α : Type} {P : List α → Prop} (h0 : P []) (hs : ∀ M x, P M → P (M ++ [x])) : ∀ L, P L := fun L => by
  have : ∀ n (L : List α), L.length = n → P L := by
    intro n
    induction n with
    | zero => intro L h; rw [List.length_eq_zero_iff.1 h]; exact h0
    | succ n ih =>
      intro L h
      rcases List.eq_nil_or_concat L with rfl | ⟨M, x, rfl⟩
      · exact h0
      · rw [List.concat_eq_append] at h ⊢
        exact hs M x (ih M (by simpa using h))
  exact this _ L rfl
theorem dd_last (L : List Int) : (dd L).getLast? = L.getLast? := by
  rcases List.eq_nil_or_concat L with rfl | ⟨M, x, rfl⟩
  · rfl
  · rw [List.concat_eq_append, dd_snoc, List.getLast?_concat]
    split
    · assumption
    · rw [List.getLast?_concat]
theorem dd_mem (L : List Int) (s : Int) : s ∈ dd L ↔ s ∈ L := by
  induction L using snoc_ind with
  | h0 => exact Iff.rfl
  | hs M x ih =>
    rw [dd_snoc, List.mem_append, List.mem_singleton]
    split
    · rename_i h
      rw [ih]
      refine ⟨Or.inl, ?_⟩
      rintro (h2 | rfl)
      · exact h2
      · rw [dd_last] at h
        exact List.mem_of_getLast? h
    · rw [List.mem_append, List.mem_singleton, ih]
theorem dd_len (L : List Int) : (dd L).length ≤ L.length := by
  induction L using snoc_ind with
  | h0 => exact Nat.le_refl _
  | hs M x ih =>
    rw [dd_snoc]
    split <;> simp <;> omega
theorem dd_rises (L : List Int) (h : L.Pairwise (· ≤ ·)) : (dd L).Pairwise (· < ·) := by
  induction L using snoc_ind with
  | h0 => exact List.Pairwise.nil
  | hs M x ih =>
    obtain ⟨h1, h2, h3⟩ := List.pairwise_append.1 h
    rw [dd_snoc]
    split
    · exact ih h1
    · rename_i hne
      refine List.pairwise_append.2 ⟨ih h1, List.pairwise_singleton _ _, fun a ha b hb => ?_⟩
      rw [List.mem_singleton] at hb
      subst hb
      have hle : ∀ c ∈ M, c ≤ b := fun c hc => h3 c hc b (by simp)
      rw [dd_last] at hne
      have haM := (dd_mem M a).1 ha
      rcases List.eq_nil_or_concat M with rfl | ⟨N, z, rfl⟩
      · simp at haM
      · rw [List.concat_eq_append, List.getLast?_concat] at hne
        have hzb : z ≤ b := hle z (by simp)
        have hz : z ≠ b := fun e => hne (by rw [e])
        rw [List.concat_eq_append] at haM h1
        rcases List.mem_append.1 haM with hN | hz2
        · have := (List.pairwise_append.1 h1).2.2 a hN z (by simp)
          omega
        · rw [List.mem_singleton] at hz2
          omega
theorem wrap_pred {i : Nat} (h0 : 0 < i) (h : i < 1000000) : IntKind.i64.wrap ((i : Int) - 1) = ((i - 1 : Nat) : Int) := by rw [IntKind.wrap_i64]; omega
theorem dd_step {L : List Int} {i : Nat} {x : Int} (hx : L[i]? = some x) : dd (L.take (i + 1)) = if i = 0 then dd (L.take i) ++ [x] else if L[i - 1]? = some x then dd (L.take i) else dd (L.take i) ++ [x] := by
  have hil : i < L.length := (List.getElem?_eq_some_iff.1 hx).1
  rw [take_snoc_u hx, dd_snoc, dd_last]
  by_cases h0 : i = 0
  · subst h0
    rw [if_pos rfl, List.take_zero, List.getLast?_nil, if_neg (by simp)]
  · have hl : (L.take i).length = i := by rw [List.length_take]; omega
    have hg : (L.take i).getLast? = L[i - 1]? := by rw [List.getLast?_eq_getElem?, hl, List.getElem?_take, if_pos (by omega)]
    rw [if_neg h0, hg]

set_option maxRecDepth 100000 in
set_option maxHeartbeats 4000000 in
theorem usame_ok {S1 S2 : Nat → Prop} {w : World} {A B : Option Addr} {n c d : Nat} {xs : List Int} (R1 : Hid (RdL U64R 1 S1 w A n xs)) (R2 : Hid (RdL U64R 1 S2 w B n xs)) (hn : n ≤ 1000) :
    Calls Try.prog 28 #[.slice A n c, .slice B n d] w fun e w' => e = .returned (.bool true) ∧ Below w.heap.size w w' := by
  have q0 : ((n : Int) != (n : Int)) = false := by simp
  go_enter Try.func28, Try.ntmps28
  go_wp2_with fail
  go_loopw [5] (fun vi wr => ∃ i : Nat, i ≤ n ∧ vi = .int .i64 i ∧ Hid (Below w.heap.size w wr)) (fun vi _ => n - (intOf vi).toNat)
  case atStart => exact ⟨0, Nat.zero_le _, rfl, Lib.hid (Below.refl _ _)⟩
  case round =>
    obtain ⟨i, hi, rfl, HB⟩ := hrel
    have q2 : (0 : Int) ≤ (i : Int) := Int.natCast_nonneg _
    by_cases hlt : i < n
    · have q1 : (i : Int) < (n : Int) := by omega
      obtain ⟨g, og, y, rfl, hy, hg, _, k0⟩ := u64_in R1.out hlt
      obtain ⟨g2, og2, y2, rfl, hy2, hg2, _, k2⟩ := u64_in R2.out hlt
      rw [hy] at hy2
      injection hy2 with hy2
      subst hy2
      have u1 : ∀ w', Below wr.heap.size wr w' → w'.cell? ⟨g, og + i, none⟩ = some (.int .u64 y) := fun w' h => ((below_then h HB.out).cell (p := ⟨g, og + i, none⟩) hg).trans k0
      have u2 : ∀ w', Below wr.heap.size wr w' → w'.cell? ⟨g2, og2 + i, none⟩ = some (.int .u64 y) := fun w' h => ((below_then h HB.out).cell (p := ⟨g2, og2 + i, none⟩) hg2).trans k2
      have e1 : (y != y) = false := by simp
      clear hy k0 k2
      go_wp2_with fail
      refine wp_region_held_drew (S := fun w' => Below wr.heap.size wr w') (by kernel_rfl) (by first | assumption | exact Below.refl _ _ | exact (Below.refl _ _).drew) (fun hHeld => ?_)
      refine wpAnyH_take (i := 0) (v := ?_) rfl (by kernel_rfl) (by kernel_rfl) (by kernel_rfl) (fun _ _ _ h => h) (Or.inl ⟨by first | kernel_rfl | rfl, ?_⟩) (by assumption) ?_
      rotate_left
      · (intro wq hSw; (try dsimp only at hSw); (try simp (maxSteps := 2000000) only [List.getElem_toArray, List.getElem_cons_succ, List.getElem_cons_zero]); go_simp); try with_reducible rfl
      try simp (maxSteps := 2000000) only [List.getElem_toArray, List.getElem_cons_succ, List.getElem_cons_zero, Act.put, List.setIfInBounds_toArray, List.set_cons_zero, List.set_cons_succ]
      refine wpAnyH_take (i := 1) (v := ?_) rfl (by kernel_rfl) (by kernel_rfl) (by kernel_rfl) (fun _ _ _ h => h) (Or.inl ⟨by first | kernel_rfl | rfl, ?_⟩) (by assumption) ?_
      rotate_left
      · (intro wq hSw; (try dsimp only at hSw); (try simp (maxSteps := 2000000) only [List.getElem_toArray, List.getElem_cons_succ, List.getElem_cons_zero]); go_simp); try with_reducible rfl
      try simp (maxSteps := 2000000) only [List.getElem_toArray, List.getElem_cons_succ, List.getElem_cons_zero, Act.put, List.setIfInBounds_toArray, List.set_cons_zero, List.set_cons_succ]
      refine wpAnyH_take (i := 2) (v := ?_) rfl (by kernel_rfl) (by kernel_rfl) (by kernel_rfl) (fun _ _ _ h => h) (Or.inl ⟨by first | kernel_rfl | rfl, ?_⟩) (by assumption) ?_
      rotate_left
      · (intro wq hSw; (try dsimp only at hSw); (try simp (maxSteps := 2000000) only [List.getElem_toArray, List.getElem_cons_succ, List.getElem_cons_zero]); go_simp); try with_reducible rfl
      try simp (maxSteps := 2000000) only [List.getElem_toArray, List.getElem_cons_succ, List.getElem_cons_zero, Act.put, List.setIfInBounds_toArray, List.set_cons_zero, List.set_cons_succ]
      refine wpAnyH_take (i := 3) (v := ?_) rfl (by kernel_rfl) (by kernel_rfl) (by kernel_rfl) (fun _ _ _ h => h) (Or.inl ⟨by first | kernel_rfl | rfl, ?_⟩) (by assumption) ?_
      rotate_left
      · (intro wq hSw; (try dsimp only at hSw); (try simp (maxSteps := 2000000) only [List.getElem_toArray, List.getElem_cons_succ, List.getElem_cons_zero]); go_simp); try with_reducible rfl
      try simp (maxSteps := 2000000) only [List.getElem_toArray, List.getElem_cons_succ, List.getElem_cons_zero, Act.put, List.setIfInBounds_toArray, List.set_cons_zero, List.set_cons_succ]
      refine wpAnyH_take (i := 4) (v := ?_) rfl (by kernel_rfl) (by kernel_rfl) (by kernel_rfl) (fun _ _ _ h => h) (Or.inl ⟨by first | kernel_rfl | rfl, ?_⟩) (by assumption) ?_
      rotate_left
      · (intro wq hSw; (try dsimp only at hSw); (try simp (maxSteps := 2000000) only [List.getElem_toArray, List.getElem_cons_succ, List.getElem_cons_zero]); go_simp); try with_reducible rfl
      try simp (maxSteps := 2000000) only [List.getElem_toArray, List.getElem_cons_succ, List.getElem_cons_zero, Act.put, List.setIfInBounds_toArray, List.set_cons_zero, List.set_cons_succ]
      refine wpAnyH_take (i := 5) (v := ?_) rfl (by kernel_rfl) (by kernel_rfl) (by kernel_rfl) (fun _ _ _ h => h) (Or.inl ⟨by first | kernel_rfl | rfl, ?_⟩) (by assumption) ?_
      rotate_left
      · (intro wq hSw; (try dsimp only at hSw); (try simp (maxSteps := 2000000) only [List.getElem_toArray, List.getElem_cons_succ, List.getElem_cons_zero]); go_simp); try with_reducible rfl
      try simp (maxSteps := 2000000) only [List.getElem_toArray, List.getElem_cons_succ, List.getElem_cons_zero, Act.put, List.setIfInBounds_toArray, List.set_cons_zero, List.set_cons_succ]
      refine wpAnyH_take (i := 6) (v := ?_) rfl (by kernel_rfl) (by kernel_rfl) (by kernel_rfl) (fun _ _ _ h => h) (Or.inl ⟨by first | kernel_rfl | rfl, ?_⟩) (by assumption) ?_
      rotate_left
      · (intro wq hSw; (try dsimp only at hSw); (try simp (maxSteps := 2000000) only [List.getElem_toArray, List.getElem_cons_succ, List.getElem_cons_zero]); go_simp); try with_reducible rfl
      try simp (maxSteps := 2000000) only [List.getElem_toArray, List.getElem_cons_succ, List.getElem_cons_zero, Act.put, List.setIfInBounds_toArray, List.set_cons_zero, List.set_cons_succ]
      refine wpAnyH_take (i := 7) (v := ?_) rfl (by kernel_rfl) (by kernel_rfl) (by kernel_rfl) (fun _ _ _ h => h) (Or.inl ⟨by first | kernel_rfl | rfl, ?_⟩) (by assumption) ?_
      rotate_left
      · (intro wq hSw; (try dsimp only at hSw); (try simp (maxSteps := 2000000) only [List.getElem_toArray, List.getElem_cons_succ, List.getElem_cons_zero]); go_simp); try with_reducible rfl
      try simp (maxSteps := 2000000) only [List.getElem_toArray, List.getElem_cons_succ, List.getElem_cons_zero, Act.put, List.setIfInBounds_toArray, List.set_cons_zero, List.set_cons_succ]
      refine wpAnyH_take (i := 8) (v := ?_) rfl (by kernel_rfl) (by kernel_rfl) (by kernel_rfl) (fun _ _ _ h => h) (Or.inl ⟨by first | kernel_rfl | rfl, ?_⟩) (by assumption) ?_
      rotate_left
      · (intro wq hSw; (try dsimp only at hSw); (try simp (maxSteps := 2000000) only [List.getElem_toArray, List.getElem_cons_succ, List.getElem_cons_zero]); go_simp); try with_reducible rfl
      try simp (maxSteps := 2000000) only [List.getElem_toArray, List.getElem_cons_succ, List.getElem_cons_zero, Act.put, List.setIfInBounds_toArray, List.set_cons_zero, List.set_cons_succ]
      refine wpAnyH_done (by kernel_rfl) ?_ _
      go_wp2_with fail
      exact ⟨⟨i + 1, by omega, by go_num, Lib.hid (HB.out.drew)⟩, by simp [intOf]; omega⟩
    · obtain rfl : i = n := by omega
      have q1 : ¬ (i : Int) < (i : Int) := by omega
      go_wp2_with fail
      go_ret
      exact ⟨rfl, HB.out⟩

def StP (w : World) (xs : List Int) (e : Ending) (w' : World) : Prop := ∃ A c, e = .returned (.slice A xs.length c) ∧ RdL U64R 1 (w.heap.size ≤ ·) w' A xs.length xs ∧ Below w.heap.size w w'
set_option maxRecDepth 100000 in
set_option maxHeartbeats 8000000 in
theorem rstarts_ok {S : Nat → Prop} {w : World} {x : Nat} {last most : Int} {L : List Int} (h : Hid (ROrcAt S w x last most L)) :
    Calls Try.prog 30 #[.pointer (some ⟨x, 0, none⟩)] w (StP w (dd L)) := by
  obtain ⟨A, c, hX, hc, R⟩ := h.out.row
  have hxl := hX.lt
  have hl := h.out.len
  have HR := Lib.hid R
  have HX := Lib.hid hX
  have own0 : OwnL U64R 22 1 w.heap.size (fun _ => True) w (.slice none 0 0) 0 [] := OwnL.nil_
  have OW0 := Lib.hid own0
  clear R hX own0
  go_enter Try.func30, Try.ntmps30
  go_wp2_with fail
  go_loopw [3, 4] (fun vo vi wr => ∃ (i m : Nat) (A2 : Option Addr) (c2 : Nat), i ≤ L.length ∧ m ≤ i ∧ vi = .int .i64 i ∧ vo = .slice A2 m c2 ∧ Hid (OwnL U64R 22 1 w.heap.size (fun _ => True) wr (.slice A2 m c2) m (dd (L.take i))) ∧ Hid (Below w.heap.size w wr)) (fun _ vi _ => L.length - (intOf vi).toNat)
  case atStart => exact ⟨0, 0, none, 0, Nat.zero_le _, Nat.le_refl _, rfl, rfl, OW0, Lib.hid (Below.refl _ _)⟩
  case round =>
    obtain ⟨i, m, A2, c2, hi, hmi, rfl, rfl, OW, HB⟩ := hrel
    have q2 : (0 : Int) ≤ (i : Int) := Int.natCast_nonneg _
    have hxr : x < wr.heap.size := Nat.lt_of_lt_of_le hxl HB.out.size
    have hcx : wr.cell? ⟨x, 2, none⟩ = some (.slice A L.length c) := (HB.out.cell (p := ⟨x, 2, none⟩) hxl).trans (HX.out.cell 2)
    by_cases hlt : i < L.length
    · have q1 : (i : Int) < (L.length : Int) := by omega
      obtain ⟨g, og, y, rfl, hy, hg, _, k0⟩ := u64_in HR.out hlt
      have kx0 : wr.cell? ⟨g, og + i, none⟩ = some (.int .u64 y) := (HB.out.cell (p := ⟨g, og + i, none⟩) hg).trans k0
      have hgr : g < wr.heap.size := Nat.lt_of_lt_of_le hg HB.out.size
      have u0 : ∀ w', Below wr.heap.size wr w' → w'.cell? ⟨g, og + i, none⟩ = some (.int .u64 y) := fun w' h => (h.cell (p := ⟨g, og + i, none⟩) hgr).trans kx0
      have u2 : ∀ w', Below wr.heap.size wr w' → w'.cell? ⟨x, 2, none⟩ = some (.slice (some ⟨g, og, none⟩) L.length c) := fun w' h => (h.cell (p := ⟨x, 2, none⟩) hxr).trans hcx
      have HY := Lib.hid hy
      have HS := Lib.hid (dd_step hy)
      have HBd := Lib.hid (HB.out.drew)
      have OWd := Lib.hid (OW.out.keep U64R.stable (Below.refl wr.heap.size wr).drew)
      clear hy k0
      by_cases hi0 : i = 0
      · have hst := HS.out
        rw [if_pos hi0] at hst
        have HS2 := Lib.hid hst
        have e1 : decide (i = 0) = true := decide_eq_true hi0
        have e2 : ((i : Int) == 0) = true := beq_iff_eq.2 (by omega)
        have e3 : decide ((i : Int) = 0) = true := decide_eq_true (by omega)
        clear hst HS hi0
        go_wp2_with fail
        refine wp_region_held_drew (S := fun w' => Below wr.heap.size wr w') (by kernel_rfl) (by first | assumption | exact Below.refl _ _ | exact (Below.refl _ _).drew) (fun hHeld => ?_)
        refine wpAnyH_take (i := 0) (v := ?_) rfl (by kernel_rfl) (by kernel_rfl) (by kernel_rfl) (fun _ _ _ h => h) (Or.inl ⟨by first | kernel_rfl | rfl, ?_⟩) (by assumption) ?_
        rotate_left
        · (intro wq hSw; (try dsimp only at hSw); (try simp (maxSteps := 2000000) only [List.getElem_toArray, List.getElem_cons_succ, List.getElem_cons_zero]); go_simp); try with_reducible rfl
        try simp (maxSteps := 2000000) only [List.getElem_toArray, List.getElem_cons_succ, List.getElem_cons_zero, Act.put, List.setIfInBounds_toArray, List.set_cons_zero, List.set_cons_succ]
        refine wpAnyH_take (i := 1) (v := ?_) rfl (by kernel_rfl) (by kernel_rfl) (by kernel_rfl) (fun _ _ _ h => h) (Or.inl ⟨by first | kernel_rfl | rfl, ?_⟩) (by assumption) ?_
        rotate_left
        · (intro wq hSw; (try dsimp only at hSw); (try simp (maxSteps := 2000000) only [List.getElem_toArray, List.getElem_cons_succ, List.getElem_cons_zero]); go_simp); try with_reducible rfl
        try simp (maxSteps := 2000000) only [List.getElem_toArray, List.getElem_cons_succ, List.getElem_cons_zero, Act.put, List.setIfInBounds_toArray, List.set_cons_zero, List.set_cons_succ]
        refine wpAnyH_take (i := 2) (v := ?_) rfl (by kernel_rfl) (by kernel_rfl) (by kernel_rfl) (fun _ _ _ h => h) (Or.inl ⟨by first | kernel_rfl | rfl, ?_⟩) (by assumption) ?_
        rotate_left
        · (intro wq hSw; (try dsimp only at hSw); (try simp (maxSteps := 2000000) only [List.getElem_toArray, List.getElem_cons_succ, List.getElem_cons_zero]); go_simp); try with_reducible rfl
        try simp (maxSteps := 2000000) only [List.getElem_toArray, List.getElem_cons_succ, List.getElem_cons_zero, Act.put, List.setIfInBounds_toArray, List.set_cons_zero, List.set_cons_succ]
        refine wpAnyH_take (i := 3) (v := undef) rfl (by kernel_rfl) (by kernel_rfl) (by kernel_rfl) (fun _ _ _ h => h) (Or.inr ⟨by first | kernel_rfl | rfl, rfl⟩) (by assumption) ?_
        try simp (maxSteps := 2000000) only [List.getElem_toArray, List.getElem_cons_succ, List.getElem_cons_zero, Act.put, List.setIfInBounds_toArray, List.set_cons_zero, List.set_cons_succ]
        refine wpAnyH_take (i := 4) (v := undef) rfl (by kernel_rfl) (by kernel_rfl) (by kernel_rfl) (fun _ _ _ h => h) (Or.inr ⟨by first | kernel_rfl | rfl, rfl⟩) (by assumption) ?_
        try simp (maxSteps := 2000000) only [List.getElem_toArray, List.getElem_cons_succ, List.getElem_cons_zero, Act.put, List.setIfInBounds_toArray, List.set_cons_zero, List.set_cons_succ]
        refine wpAnyH_take (i := 5) (v := undef) rfl (by kernel_rfl) (by kernel_rfl) (by kernel_rfl) (fun _ _ _ h => h) (Or.inr ⟨by first | kernel_rfl | rfl, rfl⟩) (by assumption) ?_
        try simp (maxSteps := 2000000) only [List.getElem_toArray, List.getElem_cons_succ, List.getElem_cons_zero, Act.put, List.setIfInBounds_toArray, List.set_cons_zero, List.set_cons_succ]
        refine wpAnyH_take (i := 6) (v := undef) rfl (by kernel_rfl) (by kernel_rfl) (by kernel_rfl) (fun _ _ _ h => h) (Or.inr ⟨by first | kernel_rfl | rfl, rfl⟩) (by assumption) ?_
        try simp (maxSteps := 2000000) only [List.getElem_toArray, List.getElem_cons_succ, List.getElem_cons_zero, Act.put, List.setIfInBounds_toArray, List.set_cons_zero, List.set_cons_succ]
        refine wpAnyH_take (i := 7) (v := undef) rfl (by kernel_rfl) (by kernel_rfl) (by kernel_rfl) (fun _ _ _ h => h) (Or.inr ⟨by first | kernel_rfl | rfl, rfl⟩) (by assumption) ?_
        try simp (maxSteps := 2000000) only [List.getElem_toArray, List.getElem_cons_succ, List.getElem_cons_zero, Act.put, List.setIfInBounds_toArray, List.set_cons_zero, List.set_cons_succ]
        refine wpAnyH_take (i := 8) (v := undef) rfl (by kernel_rfl) (by kernel_rfl) (by kernel_rfl) (fun _ _ _ h => h) (Or.inr ⟨by first | kernel_rfl | rfl, rfl⟩) (by assumption) ?_
        try simp (maxSteps := 2000000) only [List.getElem_toArray, List.getElem_cons_succ, List.getElem_cons_zero, Act.put, List.setIfInBounds_toArray, List.set_cons_zero, List.set_cons_succ]
        refine wpAnyH_take (i := 9) (v := undef) rfl (by kernel_rfl) (by kernel_rfl) (by kernel_rfl) (fun _ _ _ h => h) (Or.inr ⟨by first | kernel_rfl | rfl, rfl⟩) (by assumption) ?_
        try simp (maxSteps := 2000000) only [List.getElem_toArray, List.getElem_cons_succ, List.getElem_cons_zero, Act.put, List.setIfInBounds_toArray, List.set_cons_zero, List.set_cons_succ]
        refine wpAnyH_take (i := 10) (v := undef) rfl (by kernel_rfl) (by kernel_rfl) (by kernel_rfl) (fun _ _ _ h => h) (Or.inr ⟨by first | kernel_rfl | rfl, rfl⟩) (by assumption) ?_
        try simp (maxSteps := 2000000) only [List.getElem_toArray, List.getElem_cons_succ, List.getElem_cons_zero, Act.put, List.setIfInBounds_toArray, List.set_cons_zero, List.set_cons_succ]
        refine wpAnyH_take (i := 11) (v := undef) rfl (by kernel_rfl) (by kernel_rfl) (by kernel_rfl) (fun _ _ _ h => h) (Or.inr ⟨by first | kernel_rfl | rfl, rfl⟩) (by assumption) ?_
        try simp (maxSteps := 2000000) only [List.getElem_toArray, List.getElem_cons_succ, List.getElem_cons_zero, Act.put, List.setIfInBounds_toArray, List.set_cons_zero, List.set_cons_succ]
        refine wpAnyH_take (i := 12) (v := undef) rfl (by kernel_rfl) (by kernel_rfl) (by kernel_rfl) (fun _ _ _ h => h) (Or.inr ⟨by first | kernel_rfl | rfl, rfl⟩) (by assumption) ?_
        try simp (maxSteps := 2000000) only [List.getElem_toArray, List.getElem_cons_succ, List.getElem_cons_zero, Act.put, List.setIfInBounds_toArray, List.set_cons_zero, List.set_cons_succ]
        refine wpAnyH_take (i := 13) (v := undef) rfl (by kernel_rfl) (by kernel_rfl) (by kernel_rfl) (fun _ _ _ h => h) (Or.inr ⟨by first | kernel_rfl | rfl, rfl⟩) (by assumption) ?_
        try simp (maxSteps := 2000000) only [List.getElem_toArray, List.getElem_cons_succ, List.getElem_cons_zero, Act.put, List.setIfInBounds_toArray, List.set_cons_zero, List.set_cons_succ]
        refine wpAnyH_take (i := 14) (v := undef) rfl (by kernel_rfl) (by kernel_rfl) (by kernel_rfl) (fun _ _ _ h => h) (Or.inr ⟨by first | kernel_rfl | rfl, rfl⟩) (by assumption) ?_
        try simp (maxSteps := 2000000) only [List.getElem_toArray, List.getElem_cons_succ, List.getElem_cons_zero, Act.put, List.setIfInBounds_toArray, List.set_cons_zero, List.set_cons_succ]
        refine wpAnyH_take (i := 15) (v := undef) rfl (by kernel_rfl) (by kernel_rfl) (by kernel_rfl) (fun _ _ _ h => h) (Or.inr ⟨by first | kernel_rfl | rfl, rfl⟩) (by assumption) ?_
        try simp (maxSteps := 2000000) only [List.getElem_toArray, List.getElem_cons_succ, List.getElem_cons_zero, Act.put, List.setIfInBounds_toArray, List.set_cons_zero, List.set_cons_succ]
        refine wpAnyH_take (i := 16) (v := undef) rfl (by kernel_rfl) (by kernel_rfl) (by kernel_rfl) (fun _ _ _ h => h) (Or.inr ⟨by first | kernel_rfl | rfl, rfl⟩) (by assumption) ?_
        try simp (maxSteps := 2000000) only [List.getElem_toArray, List.getElem_cons_succ, List.getElem_cons_zero, Act.put, List.setIfInBounds_toArray, List.set_cons_zero, List.set_cons_succ]
        refine wpAnyH_take (i := 17) (v := undef) rfl (by kernel_rfl) (by kernel_rfl) (by kernel_rfl) (fun _ _ _ h => h) (Or.inr ⟨by first | kernel_rfl | rfl, rfl⟩) (by assumption) ?_
        try simp (maxSteps := 2000000) only [List.getElem_toArray, List.getElem_cons_succ, List.getElem_cons_zero, Act.put, List.setIfInBounds_toArray, List.set_cons_zero, List.set_cons_succ]
        refine wpAnyH_take (i := 18) (v := undef) rfl (by kernel_rfl) (by kernel_rfl) (by kernel_rfl) (fun _ _ _ h => h) (Or.inr ⟨by first | kernel_rfl | rfl, rfl⟩) (by assumption) ?_
        try simp (maxSteps := 2000000) only [List.getElem_toArray, List.getElem_cons_succ, List.getElem_cons_zero, Act.put, List.setIfInBounds_toArray, List.set_cons_zero, List.set_cons_succ]
        refine wpAnyH_take (i := 19) (v := ?_) rfl (by kernel_rfl) (by kernel_rfl) (by kernel_rfl) (fun _ _ _ h => h) (Or.inl ⟨by first | kernel_rfl | rfl, ?_⟩) (by assumption) ?_
        rotate_left
        · (intro wq hSw; (try dsimp only at hSw); (try simp (maxSteps := 2000000) only [List.getElem_toArray, List.getElem_cons_succ, List.getElem_cons_zero]); go_simp); try with_reducible rfl
        try simp (maxSteps := 2000000) only [List.getElem_toArray, List.getElem_cons_succ, List.getElem_cons_zero, Act.put, List.setIfInBounds_toArray, List.set_cons_zero, List.set_cons_succ]
        refine wpAnyH_done (by kernel_rfl) ?_ _
        clear u0 u2
        have kx1 : (World.drew wr).cell? ⟨g, og + i, none⟩ = some (.int .u64 y) := kx0
        have kx2 : (World.drew wr).cell? ⟨x, 2, none⟩ = some (.slice (some ⟨g, og, none⟩) L.length c) := hcx
        go_wp2_with (at_builtin; refine wpList_push1 U64R.stable U64R.one slTyU rfl (by exact rfl) (by exact rfl) (by exact rfl) OWd.out (y := y) rfl rfl (by unfold maxLen; omega) (by omega) HB.out.size ?_; intro A8 c8 u8 hc8 own9 hlt8 hb8 hat8; have OW9 := Lib.hid own9; have D8 := Lib.hid (HBd.out.trans hb8); clear own9 hb8 hat8 hc8)
        exact ⟨⟨i + 1, m + 1, A8, c8, by omega, by omega, by go_num, by first | rfl | go_num, by rw [HS2.out]; exact OW9, D8⟩, by simp [intOf]; omega⟩
      · have hst := HS.out
        rw [if_neg hi0] at hst
        have e1 : decide (i = 0) = false := decide_eq_false hi0
        have e2 : ((i : Int) == 0) = false := beq_eq_false_iff_ne.2 (by omega)
        have e3 : decide ((i : Int) = 0) = false := decide_eq_false (by omega)
        have hi1 : i - 1 < L.length := by omega
        have z0 : (0 : Int) ≤ ((i - 1 : Nat) : Int) := Int.natCast_nonneg _
        have z1 : ((i - 1 : Nat) : Int) < (L.length : Int) := by omega
        have hw1 : IntKind.i64.wrap ((i : Int) - 1) = ((i - 1 : Nat) : Int) := wrap_pred (by omega) (by omega)
        obtain ⟨g2, og2, y2, e, hy2, hg2, _, k2⟩ := u64_in HR.out hi1
        injection e with e
        injection e with ea eb
        subst ea; subst eb
        have u1 : ∀ w', Below wr.heap.size wr w' → w'.cell? ⟨g, og + (i - 1), none⟩ = some (.int .u64 y2) := fun w' h => ((below_then h HB.out).cell (p := ⟨g, og + (i - 1), none⟩) hg).trans k2
        rw [hy2] at hst
        by_cases hyy : y = y2
        · subst hyy
          rw [if_pos rfl] at hst
          have e4 : (y != y) = false := by simp
          have HS2 := Lib.hid hst
          clear hst HS hi0 hy2 k2
          go_wp2_with fail
          refine wp_region_held_drew (S := fun w' => Below wr.heap.size wr w') (by kernel_rfl) (by first | assumption | exact Below.refl _ _ | exact (Below.refl _ _).drew) (fun hHeld => ?_)
          refine wpAnyH_take (i := 0) (v := ?_) rfl (by kernel_rfl) (by kernel_rfl) (by kernel_rfl) (fun _ _ _ h => h) (Or.inl ⟨by first | kernel_rfl | rfl, ?_⟩) (by assumption) ?_
          rotate_left
          · (intro wq hSw; (try dsimp only at hSw); (try simp (maxSteps := 2000000) only [List.getElem_toArray, List.getElem_cons_succ, List.getElem_cons_zero]); go_simp); try with_reducible rfl
          try simp (maxSteps := 2000000) only [List.getElem_toArray, List.getElem_cons_succ, List.getElem_cons_zero, Act.put, List.setIfInBounds_toArray, List.set_cons_zero, List.set_cons_succ]
          refine wpAnyH_take (i := 1) (v := ?_) rfl (by kernel_rfl) (by kernel_rfl) (by kernel_rfl) (fun _ _ _ h => h) (Or.inl ⟨by first | kernel_rfl | rfl, ?_⟩) (by assumption) ?_
          rotate_left
          · (intro wq hSw; (try dsimp only at hSw); (try simp (maxSteps := 2000000) only [List.getElem_toArray, List.getElem_cons_succ, List.getElem_cons_zero]); go_simp); try with_reducible rfl
          try simp (maxSteps := 2000000) only [List.getElem_toArray, List.getElem_cons_succ, List.getElem_cons_zero, Act.put, List.setIfInBounds_toArray, List.set_cons_zero, List.set_cons_succ]
          refine wpAnyH_take (i := 2) (v := ?_) rfl (by kernel_rfl) (by kernel_rfl) (by kernel_rfl) (fun _ _ _ h => h) (Or.inl ⟨by first | kernel_rfl | rfl, ?_⟩) (by assumption) ?_
          rotate_left
          · (intro wq hSw; (try dsimp only at hSw); (try simp (maxSteps := 2000000) only [List.getElem_toArray, List.getElem_cons_succ, List.getElem_cons_zero]); go_simp); try with_reducible rfl
          try simp (maxSteps := 2000000) only [List.getElem_toArray, List.getElem_cons_succ, List.getElem_cons_zero, Act.put, List.setIfInBounds_toArray, List.set_cons_zero, List.set_cons_succ]
          refine wpAnyH_take (i := 3) (v := ?_) rfl (by kernel_rfl) (by kernel_rfl) (by kernel_rfl) (fun _ _ _ h => h) (Or.inl ⟨by first | kernel_rfl | rfl, ?_⟩) (by assumption) ?_
          rotate_left
          · (intro wq hSw; (try dsimp only at hSw); (try simp (maxSteps := 2000000) only [List.getElem_toArray, List.getElem_cons_succ, List.getElem_cons_zero]); go_simp); try with_reducible rfl
          try simp (maxSteps := 2000000) only [List.getElem_toArray, List.getElem_cons_succ, List.getElem_cons_zero, Act.put, List.setIfInBounds_toArray, List.set_cons_zero, List.set_cons_succ]
          refine wpAnyH_take (i := 4) (v := ?_) rfl (by kernel_rfl) (by kernel_rfl) (by kernel_rfl) (fun _ _ _ h => h) (Or.inl ⟨by first | kernel_rfl | rfl, ?_⟩) (by assumption) ?_
          rotate_left
          · (intro wq hSw; (try dsimp only at hSw); (try simp (maxSteps := 2000000) only [List.getElem_toArray, List.getElem_cons_succ, List.getElem_cons_zero]); go_simp); try with_reducible rfl
          try simp (maxSteps := 2000000) only [List.getElem_toArray, List.getElem_cons_succ, List.getElem_cons_zero, Act.put, List.setIfInBounds_toArray, List.set_cons_zero, List.set_cons_succ]
          refine wpAnyH_take (i := 5) (v := ?_) rfl (by kernel_rfl) (by kernel_rfl) (by kernel_rfl) (fun _ _ _ h => h) (Or.inl ⟨by first | kernel_rfl | rfl, ?_⟩) (by assumption) ?_
          rotate_left
          · (intro wq hSw; (try dsimp only at hSw); (try simp (maxSteps := 2000000) only [List.getElem_toArray, List.getElem_cons_succ, List.getElem_cons_zero]); go_simp); try with_reducible rfl
          try simp (maxSteps := 2000000) only [List.getElem_toArray, List.getElem_cons_succ, List.getElem_cons_zero, Act.put, List.setIfInBounds_toArray, List.set_cons_zero, List.set_cons_succ]
          refine wpAnyH_take (i := 6) (v := ?_) rfl (by kernel_rfl) (by kernel_rfl) (by kernel_rfl) (fun _ _ _ h => h) (Or.inl ⟨by first | kernel_rfl | rfl, ?_⟩) (by assumption) ?_
          rotate_left
          · (intro wq hSw; (try dsimp only at hSw); (try simp (maxSteps := 2000000) only [List.getElem_toArray, List.getElem_cons_succ, List.getElem_cons_zero]); go_simp); try with_reducible rfl
          try simp (maxSteps := 2000000) only [List.getElem_toArray, List.getElem_cons_succ, List.getElem_cons_zero, Act.put, List.setIfInBounds_toArray, List.set_cons_zero, List.set_cons_succ]
          refine wpAnyH_take (i := 7) (v := ?_) rfl (by kernel_rfl) (by kernel_rfl) (by kernel_rfl) (fun _ _ _ h => h) (Or.inl ⟨by first | kernel_rfl | rfl, ?_⟩) (by assumption) ?_
          rotate_left
          · (intro wq hSw; (try dsimp only at hSw); (try simp (maxSteps := 2000000) only [List.getElem_toArray, List.getElem_cons_succ, List.getElem_cons_zero]); go_simp); try with_reducible rfl
          try simp (maxSteps := 2000000) only [List.getElem_toArray, List.getElem_cons_succ, List.getElem_cons_zero, Act.put, List.setIfInBounds_toArray, List.set_cons_zero, List.set_cons_succ]
          refine wpAnyH_take (i := 8) (v := ?_) rfl (by kernel_rfl) (by kernel_rfl) (by kernel_rfl) (fun _ _ _ h => h) (Or.inl ⟨by first | kernel_rfl | rfl, ?_⟩) (by assumption) ?_
          rotate_left
          · (intro wq hSw; (try dsimp only at hSw); (try simp (maxSteps := 2000000) only [List.getElem_toArray, List.getElem_cons_succ, List.getElem_cons_zero]); go_simp); try with_reducible rfl
          try simp (maxSteps := 2000000) only [List.getElem_toArray, List.getElem_cons_succ, List.getElem_cons_zero, Act.put, List.setIfInBounds_toArray, List.set_cons_zero, List.set_cons_succ]
          refine wpAnyH_take (i := 9) (v := ?_) rfl (by kernel_rfl) (by kernel_rfl) (by kernel_rfl) (fun _ _ _ h => h) (Or.inl ⟨by first | kernel_rfl | rfl, ?_⟩) (by assumption) ?_
          rotate_left
          · (intro wq hSw; (try dsimp only at hSw); (try simp (maxSteps := 2000000) only [List.getElem_toArray, List.getElem_cons_succ, List.getElem_cons_zero]); go_simp); try with_reducible rfl
          try simp (maxSteps := 2000000) only [List.getElem_toArray, List.getElem_cons_succ, List.getElem_cons_zero, Act.put, List.setIfInBounds_toArray, List.set_cons_zero, List.set_cons_succ]
          refine wpAnyH_take (i := 10) (v := ?_) rfl (by kernel_rfl) (by kernel_rfl) (by kernel_rfl) (fun _ _ _ h => h) (Or.inl ⟨by first | kernel_rfl | rfl, ?_⟩) (by assumption) ?_
          rotate_left
          · (intro wq hSw; (try dsimp only at hSw); (try simp (maxSteps := 2000000) only [List.getElem_toArray, List.getElem_cons_succ, List.getElem_cons_zero]); go_simp); try with_reducible rfl
          try simp (maxSteps := 2000000) only [List.getElem_toArray, List.getElem_cons_succ, List.getElem_cons_zero, Act.put, List.setIfInBounds_toArray, List.set_cons_zero, List.set_cons_succ]
          refine wpAnyH_take (i := 11) (v := ?_) rfl (by kernel_rfl) (by kernel_rfl) (by kernel_rfl) (fun _ _ _ h => h) (Or.inl ⟨by first | kernel_rfl | rfl, ?_⟩) (by assumption) ?_
          rotate_left
          · (intro wq hSw; (try dsimp only at hSw); (try simp (maxSteps := 2000000) only [List.getElem_toArray, List.getElem_cons_succ, List.getElem_cons_zero]); go_simp); try with_reducible rfl
          try simp (maxSteps := 2000000) only [List.getElem_toArray, List.getElem_cons_succ, List.getElem_cons_zero, Act.put, List.setIfInBounds_toArray, List.set_cons_zero, List.set_cons_succ]
          refine wpAnyH_take (i := 12) (v := ?_) rfl (by kernel_rfl) (by kernel_rfl) (by kernel_rfl) (fun _ _ _ h => h) (Or.inl ⟨by first | kernel_rfl | rfl, ?_⟩) (by assumption) ?_
          rotate_left
          · (intro wq hSw; (try dsimp only at hSw); (try simp (maxSteps := 2000000) only [List.getElem_toArray, List.getElem_cons_succ, List.getElem_cons_zero]); go_simp); try with_reducible rfl
          try simp (maxSteps := 2000000) only [List.getElem_toArray, List.getElem_cons_succ, List.getElem_cons_zero, Act.put, List.setIfInBounds_toArray, List.set_cons_zero, List.set_cons_succ]
          refine wpAnyH_take (i := 13) (v := ?_) rfl (by kernel_rfl) (by kernel_rfl) (by kernel_rfl) (fun _ _ _ h => h) (Or.inl ⟨by first | kernel_rfl | rfl, ?_⟩) (by assumption) ?_
          rotate_left
          · (intro wq hSw; (try dsimp only at hSw); (try simp (maxSteps := 2000000) only [List.getElem_toArray, List.getElem_cons_succ, List.getElem_cons_zero]); go_simp); try with_reducible rfl
          try simp (maxSteps := 2000000) only [List.getElem_toArray, List.getElem_cons_succ, List.getElem_cons_zero, Act.put, List.setIfInBounds_toArray, List.set_cons_zero, List.set_cons_succ]
          refine wpAnyH_take (i := 14) (v := ?_) rfl (by kernel_rfl) (by kernel_rfl) (by kernel_rfl) (fun _ _ _ h => h) (Or.inl ⟨by first | kernel_rfl | rfl, ?_⟩) (by assumption) ?_
          rotate_left
          · (intro wq hSw; (try dsimp only at hSw); (try simp (maxSteps := 2000000) only [List.getElem_toArray, List.getElem_cons_succ, List.getElem_cons_zero]); go_simp); try with_reducible rfl
          try simp (maxSteps := 2000000) only [List.getElem_toArray, List.getElem_cons_succ, List.getElem_cons_zero, Act.put, List.setIfInBounds_toArray, List.set_cons_zero, List.set_cons_succ]
          refine wpAnyH_take (i := 15) (v := ?_) rfl (by kernel_rfl) (by kernel_rfl) (by kernel_rfl) (fun _ _ _ h => h) (Or.inl ⟨by first | kernel_rfl | rfl, ?_⟩) (by assumption) ?_
          rotate_left
          · (intro wq hSw; (try dsimp only at hSw); (try simp (maxSteps := 2000000) only [List.getElem_toArray, List.getElem_cons_succ, List.getElem_cons_zero]); go_simp); try with_reducible rfl
          try simp (maxSteps := 2000000) only [List.getElem_toArray, List.getElem_cons_succ, List.getElem_cons_zero, Act.put, List.setIfInBounds_toArray, List.set_cons_zero, List.set_cons_succ]
          refine wpAnyH_take (i := 16) (v := ?_) rfl (by kernel_rfl) (by kernel_rfl) (by kernel_rfl) (fun _ _ _ h => h) (Or.inl ⟨by first | kernel_rfl | rfl, ?_⟩) (by assumption) ?_
          rotate_left
          · (intro wq hSw; (try dsimp only at hSw); (try simp (maxSteps := 2000000) only [List.getElem_toArray, List.getElem_cons_succ, List.getElem_cons_zero]); go_simp); try with_reducible rfl
          try simp (maxSteps := 2000000) only [List.getElem_toArray, List.getElem_cons_succ, List.getElem_cons_zero, Act.put, List.setIfInBounds_toArray, List.set_cons_zero, List.set_cons_succ]
          refine wpAnyH_take (i := 17) (v := ?_) rfl (by kernel_rfl) (by kernel_rfl) (by kernel_rfl) (fun _ _ _ h => h) (Or.inl ⟨by first | kernel_rfl | rfl, ?_⟩) (by assumption) ?_
          rotate_left
          · (intro wq hSw; (try dsimp only at hSw); (try simp (maxSteps := 2000000) only [List.getElem_toArray, List.getElem_cons_succ, List.getElem_cons_zero]); go_simp); try with_reducible rfl
          try simp (maxSteps := 2000000) only [List.getElem_toArray, List.getElem_cons_succ, List.getElem_cons_zero, Act.put, List.setIfInBounds_toArray, List.set_cons_zero, List.set_cons_succ]
          refine wpAnyH_take (i := 18) (v := ?_) rfl (by kernel_rfl) (by kernel_rfl) (by kernel_rfl) (fun _ _ _ h => h) (Or.inl ⟨by first | kernel_rfl | rfl, ?_⟩) (by assumption) ?_
          rotate_left
          · (intro wq hSw; (try dsimp only at hSw); (try simp (maxSteps := 2000000) only [List.getElem_toArray, List.getElem_cons_succ, List.getElem_cons_zero]); go_simp); try with_reducible rfl
          try simp (maxSteps := 2000000) only [List.getElem_toArray, List.getElem_cons_succ, List.getElem_cons_zero, Act.put, List.setIfInBounds_toArray, List.set_cons_zero, List.set_cons_succ]
          refine wpAnyH_take (i := 19) (v := ?_) rfl (by kernel_rfl) (by kernel_rfl) (by kernel_rfl) (fun _ _ _ h => h) (Or.inl ⟨by first | kernel_rfl | rfl, ?_⟩) (by assumption) ?_
          rotate_left
          · (intro wq hSw; (try dsimp only at hSw); (try simp (maxSteps := 2000000) only [List.getElem_toArray, List.getElem_cons_succ, List.getElem_cons_zero]); go_simp); try with_reducible rfl
          try simp (maxSteps := 2000000) only [List.getElem_toArray, List.getElem_cons_succ, List.getElem_cons_zero, Act.put, List.setIfInBounds_toArray, List.set_cons_zero, List.set_cons_succ]
          refine wpAnyH_done (by kernel_rfl) ?_ _
          clear hw1 u0 u1 u2
          go_wp2_with fail
          exact ⟨⟨i + 1, m, A2, c2, by omega, by omega, by go_num, rfl, by rw [HS2.out]; exact OWd, HBd⟩, by simp [intOf]; omega⟩
        · rw [if_neg (fun e => hyy (Option.some.inj e).symm)] at hst
          have e4 : (y != y2) = true := by simp [hyy]
          have e5 : decide (y = y2) = false := decide_eq_false hyy
          have HS2 := Lib.hid hst
          clear hst HS hi0 hy2 k2 hyy
          go_wp2_with fail
          refine wp_region_held_drew (S := fun w' => Below wr.heap.size wr w') (by kernel_rfl) (by first | assumption | exact Below.refl _ _ | exact (Below.refl _ _).drew) (fun hHeld => ?_)
          refine wpAnyH_take (i := 0) (v := ?_) rfl (by kernel_rfl) (by kernel_rfl) (by kernel_rfl) (fun _ _ _ h => h) (Or.inl ⟨by first | kernel_rfl | rfl, ?_⟩) (by assumption) ?_
          rotate_left
          · (intro wq hSw; (try dsimp only at hSw); (try simp (maxSteps := 2000000) only [List.getElem_toArray, List.getElem_cons_succ, List.getElem_cons_zero]); go_simp); try with_reducible rfl
          try simp (maxSteps := 2000000) only [List.getElem_toArray, List.getElem_cons_succ, List.getElem_cons_zero, Act.put, List.setIfInBounds_toArray, List.set_cons_zero, List.set_cons_succ]
          refine wpAnyH_take (i := 1) (v := ?_) rfl (by kernel_rfl) (by kernel_rfl) (by kernel_rfl) (fun _ _ _ h => h) (Or.inl ⟨by first | kernel_rfl | rfl, ?_⟩) (by assumption) ?_
          rotate_left
          · (intro wq hSw; (try dsimp only at hSw); (try simp (maxSteps := 2000000) only [List.getElem_toArray, List.getElem_cons_succ, List.getElem_cons_zero]); go_simp); try with_reducible rfl
          try simp (maxSteps := 2000000) only [List.getElem_toArray, List.getElem_cons_succ, List.getElem_cons_zero, Act.put, List.setIfInBounds_toArray, List.set_cons_zero, List.set_cons_succ]
          refine wpAnyH_take (i := 2) (v := ?_) rfl (by kernel_rfl) (by kernel_rfl) (by kernel_rfl) (fun _ _ _ h => h) (Or.inl ⟨by first | kernel_rfl | rfl, ?_⟩) (by assumption) ?_
          rotate_left
          · (intro wq hSw; (try dsimp only at hSw); (try simp (maxSteps := 2000000) only [List.getElem_toArray, List.getElem_cons_succ, List.getElem_cons_zero]); go_simp); try with_reducible rfl
          try simp (maxSteps := 2000000) only [List.getElem_toArray, List.getElem_cons_succ, List.getElem_cons_zero, Act.put, List.setIfInBounds_toArray, List.set_cons_zero, List.set_cons_succ]
          refine wpAnyH_take (i := 3) (v := ?_) rfl (by kernel_rfl) (by kernel_rfl) (by kernel_rfl) (fun _ _ _ h => h) (Or.inl ⟨by first | kernel_rfl | rfl, ?_⟩) (by assumption) ?_
          rotate_left
          · (intro wq hSw; (try dsimp only at hSw); (try simp (maxSteps := 2000000) only [List.getElem_toArray, List.getElem_cons_succ, List.getElem_cons_zero]); go_simp); try with_reducible rfl
          try simp (maxSteps := 2000000) only [List.getElem_toArray, List.getElem_cons_succ, List.getElem_cons_zero, Act.put, List.setIfInBounds_toArray, List.set_cons_zero, List.set_cons_succ]
          refine wpAnyH_take (i := 4) (v := ?_) rfl (by kernel_rfl) (by kernel_rfl) (by kernel_rfl) (fun _ _ _ h => h) (Or.inl ⟨by first | kernel_rfl | rfl, ?_⟩) (by assumption) ?_
          rotate_left
          · (intro wq hSw; (try dsimp only at hSw); (try simp (maxSteps := 2000000) only [List.getElem_toArray, List.getElem_cons_succ, List.getElem_cons_zero]); go_simp); try with_reducible rfl
          try simp (maxSteps := 2000000) only [List.getElem_toArray, List.getElem_cons_succ, List.getElem_cons_zero, Act.put, List.setIfInBounds_toArray, List.set_cons_zero, List.set_cons_succ]
          refine wpAnyH_take (i := 5) (v := ?_) rfl (by kernel_rfl) (by kernel_rfl) (by kernel_rfl) (fun _ _ _ h => h) (Or.inl ⟨by first | kernel_rfl | rfl, ?_⟩) (by assumption) ?_
          rotate_left
          · (intro wq hSw; (try dsimp only at hSw); (try simp (maxSteps := 2000000) only [List.getElem_toArray, List.getElem_cons_succ, List.getElem_cons_zero]); go_simp); try with_reducible rfl
          try simp (maxSteps := 2000000) only [List.getElem_toArray, List.getElem_cons_succ, List.getElem_cons_zero, Act.put, List.setIfInBounds_toArray, List.set_cons_zero, List.set_cons_succ]
          refine wpAnyH_take (i := 6) (v := ?_) rfl (by kernel_rfl) (by kernel_rfl) (by kernel_rfl) (fun _ _ _ h => h) (Or.inl ⟨by first | kernel_rfl | rfl, ?_⟩) (by assumption) ?_
          rotate_left
          · (intro wq hSw; (try dsimp only at hSw); (try simp (maxSteps := 2000000) only [List.getElem_toArray, List.getElem_cons_succ, List.getElem_cons_zero]); go_simp); try with_reducible rfl
          try simp (maxSteps := 2000000) only [List.getElem_toArray, List.getElem_cons_succ, List.getElem_cons_zero, Act.put, List.setIfInBounds_toArray, List.set_cons_zero, List.set_cons_succ]
          refine wpAnyH_take (i := 7) (v := ?_) rfl (by kernel_rfl) (by kernel_rfl) (by kernel_rfl) (fun _ _ _ h => h) (Or.inl ⟨by first | kernel_rfl | rfl, ?_⟩) (by assumption) ?_
          rotate_left
          · (intro wq hSw; (try dsimp only at hSw); (try simp (maxSteps := 2000000) only [List.getElem_toArray, List.getElem_cons_succ, List.getElem_cons_zero]); go_simp); try with_reducible rfl
          try simp (maxSteps := 2000000) only [List.getElem_toArray, List.getElem_cons_succ, List.getElem_cons_zero, Act.put, List.setIfInBounds_toArray, List.set_cons_zero, List.set_cons_succ]
          refine wpAnyH_take (i := 8) (v := ?_) rfl (by kernel_rfl) (by kernel_rfl) (by kernel_rfl) (fun _ _ _ h => h) (Or.inl ⟨by first | kernel_rfl | rfl, ?_⟩) (by assumption) ?_
          rotate_left
          · (intro wq hSw; (try dsimp only at hSw); (try simp (maxSteps := 2000000) only [List.getElem_toArray, List.getElem_cons_succ, List.getElem_cons_zero]); go_simp); try with_reducible rfl
          try simp (maxSteps := 2000000) only [List.getElem_toArray, List.getElem_cons_succ, List.getElem_cons_zero, Act.put, List.setIfInBounds_toArray, List.set_cons_zero, List.set_cons_succ]
          refine wpAnyH_take (i := 9) (v := ?_) rfl (by kernel_rfl) (by kernel_rfl) (by kernel_rfl) (fun _ _ _ h => h) (Or.inl ⟨by first | kernel_rfl | rfl, ?_⟩) (by assumption) ?_
          rotate_left
          · (intro wq hSw; (try dsimp only at hSw); (try simp (maxSteps := 2000000) only [List.getElem_toArray, List.getElem_cons_succ, List.getElem_cons_zero]); go_simp); try with_reducible rfl
          try simp (maxSteps := 2000000) only [List.getElem_toArray, List.getElem_cons_succ, List.getElem_cons_zero, Act.put, List.setIfInBounds_toArray, List.set_cons_zero, List.set_cons_succ]
          refine wpAnyH_take (i := 10) (v := ?_) rfl (by kernel_rfl) (by kernel_rfl) (by kernel_rfl) (fun _ _ _ h => h) (Or.inl ⟨by first | kernel_rfl | rfl, ?_⟩) (by assumption) ?_
          rotate_left
          · (intro wq hSw; (try dsimp only at hSw); (try simp (maxSteps := 2000000) only [List.getElem_toArray, List.getElem_cons_succ, List.getElem_cons_zero]); go_simp); try with_reducible rfl
          try simp (maxSteps := 2000000) only [List.getElem_toArray, List.getElem_cons_succ, List.getElem_cons_zero, Act.put, List.setIfInBounds_toArray, List.set_cons_zero, List.set_cons_succ]
          refine wpAnyH_take (i := 11) (v := ?_) rfl (by kernel_rfl) (by kernel_rfl) (by kernel_rfl) (fun _ _ _ h => h) (Or.inl ⟨by first | kernel_rfl | rfl, ?_⟩) (by assumption) ?_
          rotate_left
          · (intro wq hSw; (try dsimp only at hSw); (try simp (maxSteps := 2000000) only [List.getElem_toArray, List.getElem_cons_succ, List.getElem_cons_zero]); go_simp); try with_reducible rfl
          try simp (maxSteps := 2000000) only [List.getElem_toArray, List.getElem_cons_succ, List.getElem_cons_zero, Act.put, List.setIfInBounds_toArray, List.set_cons_zero, List.set_cons_succ]
          refine wpAnyH_take (i := 12) (v := ?_) rfl (by kernel_rfl) (by kernel_rfl) (by kernel_rfl) (fun _ _ _ h => h) (Or.inl ⟨by first | kernel_rfl | rfl, ?_⟩) (by assumption) ?_
          rotate_left
          · (intro wq hSw; (try dsimp only at hSw); (try simp (maxSteps := 2000000) only [List.getElem_toArray, List.getElem_cons_succ, List.getElem_cons_zero]); go_simp); try with_reducible rfl
          try simp (maxSteps := 2000000) only [List.getElem_toArray, List.getElem_cons_succ, List.getElem_cons_zero, Act.put, List.setIfInBounds_toArray, List.set_cons_zero, List.set_cons_succ]
          refine wpAnyH_take (i := 13) (v := ?_) rfl (by kernel_rfl) (by kernel_rfl) (by kernel_rfl) (fun _ _ _ h => h) (Or.inl ⟨by first | kernel_rfl | rfl, ?_⟩) (by assumption) ?_
          rotate_left
          · (intro wq hSw; (try dsimp only at hSw); (try simp (maxSteps := 2000000) only [List.getElem_toArray, List.getElem_cons_succ, List.getElem_cons_zero]); go_simp); try with_reducible rfl
          try simp (maxSteps := 2000000) only [List.getElem_toArray, List.getElem_cons_succ, List.getElem_cons_zero, Act.put, List.setIfInBounds_toArray, List.set_cons_zero, List.set_cons_succ]
          refine wpAnyH_take (i := 14) (v := ?_) rfl (by kernel_rfl) (by kernel_rfl) (by kernel_rfl) (fun _ _ _ h => h) (Or.inl ⟨by first | kernel_rfl | rfl, ?_⟩) (by assumption) ?_
          rotate_left
          · (intro wq hSw; (try dsimp only at hSw); (try simp (maxSteps := 2000000) only [List.getElem_toArray, List.getElem_cons_succ, List.getElem_cons_zero]); go_simp); try with_reducible rfl
          try simp (maxSteps := 2000000) only [List.getElem_toArray, List.getElem_cons_succ, List.getElem_cons_zero, Act.put, List.setIfInBounds_toArray, List.set_cons_zero, List.set_cons_succ]
          refine wpAnyH_take (i := 15) (v := ?_) rfl (by kernel_rfl) (by kernel_rfl) (by kernel_rfl) (fun _ _ _ h => h) (Or.inl ⟨by first | kernel_rfl | rfl, ?_⟩) (by assumption) ?_
          rotate_left
          · (intro wq hSw; (try dsimp only at hSw); (try simp (maxSteps := 2000000) only [List.getElem_toArray, List.getElem_cons_succ, List.getElem_cons_zero]); go_simp); try with_reducible rfl
          try simp (maxSteps := 2000000) only [List.getElem_toArray, List.getElem_cons_succ, List.getElem_cons_zero, Act.put, List.setIfInBounds_toArray, List.set_cons_zero, List.set_cons_succ]
          refine wpAnyH_take (i := 16) (v := ?_) rfl (by kernel_rfl) (by kernel_rfl) (by kernel_rfl) (fun _ _ _ h => h) (Or.inl ⟨by first | kernel_rfl | rfl, ?_⟩) (by assumption) ?_
          rotate_left
          · (intro wq hSw; (try dsimp only at hSw); (try simp (maxSteps := 2000000) only [List.getElem_toArray, List.getElem_cons_succ, List.getElem_cons_zero]); go_simp); try with_reducible rfl
          try simp (maxSteps := 2000000) only [List.getElem_toArray, List.getElem_cons_succ, List.getElem_cons_zero, Act.put, List.setIfInBounds_toArray, List.set_cons_zero, List.set_cons_succ]
          refine wpAnyH_take (i := 17) (v := ?_) rfl (by kernel_rfl) (by kernel_rfl) (by kernel_rfl) (fun _ _ _ h => h) (Or.inl ⟨by first | kernel_rfl | rfl, ?_⟩) (by assumption) ?_
          rotate_left
          · (intro wq hSw; (try dsimp only at hSw); (try simp (maxSteps := 2000000) only [List.getElem_toArray, List.getElem_cons_succ, List.getElem_cons_zero]); go_simp); try with_reducible rfl
          try simp (maxSteps := 2000000) only [List.getElem_toArray, List.getElem_cons_succ, List.getElem_cons_zero, Act.put, List.setIfInBounds_toArray, List.set_cons_zero, List.set_cons_succ]
          refine wpAnyH_take (i := 18) (v := ?_) rfl (by kernel_rfl) (by kernel_rfl) (by kernel_rfl) (fun _ _ _ h => h) (Or.inl ⟨by first | kernel_rfl | rfl, ?_⟩) (by assumption) ?_
          rotate_left
          · (intro wq hSw; (try dsimp only at hSw); (try simp (maxSteps := 2000000) only [List.getElem_toArray, List.getElem_cons_succ, List.getElem_cons_zero]); go_simp); try with_reducible rfl
          try simp (maxSteps := 2000000) only [List.getElem_toArray, List.getElem_cons_succ, List.getElem_cons_zero, Act.put, List.setIfInBounds_toArray, List.set_cons_zero, List.set_cons_succ]
          refine wpAnyH_take (i := 19) (v := ?_) rfl (by kernel_rfl) (by kernel_rfl) (by kernel_rfl) (fun _ _ _ h => h) (Or.inl ⟨by first | kernel_rfl | rfl, ?_⟩) (by assumption) ?_
          rotate_left
          · (intro wq hSw; (try dsimp only at hSw); (try simp (maxSteps := 2000000) only [List.getElem_toArray, List.getElem_cons_succ, List.getElem_cons_zero]); go_simp); try with_reducible rfl
          try simp (maxSteps := 2000000) only [List.getElem_toArray, List.getElem_cons_succ, List.getElem_cons_zero, Act.put, List.setIfInBounds_toArray, List.set_cons_zero, List.set_cons_succ]
          refine wpAnyH_done (by kernel_rfl) ?_ _
          clear hw1 u0 u1 u2
          have kx1 : (World.drew wr).cell? ⟨g, og + i, none⟩ = some (.int .u64 y) := kx0
          have kx2 : (World.drew wr).cell? ⟨x, 2, none⟩ = some (.slice (some ⟨g, og, none⟩) L.length c) := hcx
          go_wp2_with (at_builtin; refine wpList_push1 U64R.stable U64R.one slTyU rfl (by exact rfl) (by exact rfl) (by exact rfl) OWd.out (y := y) rfl rfl (by unfold maxLen; omega) (by omega) HB.out.size ?_; intro A8 c8 u8 hc8 own9 hlt8 hb8 hat8; have OW9 := Lib.hid own9; have D8 := Lib.hid (HBd.out.trans hb8); clear own9 hb8 hat8 hc8)
          exact ⟨⟨i + 1, m + 1, A8, c8, by omega, by omega, by go_num, by first | rfl | go_num, by rw [HS2.out]; exact OW9, D8⟩, by simp [intOf]; omega⟩
    · obtain rfl : i = L.length := by omega
      have q1 : ¬ (L.length : Int) < (L.length : Int) := by omega
      obtain ⟨n, hn⟩ : ∃ n, L.length = n := ⟨_, rfl⟩
      have hdd := OW.out
      rw [List.take_length] at hdd
      have hm : (dd L).length = m := hdd.len
      obtain ⟨A3, c3, e, _, hrd⟩ := hdd.rd (S' := (w.heap.size ≤ ·)) (fun q hq => hq) (fun cs y hy => hy)
      injection e with ea eb ec
      subst ea; subst ec
      have RD := Lib.hid hrd
      have HM := Lib.hid hm
      clear hdd hrd hm hn
      go_wp2_with fail
      go_ret
      refine ⟨A2, c2, by rw [HM.out]; rfl, ?_, HB.out⟩
      rw [HM.out]
      exact RD.out
end Go.Proofs.Ytpibaahiboajhaa
