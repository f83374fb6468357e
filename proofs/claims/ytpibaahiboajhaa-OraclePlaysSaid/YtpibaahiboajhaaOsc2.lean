/-
  An oracle in memory: starts that begin and end.
-/
import Derived.Test.YtpibaahiboajhaaOsc1
set_option linter.unusedSimpArgs false
set_option linter.unusedVariables false
namespace Go.Proofs.Ytpibaahiboajhaa
open Go.RowKit Go.Cib
attribute [local go_sem] cell_set Later.cell Later.frozen Grw.cell Grw.frozen
open Go.Sort Go.Proofs Go.Shelf

/-- Without doubles, and within another list: no longer. -/
theorem nodup_len : ∀ (xs L : List Int), xs.Nodup → (∀ x ∈ xs, x ∈ L) → xs.length ≤ L.length
  | [], _, _, _ => Nat.zero_le _
  | x :: xs, L, hn, h => by
    have hx : x ∈ L := h x (by simp)
    have hp := List.perm_cons_erase hx
    have := nodup_len xs (L.erase x) (List.nodup_cons.1 hn).2 (fun y hy => by
      have hyL := h y (by simp [hy])
      have hne : y ≠ x := fun e => (List.nodup_cons.1 hn).1 (e ▸ hy)
      exact (List.mem_erase_of_ne hne).2 hyL)
    have hl := hp.length_eq
    simp only [List.length_cons] at hl ⊢
    omega
theorem mdel_none {es : List (Int × Value)} (hn : (es.map (·.1)).Nodup) (k j : Int) : mlook (mdel es k) j = if k = j then none else mlook es j := look_del hn k j

section
variable {w : World} {o b : Nat} {last most : Int} {L : List Int}
/-- What the map answers. -/
theorem OrcAt.looks (h : OrcAt w o b last most L) (s : Int) : ∃ es, MapAt (Value.int .u64) w b es ∧ (∀ s, mlook es s = if L.count s = 0 then none else some (.int .i64 (L.count s))) ∧ (mlook es s).getD (.int .i64 0) = .int .i64 (L.count s) := by
  obtain ⟨es, h1, h2⟩ := h.map
  refine ⟨es, h1, h2, ?_⟩
  rw [h2]
  split
  · rename_i h0
    rw [h0]; rfl
  · rfl
theorem OrcAt.put (h : OrcAt w o b last most L) {w' : World} {L' : List Int} {es : List (Int × Value)} (hb : BoxAt w' o #[.int .u64 last, .int .u64 most, .map (some b), .int .i64 L'.length]) (hm : MapAt (Value.int .u64) w' b es) (hl : L'.length ≤ 1000)
    (he : ∀ s, mlook es s = if L'.count s = 0 then none else some (.int .i64 (L'.count s))) : OrcAt w' o b last most L' := ⟨hb, h.ne, ⟨es, hm, he⟩, hl, h.rng⟩
end
theorem zero64 : ∀ w, (zeroValue 3).run Try.prog w = .ok (.int .i64 0) w := by
  intro w
  kernel_rfl
set_option maxRecDepth 100000 in
set_option maxHeartbeats 4000000 in
theorem obegin_ok {w : World} {o b : Nat} {last most : Int} {L : List Int} (h : OrcAt w o b last most L) (hL : L.length < 1000) : Calls Try.prog 17 #[.pointer (some ⟨o, 0, none⟩)] w fun e w' =>
    e = .returned (.int .u64 last) ∧ OrcAt w' o b last most (last :: L) ∧ Keep (fun k => k = o ∨ k = b) w w' := by
  have hn := onone_is (h.box.cell 2)
  have hl := olast_ok h
  obtain ⟨es, m1, m2, m3⟩ := h.looks last
  have hcl : L.count last ≤ L.length := List.count_le_length
  obtain ⟨w2, r2, m4, g2, s2⟩ := run_mapUpdate (P := Try.prog) ktU mapU_ty m1 last (.int .i64 ((L.count last : Int) + 1))
  have rl := run_lookup (P := Try.prog) ktU mapU_ty zero64 m1 last false
  rw [m3] at rl
  have c2 := h.box.cell 2
  have hb2 : BoxAt w2 o #[.int .u64 last, .int .u64 most, .map (some b), .int .i64 L.length] := h.box.grw g2 (by have := h.ne; intro e; injection e with e; omega)
  have d3 := hb2.cell 3
  have e3 := hb2.frozen 3
  have H := Lib.hid h
  have HB2 := Lib.hid hb2
  have M4 := Lib.hid m4
  have M2 := Lib.hid m2
  have G2 := Lib.hid g2
  clear h hb2 m1 m2 m3 m4 g2
  go_enter Try.func17, Try.ntmps17
  go_wp2_with (first
    | (go_at_call 65; refine hn.mono ?_; rintro e w' ⟨rfl, rfl⟩)
    | (go_at_call 25; refine hl.mono ?_; rintro e w' ⟨rfl, rfl⟩))
  go_ret
  have hb3 := HB2.out.set 3 (.int .i64 ((L.length : Int) + 1))
  refine ⟨rfl, H.out.put (es := mput es last (.int .i64 ((L.count last : Int) + 1))) (by simpa using hb3) (M4.out.keep (Below.heap_setCell _ _ _ _ (by have := H.out.ne; show b ≠ o; omega))) (by simp; omega) ?_, ?_⟩
  · intro s
    rw [look_put, List.count_cons]
    by_cases hs : last = s
    · subst hs
      simp
    · rw [if_neg hs, M2.out s]
      simp [hs]
  · exact Keep.setCell (F := fun k => k = o ∨ k = b) (p := ⟨o, 3, none⟩) ((Keep.of_grown G2.out).mono (fun k hk _ => Or.inr (by injection hk))) (fun _ => Or.inl rfl) _
theorem count_erase (L : List Int) (s t : Int) : (L.erase s).count t = if s = t then L.count t - 1 else L.count t := by
  by_cases h : s = t
  · subst h
    rw [if_pos rfl, List.count_erase_self]
  · rw [if_neg h, List.count_erase_of_ne (by intro e; exact h e.symm)]
set_option maxRecDepth 100000 in
set_option maxHeartbeats 8000000 in
theorem oend_ok {w : World} {o b : Nat} {last most : Int} {L : List Int} (s : Int) (h : OrcAt w o b last most L) : Calls Try.prog 19 #[.pointer (some ⟨o, 0, none⟩), .int .u64 s] w fun e w' =>
    e = .returned (.bool (decide (s ∈ L))) ∧ OrcAt w' o b last most (L.erase s) ∧ Keep (fun k => k = o ∨ k = b) w w' := by
  have hn := onone_is (h.box.cell 2)
  obtain ⟨es, m1, m2, m3⟩ := h.looks s
  have hcl : L.count s ≤ L.length := List.count_le_length
  have hl1000 := h.len
  have rl := run_lookup (P := Try.prog) ktU mapU_ty zero64 m1 s false
  rw [m3] at rl
  have c2 := h.box.cell 2
  by_cases hs : s ∈ L
  · have hc0 : 0 < L.count s := List.count_pos_iff.2 hs
    have q0 : ((L.count s : Int) == 0) = false := beq_eq_false_iff_ne.2 (by omega)
    have q1 : decide ((L.count s : Int) = 0) = false := decide_eq_false (by omega)
    have q1' : ¬ (L.count s : Int) = 0 := by omega
    have hle : (L.erase s).length = L.length - 1 := List.length_erase_of_mem hs
    have hlp : 0 < L.length := List.length_pos_of_mem hs
    obtain ⟨w2, r2, m4, g2, s2⟩ := run_mapUpdate (P := Try.prog) ktU mapU_ty m1 s (.int .i64 ((L.count s : Int) - 1))
    have rl2 := run_lookup (P := Try.prog) ktU mapU_ty zero64 m4 s false
    rw [look_put, if_pos rfl] at rl2
    have hb2 : BoxAt w2 o #[.int .u64 last, .int .u64 most, .map (some b), .int .i64 L.length] := h.box.grw g2 (by have := h.ne; intro e; injection e with e; omega)
    have d2 := hb2.cell 2
    rw [decide_eq_true hs]
    have H := Lib.hid h
    have HB2 := Lib.hid hb2
    have M4 := Lib.hid m4
    have M2 := Lib.hid m2
    have G2 := Lib.hid g2
    by_cases h1 : L.count s = 1
    · have q2 : (((L.count s : Int) - 1) == 0) = true := beq_iff_eq.2 (by omega)
      have q3 : decide ((L.count s : Int) - 1 = 0) = true := decide_eq_true (by omega)
      have H1 := Lib.hid h1
      obtain ⟨w5, r5, m5, g5, s5⟩ := run_delete (P := Try.prog) ktU mapU_ty m4 s 22 0
      have hb5 : BoxAt w5 o #[.int .u64 last, .int .u64 most, .map (some b), .int .i64 L.length] := hb2.grw g5 (by have := h.ne; intro e; injection e with e; omega)
      have d3 := hb5.cell 3
      have e3 := hb5.frozen 3
      have HB5 := Lib.hid hb5
      have M5 := Lib.hid m5
      have G5 := Lib.hid g5
      clear hb5 m5 s5 g5
      clear h1 h hb2 m1 m2 m3 m4 g2
      go_enter Try.func19, Try.ntmps19
      go_wp2_with (go_at_call 65; refine hn.mono ?_; rintro e w' ⟨rfl, rfl⟩)
      go_ret
      have hb3 := HB5.out.set 3 (.int .i64 ((L.length : Int) - 1))
      refine ⟨rfl, H.out.put (L' := L.erase s) (es := mdel (mput es s (.int .i64 ((L.count s : Int) - 1))) s) ?_ (M5.out.keep (Below.heap_setCell _ _ _ _ (by have := H.out.ne; show b ≠ o; omega))) (by omega) ?_, ?_⟩
      · rw [hle, show ((L.length - 1 : Nat) : Int) = (L.length : Int) - 1 by omega]
        simpa using hb3
      · intro t
        rw [look_del M4.out.1, look_put, count_erase]
        by_cases ht : s = t
        · subst ht
          simp [H1.out]
        · rw [if_neg ht, if_neg ht, if_neg ht, M2.out t]
      · exact Keep.setCell (F := fun k => k = o ∨ k = b) (p := ⟨o, 3, none⟩) (((Keep.of_grown G2.out).mono (G := fun k => k = o ∨ k = b) (fun k hk _ => Or.inr (by injection hk))).trans (Keep.of_grown G5.out) (fun k hk _ => Or.inr (by injection hk))) (fun _ => Or.inl rfl) _
    · have q2 : (((L.count s : Int) - 1) == 0) = false := beq_eq_false_iff_ne.2 (by omega)
      have q3 : decide ((L.count s : Int) - 1 = 0) = false := decide_eq_false (by omega)
      have q4 : ¬ (L.count s : Int) - 1 = 0 := by omega
      have q5 : ¬ (L.count s : Int) = 1 := by omega
      have q6 : decide ((L.count s : Int) = 1) = false := decide_eq_false q5
      have d3 := hb2.cell 3
      have e3 := hb2.frozen 3
      clear h hb2 m1 m2 m3 m4 g2
      go_enter Try.func19, Try.ntmps19
      go_wp2_with (go_at_call 65; refine hn.mono ?_; rintro e w' ⟨rfl, rfl⟩)
      go_ret
      have hb3 := HB2.out.set 3 (.int .i64 ((L.length : Int) - 1))
      refine ⟨rfl, H.out.put (L' := L.erase s) (es := mput es s (.int .i64 ((L.count s : Int) - 1))) ?_ (M4.out.keep (Below.heap_setCell _ _ _ _ (by have := H.out.ne; show b ≠ o; omega))) (by omega) ?_, ?_⟩
      · rw [hle, show ((L.length - 1 : Nat) : Int) = (L.length : Int) - 1 by omega]
        simpa using hb3
      · intro t
        rw [look_put, count_erase]
        by_cases ht : s = t
        · subst ht
          rw [if_pos rfl, if_pos rfl, if_neg (by omega), show ((L.count s - 1 : Nat) : Int) = (L.count s : Int) - 1 by omega]
        · rw [if_neg ht, if_neg ht, M2.out t]
      · exact Keep.setCell (F := fun k => k = o ∨ k = b) (p := ⟨o, 3, none⟩) ((Keep.of_grown G2.out).mono (fun k hk _ => Or.inr (by injection hk))) (fun _ => Or.inl rfl) _
  · have hc0 : L.count s = 0 := List.count_eq_zero.2 hs
    rw [decide_eq_false hs, List.erase_of_not_mem hs]
    rw [hc0] at rl
    have H := Lib.hid h
    clear h m1 m2 m3
    go_enter Try.func19, Try.ntmps19
    go_wp2_with (go_at_call 65; refine hn.mono ?_; rintro e w' ⟨rfl, rfl⟩)
    go_ret
    exact ⟨rfl, H.out, Keep.refl _ _⟩
end Go.Proofs.Ytpibaahiboajhaa
