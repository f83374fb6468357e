/-
  Drives side by side: New.
-/
import Derived.Test.YtolmpopjonkfgaaArr7
set_option linter.unusedSimpArgs false
set_option linter.unusedVariables false
namespace Go.Proofs.Ytolmpopjonkfgaa
open Go.RowKit Go.Cib
attribute [local go_sem] cell_set Later.cell Later.frozen Grw.cell Grw.frozen

theorem slPtr : SlTy Try.prog 104 25 (.pointer none) 1 8 := ⟨Try.underlying104, by kernel_rfl, rfl, by omega⟩
section
variable {U : Nat → Prop} {w : World} {a s : Nat} {v : Value} {Fs : Nat → Nat → Prop} {ps : List Nat} {sts : List DSt}
/-- One drive more. -/
theorem ArrB.push (h : ArrB U w a v Fs ps s sts) {u : World} {F : Nat → Prop} {p : Nat} {st : DSt} {vN : Value} (hD : DrvAt F w p s st) (hF : ∀ k, F k → ¬ U k) (hu : w.grownBy u v.ownBlock) (hs : w.heap.size < u.heap.size)
    (own : OwnL PtrR 25 1 0 (fun _ => False) u vN (ps.length + 1) (ps ++ [p])) (hat : vN.ownBlock = v.ownBlock ∨ vN.ownBlock = some (w.heap.size + 1)) :
    ∃ U' Fs', ArrB U' (u.setCell ⟨a, 0, none⟩ vN) a vN Fs' (ps ++ [p]) s (sts ++ [st]) ∧ (∀ k, U' k → k < w.heap.size → U k ∨ F k) ∧ Keep U w (u.setCell ⟨a, 0, none⟩ vN) := by
  have hset : ∀ k, k ≠ a → (u.setCell ⟨a, 0, none⟩ vN).heap[k]? = u.heap[k]? := fun k hk => Below.heap_setCell _ _ _ _ hk
  have hK : Keep (fun k => k = a ∨ v.ownBlock = some k) w (u.setCell ⟨a, 0, none⟩ vN) := ⟨hu.os, hu.tape, hu.output, by simpa using hu.size, fun k hk hg => (hset k (fun e => hg (.inl e))).trans (hu.block k hk (fun e => hg (.inr e.symm)))⟩
  have hla := h.lt a h.ua
  have hN : ∀ k, vN.ownBlock = some k → (v.ownBlock = some k) ∨ k = w.heap.size + 1 := fun k hk => by
    rcases hat with h | h
    · exact .inl (h ▸ hk)
    · rw [h] at hk; injection hk with hk; exact .inr hk.symm
  have hNa : vN.ownBlock ≠ some a := fun e => by
    rcases hN a e with h2 | h2
    · exact h.va h2
    · omega
  have hFlt : ∀ k, F k → k < w.heap.size := fun k hk => hD.lt hk
  refine ⟨fun k => U k ∨ F k ∨ (w.heap.size ≤ k ∧ k < u.heap.size), fun j k => if j = ps.length then F k else Fs j k, ⟨?_, ?_, by simp [h.len], ?_, ?_, hNa, ?_, .inl h.ua, ?_, ?_, ?_⟩, ?_, hK.mono (fun k hk _ => hk.elim (fun e => e ▸ h.ua) (h.uv k))⟩
  · exact (h.box.keep (hu.block a hla (fun e => h.va e.symm))).set 0 vN
  · obtain ⟨css, h1, h2, h3, h4, h5⟩ := own
    rw [show (ps ++ [p]).length = ps.length + 1 by simp]
    exact ⟨css, ownsRow_keep h1 (fun k hk => hset k (fun e => hNa (e ▸ hk))), h2, h3, h4, fun i cs x hc hx => h5 i cs x hc hx⟩
  · intro i q st' h1 h2
    by_cases hi : i = ps.length
    · subst hi
      rw [List.getElem?_append_right (Nat.le_refl _)] at h1
      rw [List.getElem?_append_right (by rw [h.len]; exact Nat.le_refl _), h.len] at h2
      simp only [Nat.sub_self, List.getElem?_cons_zero, Option.some.injEq] at h1 h2
      subst h1; subst h2
      simp only [if_true]
      exact hD.keep hK (fun k hk hg => hF k hk (hg.elim (fun e => e ▸ h.ua) (h.uv k)))
    · have hil : i < ps.length := by
        have := (List.getElem?_eq_some_iff.1 h1).1
        simp at this; omega
      rw [List.getElem?_append_left hil] at h1
      rw [List.getElem?_append_left (by rw [h.len]; exact hil)] at h2
      simp only [if_neg hi]
      exact (h.drv i q st' h1 h2).keep hK (fun k hk hg => hg.elim (h.fx i k hk).1 (h.fx i k hk).2)
  · intro i j k
    by_cases e1 : i = ps.length <;> by_cases e2 : j = ps.length <;> simp only [e1, e2, if_true, if_false]
    · intros; trivial
    · intro hf hg; exact absurd (h.uf j k hg) (hF k hf)
    · intro hf hg; exact absurd (h.uf i k hf) (hF k hg)
    · exact h.apart i j k
  · intro i k
    by_cases e1 : i = ps.length <;> simp only [e1, if_true, if_false]
    · intro hf
      refine ⟨fun e => hF k hf (e ▸ h.ua), fun e => ?_⟩
      have := hFlt k hf
      rcases hN k e with h2 | h2
      · exact hF k hf (h.uv k h2)
      · omega
    · intro hf
      refine ⟨(h.fx i k hf).1, fun e => ?_⟩
      have := h.lt k (h.uf i k hf)
      rcases hN k e with h2 | h2
      · exact (h.fx i k hf).2 h2
      · omega
  · intro k hk
    rcases hN k hk with h2 | h2
    · exact .inl (h.uv k h2)
    · have := (own.lt k hk).2
      exact .inr (.inr ⟨by omega, this⟩)
  · intro i k
    by_cases e1 : i = ps.length <;> simp only [e1, if_true, if_false]
    · intro hf; exact .inr (.inl hf)
    · intro hf; exact .inl (h.uf i k hf)
  · rintro k (hk | hk | hk)
    · have := h.lt k hk; simp; omega
    · have := hFlt k hk; simp; omega
    · simpa using hk.2
  · rintro k (hk | hk | hk) hlt
    · exact .inl hk
    · exact .inr hk
    · omega
/-- An array of no drives yet. -/
theorem ArrB.empty (w : World) (s : Nat) (T : TypeId) : ArrB (fun k => k = w.heap.size) (w.alloc (.cells #[.slice none 0 0] T)) w.heap.size (.slice none 0 0) (fun _ _ => False) [] s [] := by
  refine ⟨BoxAt.new _ _ _, OwnL.nil_, rfl, ?_, ?_, ?_, ?_, rfl, ?_, ?_, ?_⟩
  · intro i p st h1; simp at h1
  · intro i j k h; exact h.elim
  · simp [Value.ownBlock]
  · intro i k h; exact h.elim
  · intro k hk; simp [Value.ownBlock] at hk
  · intro i k h; exact h.elim
  · rintro k rfl; simp
end
set_option maxRecDepth 100000 in
set_option maxHeartbeats 4000000 in
theorem anew_any (k s : Nat) (h1 : 1 ≤ k) (h2 : k ≤ 255) (h3 : 1 ≤ s) (h4 : s ≤ 600) (w : World) :
    Calls Try.prog 29 #[.int .i64 k, .int .i64 s] w fun e w' => ∃ a U, e = .returned (.pointer (some ⟨a, 0, none⟩)) ∧ ArrAt U w' a s (List.replicate k (DSt.new s)) ∧ (∀ b, U b → w.heap.size ≤ b) ∧ Below w.heap.size w w' := by
  have d1 : (1 : Int) ≤ k := by omega
  have d2 : (k : Int) ≤ 255 := by omega
  have hE := ArrB.empty w s 106
  have bE : Below w.heap.size w (w.alloc (.cells #[.slice none 0 0] 106)) := (Below.refl _ _).alloc (Nat.le_refl _) _
  obtain ⟨w1, hw1⟩ : ∃ w1, w.alloc (.cells #[.slice none 0 0] 106) = w1 := ⟨_, rfl⟩
  obtain ⟨a, ha⟩ : ∃ a, w.heap.size = a := ⟨_, rfl⟩
  rw [hw1] at hE bE
  rw [ha] at hE
  have HE := Lib.hid hE
  have BE := Lib.hid bE
  have hla : w.heap.size ≤ a := by omega
  clear hE bE
  go_enter Try.func29, Try.ntmps29
  go_wp2_with fail
  clear hw1 ha
  go_loopw [16] (fun vi wr => ∃ (i : Nat) (U : Nat → Prop) (v : Value) (Fs : Nat → Nat → Prop) (ps : List Nat), i ≤ k ∧ vi = .int .i64 i ∧ Hid (ArrB U wr a v Fs ps s (List.replicate i (DSt.new s))) ∧ Hid (∀ b, U b → w.heap.size ≤ b) ∧ Hid (Below w.heap.size w wr)) (fun vi _ => k - (intOf vi).toNat)
  case atStart => exact ⟨0, _, _, _, _, Nat.zero_le _, rfl, HE, Lib.hid (by rintro b rfl; exact hla), BE⟩
  case round =>
    clear HE BE
    obtain ⟨wo, rfl⟩ : ∃ wo, wo = wr := ⟨_, rfl⟩
    obtain ⟨i, U, v, Fs, ps, hi, rfl, A, hU, K⟩ := hrel
    by_cases hlt : i < k
    · have h5 : (i : Int) < (k : Int) := by omega
      have h6 : (0 : Int) ≤ (i : Int) := Int.natCast_nonneg _
      have h7 : (i : Int) < 600 := by omega
      go_wp2_with fail
      refine (new_good s h3 h4 wo).mono ?_
      rintro e w2 ⟨p, F, rfl, D2, hF2, t2⟩
      have A2 := A.out.below t2
      have hlen := A2.len
      rw [List.length_replicate] at hlen
      obtain ⟨AA, cc, rfl, _⟩ := A2.own.form
      have c0 := A2.box.cell 0
      have z0 := A2.box.frozen 0
      have c0' : w2.cell? ⟨a, 0, none⟩ = some (.slice AA ps.length cc) := c0
      have hown := A2.own
      have hne : some a ≠ (Value.slice AA ps.length cc).ownBlock := fun e => A2.va e.symm
      have HA2 := Lib.hid A2
      have HD2 := Lib.hid D2
      have HF2 := Lib.hid hF2
      have T2 := Lib.hid t2
      clear A2 D2 hF2 t2 c0
      go_wp2_with (at_builtin; go_must (refine wpList_push1 PtrR.stable PtrR.one slPtr (by rfl) (by rfl) (base := 0) (S := fun _ => False) (cs := #[.pointer (some ⟨p, 0, none⟩)]) (y := p) (by rfl) (by rfl) hown (by rfl) (show PtrR _ _ _ p from rfl) (by unfold maxLen; omega) (by omega) (Nat.zero_le _) ?_); intro A11 c11 u11 hc11 own11 hlt11 hb11 hat11; have y0 := cell_far2 c0' u11.ok hne; have y1 := frozen_far2 c0' z0 u11.ok hne)
      obtain ⟨U', Fs', A3, hU3, hK3⟩ := HA2.out.push HD2.out (fun b hf hu => by have := HF2.out b hf; have := A.out.lt b hu; omega) u11.ok hlt11 own11 hat11
      have hsz := K.out.size
      have hs2 := T2.out.size
      refine ⟨⟨i + 1, U', _, Fs', ps ++ [p], by omega, by go_num, Lib.hid (by rw [List.replicate_succ']; exact A3), Lib.hid (fun b hb => ?_), Lib.hid (K.out.trans ((T2.out.mono hsz).trans (hK3.below (by omega) hU.out)))⟩, by simp [intOf]; omega⟩
      by_cases hblt : b < w2.heap.size
      · rcases hU3 b hb hblt with h | h
        · exact hU.out b h
        · have := HF2.out b h; omega
      · omega
    · obtain rfl : i = k := by omega
      have h5 : ¬ (i : Int) < (i : Int) := by omega
      go_wp2_with fail
      go_ret
      exact ⟨a, rfl, U, ⟨v, Fs, ps, A.out⟩, hU.out, K.out⟩
end Go.Proofs.Ytolmpopjonkfgaa
