/-
  Any k rows of the code tell the data: plain.
-/
import Derived.Test.YthhljmlpjnkfgaaGreatDec7
set_option linter.unusedSimpArgs false
set_option linter.unusedVariables false
namespace Go.Proofs.YthhljmlpjnkfgaaGreat
open Go.RowKit Go.Cib
attribute [local go_sem] cell_set Later.cell Later.frozen Grw.cell Grw.frozen

theorem fr_append (a : Nat) : ∀ (l l' : List (Nat × Nat)), fr a (l ++ l') = fr a l ^^^ fr a l'
  | [], l' => (Nat.zero_xor _).symm
  | (b, x) :: l, l' => by
    show gm x (inv (a ^^^ b)) ^^^ fr a (l ++ l') = (gm x (inv (a ^^^ b)) ^^^ fr a l) ^^^ fr a l'
    rw [fr_append a l l', Nat.xor_assoc]
theorem fr_range (a : Nat) (x : Nat → Nat) : ∀ n, fr a ((List.range n).map fun b => (b, x b)) = sumx (fun l => gm (x l) (inv (a ^^^ l))) n
  | 0 => rfl
  | n + 1 => by
    rw [List.range_succ, List.map_append, fr_append, fr_range a x n]
    show _ ^^^ (gm (x n) (inv (a ^^^ n)) ^^^ 0) = _
    rw [Nat.xor_zero]; rfl
theorem fr_filter (a : Nat) (x : Nat → Nat) (p : Nat → Bool) : ∀ l : List Nat, (∀ b ∈ l, p b = false → x b = 0) → fr a ((l.filter p).map fun b => (b, x b)) = fr a (l.map fun b => (b, x b))
  | [], _ => rfl
  | b :: l, h => by
    have ih := fr_filter a x p l fun c hc => h c (List.mem_cons_of_mem _ hc)
    cases hp : p b with
    | true => 
      rw [List.filter_cons_of_pos hp]
      show _ ^^^ fr a ((l.filter p).map _) = _ ^^^ fr a (l.map _)
      rw [ih]
    | false =>
      rw [List.filter_cons_of_neg (by rw [hp]; decide), ih]
      show _ = gm (x b) _ ^^^ fr a (l.map _)
      rw [h b (List.mem_cons_self ..) hp, zero_gm, Nat.zero_xor]
theorem inj_use {k m : Nat} {us : List Nat} (hl : us.length = k) (hnd : us.Nodup) (hlt : ∀ u ∈ us, u < k + m) (hkm : k + m ≤ 255) : Inj k (useF k us) := by
  intro x hx hx0 hz
  have hzu : ∀ u ∈ us, sumx (fun l => gm (fac k u l) (x l)) k = 0 := fun u hu => by
    obtain ⟨i, hi, rfl⟩ := List.mem_iff_getElem.1 hu
    have h := hz i (by omega)
    have hr : ra (useF k us) i = rowF k us[i] := ra_some (by unfold useF; rw [List.getElem?_map, List.getElem?_eq_getElem hi]; rfl)
    rw [hr] at h
    rw [← h]
    exact sumx_cong fun l hl => by rw [rowF_gt hl]
  have hdata : ∀ u ∈ us, u < k → x u = 0 := fun u hu huk => by
    have h := hzu u hu
    rw [sumx_one (j := u) huk fun i _ hne => by unfold fac; rw [if_pos huk, if_neg (fun e => hne e.symm), zero_gm]] at h
    unfold fac at h
    rw [if_pos huk, if_pos rfl, gm_one (hx u)] at h
    exact h
  have hrest : ∀ p ∈ ((List.range k).filter fun b => decide (b ∉ us)).map (fun b => (b, x b)), p.2 = 0 := by
    refine cauchy _ (us.filter fun u => decide (k ≤ u)) ?_ (hnd.filter _) ?_ (fun a ha => ?_) (fun p hp => ?_) (fun a ha p hp => ?_) (fun a ha => ?_)
    · rw [List.length_map]
      have h1 := List.length_eq_countP_add_countP (fun u => decide (k ≤ u)) (l := us)
      have h2 := List.length_eq_countP_add_countP (fun b => decide (b ∉ us)) (l := List.range k)
      have h3 : ((List.range k).filter fun b => decide (b ∈ us)).Perm (us.filter fun u => decide (u < k)) := by
        rw [List.perm_ext_iff_of_nodup (List.nodup_range.filter _) (hnd.filter _)]
        intro a
        simp only [List.mem_filter, List.mem_range, decide_eq_true_eq]
        exact ⟨fun h => ⟨h.2, h.1⟩, fun h => ⟨h.2, h.1⟩⟩
      have h4 := h3.length_eq
      rw [← List.countP_eq_length_filter, ← List.countP_eq_length_filter] at h4
      rw [← List.countP_eq_length_filter, ← List.countP_eq_length_filter]
      rw [List.length_range] at h2
      have h5 : (List.range k).countP (fun a => decide ¬(decide (a ∉ us) = true)) = (List.range k).countP (fun b => decide (b ∈ us)) := by
        congr 1; funext a; simp
      have h6 : us.countP (fun a => decide ¬(decide (k ≤ a) = true)) = us.countP (fun u => decide (u < k)) := by
        congr 1; funext a; simp
      omega
    · rw [List.map_map]
      show (List.map (fun b => b) _).Nodup
      rw [List.map_id']
      exact List.nodup_range.filter _
    · have := hlt a (List.mem_filter.1 ha).1
      omega
    · obtain ⟨b, hb, rfl⟩ := List.mem_map.1 hp
      have := List.mem_range.1 (List.mem_filter.1 hb).1
      exact ⟨by show b < 256; omega, hx b⟩
    · obtain ⟨b, hb, rfl⟩ := List.mem_map.1 hp
      have h1 := List.mem_range.1 (List.mem_filter.1 hb).1
      have h2 : k ≤ a := by simpa using (List.mem_filter.1 ha).2
      show a ≠ b
      omega
    · have hau := (List.mem_filter.1 ha).1
      have h2 : k ≤ a := by simpa using (List.mem_filter.1 ha).2
      rw [fr_filter a x _ _ (fun b hb h => hdata b (by simpa using h) (List.mem_range.1 hb)), fr_range]
      rw [← hzu a hau]
      refine sumx_cong fun l hl => ?_
      unfold fac
      rw [if_neg (by omega), dv_one, gm_comm]
  intro l
  by_cases hlk : l < k
  · by_cases hm : l ∈ us
    · exact hdata l hm hlk
    · exact hrest (l, x l) (List.mem_map.2 ⟨l, List.mem_filter.2 ⟨List.mem_range.2 hlk, by simpa using hm⟩, rfl⟩)
  · exact hx0 l (by omega)
theorem inj_usN {k m : Nat} {xs : List Int} (h : numOk (k + m) xs) (hk : k ≤ xs.length) (hkm : k + m ≤ 255) : Inj k (useF k (usN k xs)) := by
  refine inj_use (usN_len hk) ?_ (usN_ok h) hkm
  unfold usN
  refine List.Pairwise.map _ (fun x y (hxy : x ≠ y ∧ 0 ≤ x ∧ 0 ≤ y) e => hxy.1 (by omega)) ?_
  have h1 : ((srtF xs).take k).Nodup := (List.take_sublist _ _).nodup ((srt_perm xs).nodup_iff.2 h.2)
  refine List.Pairwise.imp_of_mem ?_ h1
  intro a b ha hb hab
  have hm : ∀ y ∈ (srtF xs).take k, 0 ≤ y := fun y hy => (h.1 y ((srt_perm xs).mem_iff.1 (List.mem_of_mem_take hy))).1
  exact ⟨hab, hm a ha, hm b hb⟩
theorem inj_useT {k m N : Nat} {ss : Rws} (hb : thBad k m N ss = false) (hf : ¬ (thU ss N).length < k) (hk : 1 ≤ k) (hkm : k + m ≤ 255) : Inj k (useF k (useT k N ss)) := by
  obtain ⟨h1, h2, h3⟩ := use_ok hb hf hk
  refine inj_use h2 ?_ (fun u hu => by have := (h3 u hu).1; omega) hkm
  unfold useT thU
  exact (List.take_sublist _ _).nodup (List.nodup_range.filter _)
end Go.Proofs.YthhljmlpjnkfgaaGreat
