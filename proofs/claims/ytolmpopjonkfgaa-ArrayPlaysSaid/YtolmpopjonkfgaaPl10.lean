/-
  The document's drives side by side: New; where there is none, ours too.
  Drives side by side: where there is no such drive; Stored, Rotten, Rot whatever is asked.
  Does a drive answer as the document's?
  Acts among the arguments; are there few acts?
  A drive and the document's: they are the same, whatever is done.
-/
import Derived.Test.YtolmpopjonkfgaaPl9
import Derived.Test.YtolmpopjonkfgaaPl8
set_option linter.unusedSimpArgs false
set_option linter.unusedVariables false
namespace Go.Proofs.Ytolmpopjonkfgaa
open Go.RowKit Go.Cib
attribute [local go_sem] cell_set Later.cell Later.frozen Grw.cell Grw.frozen

set_option maxRecDepth 100000 in
set_option maxHeartbeats 8000000 in
theorem ranew_any (k s : Nat) (h1 : 1 ≤ k) (h2 : k ≤ 255) (h3 : 1 ≤ s) (h4 : s ≤ 600) (w : World) :
    Calls Try.prog 46 #[.int .i64 k, .int .i64 s] w fun e w' => ∃ a U, e = .returned (.pointer (some ⟨a, 0, none⟩)) ∧ RArrAt U w' a s (List.replicate k RSt.new) ∧ (∀ b, U b → w.heap.size ≤ b) ∧ Below w.heap.size w w' := by
  have d1 : (1 : Int) ≤ k := by omega
  have d2 : (k : Int) ≤ 255 := by omega
  go_enter Try.func46, Try.ntmps46
  go_wp2_with fail
  refine (rnew_good s h3 h4 w).mono ?_
  rintro e w0 ⟨x0, G0, rfl, _, _, t0⟩
  have T0 := Lib.hid t0
  have hE := RArrB.empty w0 s 117
  have bE : Below w0.heap.size w0 (w0.alloc (.cells #[.slice none 0 0] 117)) := (Below.refl _ _).alloc (Nat.le_refl _) _
  obtain ⟨w1, hw1⟩ : ∃ w1, w0.alloc (.cells #[.slice none 0 0] 117) = w1 := ⟨_, rfl⟩
  obtain ⟨a, ha⟩ : ∃ a, w0.heap.size = a := ⟨_, rfl⟩
  rw [hw1] at hE bE
  rw [ha] at hE
  have HE := Lib.hid hE
  have BE := Lib.hid (below_then bE T0.out)
  have hla : w.heap.size ≤ a := by have := T0.out.size; omega
  clear hE bE t0
  go_wp2_with fail
  clear hw1 ha
  go_loopw [6] (fun vi wr => ∃ (i : Nat) (U : Nat → Prop) (v : Value) (Fs : Nat → Nat → Prop) (ps : List Nat), i ≤ k ∧ vi = .int .i64 i ∧ Hid (RArrB U wr a v Fs ps s (List.replicate i RSt.new)) ∧ Hid (∀ b, U b → w.heap.size ≤ b) ∧ Hid (Below w.heap.size w wr)) (fun vi _ => k - (intOf vi).toNat)
  case atStart => exact ⟨0, _, _, _, _, Nat.zero_le _, rfl, HE, Lib.hid (by rintro b rfl; exact hla), BE⟩
  case round =>
    clear HE BE
    obtain ⟨wo, rfl⟩ : ∃ wo, wo = wr := ⟨_, rfl⟩
    obtain ⟨i, U, v, Fs, ps, hi, rfl, A, hU, K⟩ := hrel
    by_cases hlt : i < k
    · have h5 : (i : Int) < (k : Int) := by omega
      have h6 : (0 : Int) ≤ (i : Int) := Int.natCast_nonneg _
      have h7 : (i : Int) < 600 := by omega
      have hlen := A.out.len
      rw [List.length_replicate] at hlen
      obtain ⟨AA, c2, rfl, _⟩ := A.out.own.form
      have hps : ps.length < 255 := by omega
      clear hlen
      have q0 : wo.cell? ⟨a, 0, none⟩ = some (.slice AA ps.length c2) := A.out.box.cell 0
      have qd : wo.drew.cell? ⟨a, 0, none⟩ = some (.slice AA ps.length c2) := q0
      have z0 : wo.frozen? ⟨a, 0, none⟩ = false := A.out.box.frozen 0
      have hlc : a < wo.heap.size := A.out.box.lt
      have hne : some a ≠ (Value.slice AA ps.length c2).ownBlock := fun e => A.out.va e.symm
      go_wp2_with fail
      refine wp_region_held_drew (S := fun _ => True) (by kernel_rfl) (by trivial) (fun hHeld => ?_)
      refine wpAnyH_take (i := 0) (v := ?_) rfl (by kernel_rfl) (by kernel_rfl) (by kernel_rfl) (fun _ _ _ h => h) (Or.inl ⟨by rfl, ?_⟩) (by assumption) ?_
      rotate_left
      · (intro wq hSw; (try dsimp only at hSw); (try simp only [List.getElem_toArray, List.getElem_cons_succ, List.getElem_cons_zero]); go_simp); try with_reducible rfl
      try simp only [List.getElem_toArray, List.getElem_cons_succ, List.getElem_cons_zero, Act.put, List.setIfInBounds_toArray, List.set_cons_zero, List.set_cons_succ]
      refine wpAnyH_take (i := 1) (v := ?_) rfl (by kernel_rfl) (by kernel_rfl) (by kernel_rfl) (fun _ _ _ h => h) (Or.inl ⟨by rfl, ?_⟩) (by assumption) ?_
      rotate_left
      · (intro wq hSw; (try dsimp only at hSw); (try simp only [List.getElem_toArray, List.getElem_cons_succ, List.getElem_cons_zero]); go_simp); try with_reducible rfl
      try simp only [List.getElem_toArray, List.getElem_cons_succ, List.getElem_cons_zero, Act.put, List.setIfInBounds_toArray, List.set_cons_zero, List.set_cons_succ]
      refine wpAnyH_take (i := 2) (v := ?_) rfl (by kernel_rfl) (by kernel_rfl) (by kernel_rfl) (fun _ _ _ h => h) (Or.inl ⟨by rfl, ?_⟩) (by assumption) ?_
      rotate_left
      · (intro wq hSw; (try dsimp only at hSw); (try simp only [List.getElem_toArray, List.getElem_cons_succ, List.getElem_cons_zero]); go_simp); try with_reducible rfl
      try simp only [List.getElem_toArray, List.getElem_cons_succ, List.getElem_cons_zero, Act.put, List.setIfInBounds_toArray, List.set_cons_zero, List.set_cons_succ]
      refine wpAnyH_take (i := 3) (v := ?_) rfl (by kernel_rfl) (by kernel_rfl) (by kernel_rfl) (fun _ _ _ h => h) (Or.inl ⟨by rfl, ?_⟩) (by assumption) ?_
      rotate_left
      · (intro wq hSw; (try dsimp only at hSw); (try simp only [List.getElem_toArray, List.getElem_cons_succ, List.getElem_cons_zero]); go_simp); try with_reducible rfl
      try simp only [List.getElem_toArray, List.getElem_cons_succ, List.getElem_cons_zero, Act.put, List.setIfInBounds_toArray, List.set_cons_zero, List.set_cons_succ]
      refine wpAnyH_take (i := 5) (v := ?_) rfl (by kernel_rfl) (by kernel_rfl) (by kernel_rfl) (fun _ _ _ h => h) (Or.inl ⟨by rfl, ?_⟩) (by assumption) ?_
      rotate_left
      · (intro wq hSw; (try dsimp only at hSw); (try simp only [List.getElem_toArray, List.getElem_cons_succ, List.getElem_cons_zero]); go_simp); try with_reducible rfl
      try simp only [List.getElem_toArray, List.getElem_cons_succ, List.getElem_cons_zero, Act.put, List.setIfInBounds_toArray, List.set_cons_zero, List.set_cons_succ]
      refine wpAnyH_ready (rs := [4, 6]) (by kernel_rfl) (by simp) ?_
      refine AllReadyH.cons rfl (fun K hK => ?_) (AllReadyH.cons rfl (fun K hK => ?_) AllReadyH.nil)
      · try simp only [List.getElem_toArray, List.getElem_cons_succ, List.getElem_cons_zero]
        go_simp
        refine hK.out _ _ (by trivial) (fun hHeld => ?_)
        clear hK K
        try simp only [List.getElem_toArray, List.getElem_cons_succ, List.getElem_cons_zero, Act.put, List.setIfInBounds_toArray, List.set_cons_zero, List.set_cons_succ]
        refine wpAnyH_ready (rs := [6]) (by kernel_rfl) (by simp) ?_
        refine AllReadyH.cons rfl (fun K hK => ?_) AllReadyH.nil
        try simp only [List.getElem_toArray, List.getElem_cons_succ, List.getElem_cons_zero]
        go_simp
        refine (rnew_good s h3 h4 wo.drew).mono ?_
        rintro e w3 ⟨p', F', rfl, D3, hF3, t3⟩
        have T3 : Below wo.heap.size wo w3 := below_then t3 (Below.refl _ _).drew
        have c3 : w3.cell? ⟨a, 0, none⟩ = some (.slice AA ps.length c2) := (T3.cell (p := ⟨a, 0, none⟩) hlc).trans q0
        have c3a : ∀ o, (w3.alloc o).cell? ⟨a, 0, none⟩ = some (.slice AA ps.length c2) := fun o => cell_alloc2 c3 o
        have z3 := (T3.frozen (p := ⟨a, 0, none⟩) hlc).trans z0
        have own3 := A.out.own.keep PtrR.stable T3
        replace D3 := Lib.hid D3
        replace hF3 := Lib.hid hF3
        replace T3 := Lib.hid T3
        clear t3
        try (go_wp2_with fail)
        refine hK.out _ _ (by trivial) (fun hHeld => ?_)
        clear hK K
        try simp only [List.getElem_toArray, List.getElem_cons_succ, List.getElem_cons_zero, Act.put, List.setIfInBounds_toArray, List.set_cons_zero, List.set_cons_succ]
        refine wpAnyH_ready (rs := [7]) (by kernel_rfl) (by simp) ?_
        refine AllReadyH.cons rfl (fun K hK => ?_) AllReadyH.nil
        try simp only [List.getElem_toArray, List.getElem_cons_succ, List.getElem_cons_zero]
        go_simp
        refine hK.out _ _ (by trivial) (fun hHeld => ?_)
        clear hK K
        try simp only [List.getElem_toArray, List.getElem_cons_succ, List.getElem_cons_zero, Act.put, List.setIfInBounds_toArray, List.set_cons_zero, List.set_cons_succ]
        refine wpAnyH_ready (rs := [8]) (by kernel_rfl) (by simp) ?_
        refine AllReadyH.cons rfl (fun K hK => ?_) AllReadyH.nil
        refine step_of_list (by rfl) (wpList_push1 PtrR.stable PtrR.one slRPtr (by rfl) (by rfl) (base := 0) (S := fun _ => False) (cs := #[.pointer (some ⟨p', 0, none⟩)]) (y := p') (by rfl) (by rfl) own3 (by rfl) (show PtrR _ _ _ p' from rfl) (by unfold maxLen; omega) (by omega) (Nat.zero_le _) ?_)
        intro A11 c11 u11 hc11 own11 hlt11 hb11 hat11
        refine And.intro rfl ?_
        have y0 := cell_far2 c3 u11.ok hne
        have y1 := frozen_far2 c3 z3 u11.ok hne
        refine hK.out _ _ (by trivial) (fun hHeld => ?_)
        clear hK K
        try simp only [List.getElem_toArray, List.getElem_cons_succ, List.getElem_cons_zero, Act.put, List.setIfInBounds_toArray, List.set_cons_zero, List.set_cons_succ]
        refine wpAnyH_take (i := 9) (v := ?_) rfl (by kernel_rfl) (by kernel_rfl) (by kernel_rfl) (fun _ _ _ h => h) (Or.inl ⟨by rfl, ?_⟩) (by assumption) ?_
        rotate_left
        · (intro wq hSw; (try dsimp only at hSw); (try simp only [List.getElem_toArray, List.getElem_cons_succ, List.getElem_cons_zero]); go_simp); try with_reducible rfl
        try simp only [List.getElem_toArray, List.getElem_cons_succ, List.getElem_cons_zero, Act.put, List.setIfInBounds_toArray, List.set_cons_zero, List.set_cons_succ]
        refine wpAnyH_take (i := 10) (v := ?_) rfl (by kernel_rfl) (by kernel_rfl) (by kernel_rfl) (fun _ _ _ h => h) (Or.inl ⟨by rfl, ?_⟩) (by assumption) ?_
        rotate_left
        · (intro wq hSw; (try dsimp only at hSw); (try simp only [List.getElem_toArray, List.getElem_cons_succ, List.getElem_cons_zero]); go_simp); try with_reducible rfl
        try simp only [List.getElem_toArray, List.getElem_cons_succ, List.getElem_cons_zero, Act.put, List.setIfInBounds_toArray, List.set_cons_zero, List.set_cons_succ]
        refine wpAnyH_ready (rs := [11]) (by kernel_rfl) (by simp) ?_
        refine AllReadyH.cons rfl (fun K hK => ?_) AllReadyH.nil
        try simp only [List.getElem_toArray, List.getElem_cons_succ, List.getElem_cons_zero]
        go_simp
        refine hK.out _ _ (by trivial) (fun hHeld => ?_)
        clear hK K
        try simp only [List.getElem_toArray, List.getElem_cons_succ, List.getElem_cons_zero, Act.put, List.setIfInBounds_toArray, List.set_cons_zero, List.set_cons_succ]
        refine wpAnyH_done (by kernel_rfl) ?_ _
        go_wp2_with fail
        obtain ⟨U', Fs', A3, hU3, hK3⟩ := (A.out.below T3.out).push D3.out (fun b hf hu => by have h1 := hF3.out b hf; have h2 := A.out.lt b hu; simp only [World.size_drew] at h1; omega) u11.ok hlt11 own11 hat11
        have hsz := K.out.size
        have hs2 := T3.out.size
        refine ⟨⟨i + 1, U', _, Fs', ps ++ [p'], by omega, by go_num, Lib.hid (by rw [List.replicate_succ']; exact A3), Lib.hid (fun b hb => ?_), Lib.hid (K.out.trans ((T3.out.mono hsz).trans (hK3.below (by omega) hU.out)))⟩, by simp [intOf]; omega⟩
        by_cases hblt : b < w3.heap.size
        · rcases hU3 b hb hblt with h | h
          · exact hU.out b h
          · have h1 := hF3.out b h
            simp only [World.size_drew] at h1
            omega
        · omega
      · try simp only [List.getElem_toArray, List.getElem_cons_succ, List.getElem_cons_zero]
        go_simp
        refine (rnew_good s h3 h4 wo.drew).mono ?_
        rintro e w3 ⟨p', F', rfl, D3, hF3, t3⟩
        have T3 : Below wo.heap.size wo w3 := below_then t3 (Below.refl _ _).drew
        have c3 : w3.cell? ⟨a, 0, none⟩ = some (.slice AA ps.length c2) := (T3.cell (p := ⟨a, 0, none⟩) hlc).trans q0
        have c3a : ∀ o, (w3.alloc o).cell? ⟨a, 0, none⟩ = some (.slice AA ps.length c2) := fun o => cell_alloc2 c3 o
        have z3 := (T3.frozen (p := ⟨a, 0, none⟩) hlc).trans z0
        have own3 := A.out.own.keep PtrR.stable T3
        replace D3 := Lib.hid D3
        replace hF3 := Lib.hid hF3
        replace T3 := Lib.hid T3
        clear t3
        try (go_wp2_with fail)
        refine hK.out _ _ (by trivial) (fun hHeld => ?_)
        clear hK K
        try simp only [List.getElem_toArray, List.getElem_cons_succ, List.getElem_cons_zero, Act.put, List.setIfInBounds_toArray, List.set_cons_zero, List.set_cons_succ]
        refine wpAnyH_ready (rs := [4, 7]) (by kernel_rfl) (by simp) ?_
        refine AllReadyH.cons rfl (fun K hK => ?_) (AllReadyH.cons rfl (fun K hK => ?_) AllReadyH.nil)
        · try simp only [List.getElem_toArray, List.getElem_cons_succ, List.getElem_cons_zero]
          go_simp
          refine hK.out _ _ (by trivial) (fun hHeld => ?_)
          clear hK K
          try simp only [List.getElem_toArray, List.getElem_cons_succ, List.getElem_cons_zero, Act.put, List.setIfInBounds_toArray, List.set_cons_zero, List.set_cons_succ]
          refine wpAnyH_ready (rs := [7]) (by kernel_rfl) (by simp) ?_
          refine AllReadyH.cons rfl (fun K hK => ?_) AllReadyH.nil
          try simp only [List.getElem_toArray, List.getElem_cons_succ, List.getElem_cons_zero]
          go_simp
          refine hK.out _ _ (by trivial) (fun hHeld => ?_)
          clear hK K
          try simp only [List.getElem_toArray, List.getElem_cons_succ, List.getElem_cons_zero, Act.put, List.setIfInBounds_toArray, List.set_cons_zero, List.set_cons_succ]
          refine wpAnyH_ready (rs := [8]) (by kernel_rfl) (by simp) ?_
          refine AllReadyH.cons rfl (fun K hK => ?_) AllReadyH.nil
          refine step_of_list (by rfl) (wpList_push1 PtrR.stable PtrR.one slRPtr (by rfl) (by rfl) (base := 0) (S := fun _ => False) (cs := #[.pointer (some ⟨p', 0, none⟩)]) (y := p') (by rfl) (by rfl) own3 (by rfl) (show PtrR _ _ _ p' from rfl) (by unfold maxLen; omega) (by omega) (Nat.zero_le _) ?_)
          intro A11 c11 u11 hc11 own11 hlt11 hb11 hat11
          refine And.intro rfl ?_
          have y0 := cell_far2 c3 u11.ok hne
          have y1 := frozen_far2 c3 z3 u11.ok hne
          refine hK.out _ _ (by trivial) (fun hHeld => ?_)
          clear hK K
          try simp only [List.getElem_toArray, List.getElem_cons_succ, List.getElem_cons_zero, Act.put, List.setIfInBounds_toArray, List.set_cons_zero, List.set_cons_succ]
          refine wpAnyH_take (i := 9) (v := ?_) rfl (by kernel_rfl) (by kernel_rfl) (by kernel_rfl) (fun _ _ _ h => h) (Or.inl ⟨by rfl, ?_⟩) (by assumption) ?_
          rotate_left
          · (intro wq hSw; (try dsimp only at hSw); (try simp only [List.getElem_toArray, List.getElem_cons_succ, List.getElem_cons_zero]); go_simp); try with_reducible rfl
          try simp only [List.getElem_toArray, List.getElem_cons_succ, List.getElem_cons_zero, Act.put, List.setIfInBounds_toArray, List.set_cons_zero, List.set_cons_succ]
          refine wpAnyH_take (i := 10) (v := ?_) rfl (by kernel_rfl) (by kernel_rfl) (by kernel_rfl) (fun _ _ _ h => h) (Or.inl ⟨by rfl, ?_⟩) (by assumption) ?_
          rotate_left
          · (intro wq hSw; (try dsimp only at hSw); (try simp only [List.getElem_toArray, List.getElem_cons_succ, List.getElem_cons_zero]); go_simp); try with_reducible rfl
          try simp only [List.getElem_toArray, List.getElem_cons_succ, List.getElem_cons_zero, Act.put, List.setIfInBounds_toArray, List.set_cons_zero, List.set_cons_succ]
          refine wpAnyH_ready (rs := [11]) (by kernel_rfl) (by simp) ?_
          refine AllReadyH.cons rfl (fun K hK => ?_) AllReadyH.nil
          try simp only [List.getElem_toArray, List.getElem_cons_succ, List.getElem_cons_zero]
          go_simp
          refine hK.out _ _ (by trivial) (fun hHeld => ?_)
          clear hK K
          try simp only [List.getElem_toArray, List.getElem_cons_succ, List.getElem_cons_zero, Act.put, List.setIfInBounds_toArray, List.set_cons_zero, List.set_cons_succ]
          refine wpAnyH_done (by kernel_rfl) ?_ _
          go_wp2_with fail
          obtain ⟨U', Fs', A3, hU3, hK3⟩ := (A.out.below T3.out).push D3.out (fun b hf hu => by have h1 := hF3.out b hf; have h2 := A.out.lt b hu; simp only [World.size_drew] at h1; omega) u11.ok hlt11 own11 hat11
          have hsz := K.out.size
          have hs2 := T3.out.size
          refine ⟨⟨i + 1, U', _, Fs', ps ++ [p'], by omega, by go_num, Lib.hid (by rw [List.replicate_succ']; exact A3), Lib.hid (fun b hb => ?_), Lib.hid (K.out.trans ((T3.out.mono hsz).trans (hK3.below (by omega) hU.out)))⟩, by simp [intOf]; omega⟩
          by_cases hblt : b < w3.heap.size
          · rcases hU3 b hb hblt with h | h
            · exact hU.out b h
            · have h1 := hF3.out b h
              simp only [World.size_drew] at h1
              omega
          · omega
        · try simp only [List.getElem_toArray, List.getElem_cons_succ, List.getElem_cons_zero]
          go_simp
          refine hK.out _ _ (by trivial) (fun hHeld => ?_)
          clear hK K
          try simp only [List.getElem_toArray, List.getElem_cons_succ, List.getElem_cons_zero, Act.put, List.setIfInBounds_toArray, List.set_cons_zero, List.set_cons_succ]
          refine wpAnyH_ready (rs := [4]) (by kernel_rfl) (by simp) ?_
          refine AllReadyH.cons rfl (fun K hK => ?_) AllReadyH.nil
          try simp only [List.getElem_toArray, List.getElem_cons_succ, List.getElem_cons_zero]
          go_simp
          refine hK.out _ _ (by trivial) (fun hHeld => ?_)
          clear hK K
          try simp only [List.getElem_toArray, List.getElem_cons_succ, List.getElem_cons_zero, Act.put, List.setIfInBounds_toArray, List.set_cons_zero, List.set_cons_succ]
          refine wpAnyH_ready (rs := [8]) (by kernel_rfl) (by simp) ?_
          refine AllReadyH.cons rfl (fun K hK => ?_) AllReadyH.nil
          refine step_of_list (by rfl) (wpList_push1 PtrR.stable PtrR.one slRPtr (by rfl) (by rfl) (base := 0) (S := fun _ => False) (cs := #[.pointer (some ⟨p', 0, none⟩)]) (y := p') (by rfl) (by rfl) own3 (by rfl) (show PtrR _ _ _ p' from rfl) (by unfold maxLen; omega) (by omega) (Nat.zero_le _) ?_)
          intro A11 c11 u11 hc11 own11 hlt11 hb11 hat11
          refine And.intro rfl ?_
          have y0 := cell_far2 c3 u11.ok hne
          have y1 := frozen_far2 c3 z3 u11.ok hne
          refine hK.out _ _ (by trivial) (fun hHeld => ?_)
          clear hK K
          try simp only [List.getElem_toArray, List.getElem_cons_succ, List.getElem_cons_zero, Act.put, List.setIfInBounds_toArray, List.set_cons_zero, List.set_cons_succ]
          refine wpAnyH_take (i := 9) (v := ?_) rfl (by kernel_rfl) (by kernel_rfl) (by kernel_rfl) (fun _ _ _ h => h) (Or.inl ⟨by rfl, ?_⟩) (by assumption) ?_
          rotate_left
          · (intro wq hSw; (try dsimp only at hSw); (try simp only [List.getElem_toArray, List.getElem_cons_succ, List.getElem_cons_zero]); go_simp); try with_reducible rfl
          try simp only [List.getElem_toArray, List.getElem_cons_succ, List.getElem_cons_zero, Act.put, List.setIfInBounds_toArray, List.set_cons_zero, List.set_cons_succ]
          refine wpAnyH_take (i := 10) (v := ?_) rfl (by kernel_rfl) (by kernel_rfl) (by kernel_rfl) (fun _ _ _ h => h) (Or.inl ⟨by rfl, ?_⟩) (by assumption) ?_
          rotate_left
          · (intro wq hSw; (try dsimp only at hSw); (try simp only [List.getElem_toArray, List.getElem_cons_succ, List.getElem_cons_zero]); go_simp); try with_reducible rfl
          try simp only [List.getElem_toArray, List.getElem_cons_succ, List.getElem_cons_zero, Act.put, List.setIfInBounds_toArray, List.set_cons_zero, List.set_cons_succ]
          refine wpAnyH_ready (rs := [11]) (by kernel_rfl) (by simp) ?_
          refine AllReadyH.cons rfl (fun K hK => ?_) AllReadyH.nil
          try simp only [List.getElem_toArray, List.getElem_cons_succ, List.getElem_cons_zero]
          go_simp
          refine hK.out _ _ (by trivial) (fun hHeld => ?_)
          clear hK K
          try simp only [List.getElem_toArray, List.getElem_cons_succ, List.getElem_cons_zero, Act.put, List.setIfInBounds_toArray, List.set_cons_zero, List.set_cons_succ]
          refine wpAnyH_done (by kernel_rfl) ?_ _
          go_wp2_with fail
          obtain ⟨U', Fs', A3, hU3, hK3⟩ := (A.out.below T3.out).push D3.out (fun b hf hu => by have h1 := hF3.out b hf; have h2 := A.out.lt b hu; simp only [World.size_drew] at h1; omega) u11.ok hlt11 own11 hat11
          have hsz := K.out.size
          have hs2 := T3.out.size
          refine ⟨⟨i + 1, U', _, Fs', ps ++ [p'], by omega, by go_num, Lib.hid (by rw [List.replicate_succ']; exact A3), Lib.hid (fun b hb => ?_), Lib.hid (K.out.trans ((T3.out.mono hsz).trans (hK3.below (by omega) hU.out)))⟩, by simp [intOf]; omega⟩
          by_cases hblt : b < w3.heap.size
          · rcases hU3 b hb hblt with h | h
            · exact hU.out b h
            · have h1 := hF3.out b h
              simp only [World.size_drew] at h1
              omega
          · omega
    · obtain rfl : i = k := by omega
      have h5 : ¬ (i : Int) < (i : Int) := by omega
      go_wp2_with fail
      go_ret
      exact ⟨a, rfl, U, ⟨v, Fs, ps, A.out⟩, hU.out, K.out⟩

/-! ### None -/
set_option maxRecDepth 100000 in
theorem rnew_none (s : Int) (h : ¬ (1 ≤ s ∧ s ≤ 600)) (w : World) :
    Calls Try.prog 24 #[.int .i64 s] w fun e w' => e = .returned (.pointer none) ∧ Below w.heap.size w w' := by
  by_cases h0 : s < 1
  · have d0 : decide (s < 1) = true := by simpa using h0
    go_enter Try.func24, Try.ntmps24
    go_wp2_with fail
    go_ret
    exact ⟨rfl, Below.refl _ _⟩
  · have d0 : decide (s < 1) = false := by simpa using h0
    have d1 : decide (600 < s) = true := decide_eq_true (by omega)
    go_enter Try.func24, Try.ntmps24
    go_wp2_with fail
    go_ret
    exact ⟨rfl, Below.refl _ _⟩
set_option maxRecDepth 100000 in
theorem new_none (s : Int) (h : ¬ (1 ≤ s ∧ s ≤ 600)) (w : World) :
    Calls Try.prog 11 #[.int .i64 s] w fun e w' => e = .returned (.pointer none) ∧ Below w.heap.size w w' := by
  by_cases h0 : s < 1
  · have d0 : decide (s < 1) = true := by simpa using h0
    go_enter Try.func11, Try.ntmps11
    go_wp2_with fail
    go_ret
    exact ⟨rfl, Below.refl _ _⟩
  · have d0 : decide (s < 1) = false := by simpa using h0
    have d1 : decide (600 < s) = true := decide_eq_true (by omega)
    go_enter Try.func11, Try.ntmps11
    go_wp2_with fail
    go_ret
    exact ⟨rfl, Below.refl _ _⟩
set_option maxRecDepth 100000 in
theorem ranew_none (k s : Int) (h : ¬ (1 ≤ k ∧ k ≤ 255 ∧ 1 ≤ s ∧ s ≤ 600)) (w : World) :
    Calls Try.prog 46 #[.int .i64 k, .int .i64 s] w fun e w' => e = .returned (.pointer none) ∧ Below w.heap.size w w' := by
  by_cases h0 : k < 1
  · have d0 : decide (k < 1) = true := by simpa using h0
    go_enter Try.func46, Try.ntmps46
    go_wp2_with fail
    go_ret
    exact ⟨rfl, Below.refl _ _⟩
  have d0 : decide (k < 1) = false := by simpa using h0
  by_cases h1 : 255 < k
  · have d1 : decide (255 < k) = true := by simpa using h1
    go_enter Try.func46, Try.ntmps46
    go_wp2_with fail
    go_ret
    exact ⟨rfl, Below.refl _ _⟩
  have d1 : decide (255 < k) = false := by simpa using h1
  have hs : ¬ (1 ≤ s ∧ s ≤ 600) := fun hs => h ⟨by omega, by omega, hs.1, hs.2⟩
  clear h
  go_enter Try.func46, Try.ntmps46
  go_wp2_with fail
  refine (rnew_none s hs w).mono ?_
  rintro e w1 ⟨rfl, t1⟩
  clear hs
  go_wp2_with fail
  go_ret
  exact ⟨rfl, t1⟩
set_option maxRecDepth 100000 in
theorem anew_nil (k s : Int) (h : ¬ (1 ≤ k ∧ k ≤ 255 ∧ 1 ≤ s ∧ s ≤ 600)) (w : World) :
    Calls Try.prog 29 #[.int .i64 k, .int .i64 s] w fun e w' => e = .returned (.pointer none) ∧ Below w.heap.size w w' := by
  by_cases h0 : k < 1
  · have d0 : decide (k < 1) = true := by simpa using h0
    go_enter Try.func29, Try.ntmps29
    go_wp2_with fail
    go_ret
    exact ⟨rfl, Below.refl _ _⟩
  have d0 : decide (k < 1) = false := by simpa using h0
  by_cases h1 : 255 < k
  · have d1 : decide (255 < k) = true := by simpa using h1
    go_enter Try.func29, Try.ntmps29
    go_wp2_with fail
    go_ret
    exact ⟨rfl, Below.refl _ _⟩
  have d1 : decide (255 < k) = false := by simpa using h1
  have hs : ¬ (1 ≤ s ∧ s ≤ 600) := fun hs => h ⟨by omega, by omega, hs.1, hs.2⟩
  have hk : (0 : Int) < k := by omega
  clear h
  go_enter Try.func29, Try.ntmps29
  go_wp2_with fail
  go_loopw [16] (fun vi wr => vi = .int .i64 0 ∧ Hid (Below w.heap.size w wr)) (fun _ _ => 0)
  case atStart => exact ⟨rfl, Lib.hid ((Below.refl _ _).alloc (Nat.le_refl _) _)⟩
  case round =>
    obtain ⟨rfl, T⟩ := hrel
    go_wp2_with fail
    refine (new_none s hs wr).mono ?_
    rintro e w1 ⟨rfl, t1⟩
    have T1 := Lib.hid (below_then t1 T.out)
    clear hs t1
    go_wp2_with fail
    go_ret
    exact ⟨rfl, T1.out⟩
end Go.Proofs.Ytolmpopjonkfgaa

set_option linter.unusedSimpArgs false
set_option linter.unusedVariables false
namespace Go.Proofs.Ytolmpopjonkfgaa
open Go.RowKit Go.Cib
attribute [local go_sem] cell_set Later.cell Later.frozen Grw.cell Grw.frozen


set_option maxRecDepth 100000 in
theorem none_nil (w : World) : Calls Try.prog 57 #[.pointer none] w fun e w' => e = .returned (.bool true) ∧ Below w.heap.size w w' := by
  go_enter Try.func57, Try.ntmps57
  go_wp2_with fail
  go_ret
  exact ⟨rfl, Below.refl _ _⟩
set_option maxRecDepth 100000 in
theorem dead_nil (w : World) : Calls Try.prog 21 #[.pointer none] w fun e w' => e = .returned (.bool true) ∧ Below w.heap.size w w' := by
  go_enter Try.func21, Try.ntmps21
  go_wp2_with fail
  refine (none_nil w).mono ?_
  rintro e w1 ⟨rfl, t1⟩
  go_wp2_with fail
  go_ret
  exact ⟨rfl, t1⟩
set_option maxRecDepth 100000 in
theorem waits_nil (w : World) : Calls Try.prog 17 #[.pointer none] w fun e w' => e = .returned (.int .i64 0) ∧ Below w.heap.size w w' := by
  go_enter Try.func17, Try.ntmps17
  go_wp2_with fail
  refine (none_nil w).mono ?_
  rintro e w1 ⟨rfl, t1⟩
  go_wp2_with fail
  go_ret
  exact ⟨rfl, t1⟩
set_option maxRecDepth 100000 in
theorem ready_nil (z : Int) (w : World) : Calls Try.prog 55 #[.pointer none, .int .i64 z] w fun e w' => e = .returned (.int .i64 1) ∧ Below w.heap.size w w' := by
  go_enter Try.func55, Try.ntmps55
  go_wp2_with fail
  refine (none_nil w).mono ?_
  rintro e w1 ⟨rfl, t1⟩
  go_wp2_with fail
  go_ret
  exact ⟨rfl, t1⟩
set_option maxRecDepth 100000 in
theorem stored_nil (z : Int) (w : World) : Calls Try.prog 69 #[.pointer none, .int .i64 z] w fun e w' => e = .returned (.slice none 0 0) ∧ Below w.heap.size w w' := by
  go_enter Try.func69, Try.ntmps69
  go_wp2_with fail
  refine (ready_nil z w).mono ?_
  rintro e w1 ⟨rfl, t1⟩
  go_wp2_with fail
  go_ret
  exact ⟨rfl, t1⟩
set_option maxRecDepth 100000 in
theorem rotten_nil (z : Int) (w : World) : Calls Try.prog 19 #[.pointer none, .int .i64 z] w fun e w' => e = .returned (.bool false) ∧ Below w.heap.size w w' := by
  go_enter Try.func19, Try.ntmps19
  go_wp2_with fail
  refine (none_nil w).mono ?_
  rintro e w1 ⟨rfl, t1⟩
  go_wp2_with fail
  go_ret
  exact ⟨rfl, t1⟩
section
variable {U : Nat → Prop} {w : World} {a s : Nat} {v : Value} {Fs : Nat → Nat → Prop} {ps : List Nat} {sts : List DSt}
set_option maxRecDepth 100000 in
theorem adead_out (h : Hid (ArrB U w a v Fs ps s sts)) (hk : 0 < sts.length) (d : Int) (hd : ¬ (0 ≤ d ∧ d < sts.length)) :
    Calls Try.prog 37 #[.pointer (some ⟨a, 0, none⟩), .int .i64 d] w fun e w' => e = .returned (.bool true) ∧ Below w.heap.size w w' := by
  have hat := aat_out h hk d hd
  clear hd
  go_enter Try.func37, Try.ntmps37
  go_wp2_with fail
  refine hat.mono ?_
  rintro e w1 ⟨rfl, t1⟩
  have T1 := Lib.hid t1
  clear t1 hat
  go_wp2_with fail
  refine (dead_nil _).mono ?_
  rintro e w2 ⟨rfl, t2⟩
  go_wp2_with fail
  go_ret
  exact ⟨rfl, T1.out.trans (t2.mono T1.out.size)⟩
set_option maxRecDepth 100000 in
theorem awaits_out (h : Hid (ArrB U w a v Fs ps s sts)) (hk : 0 < sts.length) (d : Int) (hd : ¬ (0 ≤ d ∧ d < sts.length)) :
    Calls Try.prog 44 #[.pointer (some ⟨a, 0, none⟩), .int .i64 d] w fun e w' => e = .returned (.int .i64 0) ∧ Below w.heap.size w w' := by
  have hat := aat_out h hk d hd
  clear hd
  go_enter Try.func44, Try.ntmps44
  go_wp2_with fail
  refine hat.mono ?_
  rintro e w1 ⟨rfl, t1⟩
  have T1 := Lib.hid t1
  clear t1 hat
  go_wp2_with fail
  refine (waits_nil _).mono ?_
  rintro e w2 ⟨rfl, t2⟩
  go_wp2_with fail
  go_ret
  exact ⟨rfl, T1.out.trans (t2.mono T1.out.size)⟩
set_option maxRecDepth 100000 in
theorem astored_out (h : Hid (ArrB U w a v Fs ps s sts)) (hk : 0 < sts.length) (d : Int) (hd : ¬ (0 ≤ d ∧ d < sts.length)) (z : Int) :
    Calls Try.prog 88 #[.pointer (some ⟨a, 0, none⟩), .int .i64 d, .int .i64 z] w fun e w' => e = .returned (.slice none 0 0) ∧ Below w.heap.size w w' := by
  have hat := aat_out h hk d hd
  clear hd
  go_enter Try.func88, Try.ntmps88
  go_wp2_with fail
  refine hat.mono ?_
  rintro e w1 ⟨rfl, t1⟩
  have T1 := Lib.hid t1
  clear t1 hat
  go_wp2_with fail
  refine (stored_nil z _).mono ?_
  rintro e w2 ⟨rfl, t2⟩
  go_wp2_with fail
  go_ret
  exact ⟨rfl, T1.out.trans (t2.mono T1.out.size)⟩
set_option maxRecDepth 100000 in
theorem arotten_out (h : Hid (ArrB U w a v Fs ps s sts)) (hk : 0 < sts.length) (d : Int) (hd : ¬ (0 ≤ d ∧ d < sts.length)) (z : Int) :
    Calls Try.prog 45 #[.pointer (some ⟨a, 0, none⟩), .int .i64 d, .int .i64 z] w fun e w' => e = .returned (.bool false) ∧ Below w.heap.size w w' := by
  have hat := aat_out h hk d hd
  clear hd
  go_enter Try.func45, Try.ntmps45
  go_wp2_with fail
  refine hat.mono ?_
  rintro e w1 ⟨rfl, t1⟩
  have T1 := Lib.hid t1
  clear t1 hat
  go_wp2_with fail
  refine (rotten_nil z _).mono ?_
  rintro e w2 ⟨rfl, t2⟩
  go_wp2_with fail
  go_ret
  exact ⟨rfl, T1.out.trans (t2.mono T1.out.size)⟩
set_option maxRecDepth 100000 in
theorem aread_out (h : Hid (ArrB U w a v Fs ps s sts)) (hk : 0 < sts.length) (d : Int) (hd : ¬ (0 ≤ d ∧ d < sts.length)) (z : Int) :
    Calls Try.prog 43 #[.pointer (some ⟨a, 0, none⟩), .int .i64 d, .int .i64 z] w fun e w' => e = .returned (.tuple #[.slice none 0 0, .int .i64 2]) ∧ Below w.heap.size w w' := by
  have hat := areach_out h hk d hd
  clear hd
  go_enter Try.func43, Try.ntmps43
  go_wp2_with fail
  refine hat.mono ?_
  rintro e w1 ⟨rfl, t1⟩
  clear hat
  go_wp2_with fail
  go_ret2
  exact ⟨rfl, t1⟩
set_option maxRecDepth 100000 in
theorem awrite_out (h : Hid (ArrB U w a v Fs ps s sts)) (hk : 0 < sts.length) (d : Int) (hd : ¬ (0 ≤ d ∧ d < sts.length)) (z : Int) (x : Value) :
    Calls Try.prog 40 #[.pointer (some ⟨a, 0, none⟩), .int .i64 d, .int .i64 z, x] w fun e w' => e = .returned (.int .i64 2) ∧ Below w.heap.size w w' := by
  have hat := areach_out h hk d hd
  clear hd
  go_enter Try.func40, Try.ntmps40
  go_wp2_with fail
  refine hat.mono ?_
  rintro e w1 ⟨rfl, t1⟩
  clear hat
  go_wp2_with fail
  go_ret
  exact ⟨rfl, t1⟩
set_option maxRecDepth 100000 in
theorem arot_out (h : Hid (ArrB U w a v Fs ps s sts)) (hk : 0 < sts.length) (d : Int) (hd : ¬ (0 ≤ d ∧ d < sts.length)) (z off mask : Int) :
    Calls Try.prog 42 #[.pointer (some ⟨a, 0, none⟩), .int .i64 d, .int .i64 z, .int .i64 off, .int .u32 mask] w fun e w' => e = .returned (.int .i64 2) ∧ Below w.heap.size w w' := by
  have hat := areach_out h hk d hd
  clear hd
  go_enter Try.func42, Try.ntmps42
  go_wp2_with fail
  refine hat.mono ?_
  rintro e w1 ⟨rfl, t1⟩
  clear hat
  go_wp2_with fail
  go_ret
  exact ⟨rfl, t1⟩
set_option maxRecDepth 100000 in
theorem astored_in (h : Hid (ArrB U w a v Fs ps s sts)) (d : Nat) {st : DSt} (hst : sts[d]? = some st) (z : Int) :
    Calls Try.prog 88 #[.pointer (some ⟨a, 0, none⟩), .int .i64 d, .int .i64 z] w fun e w' => BytesE (fun _ => True) w (storedL st s z) e w' := by
  obtain ⟨p, hp, hD, hd⟩ := h.out.p_at hst
  have HD := Lib.hid hD
  clear hD
  go_enter Try.func88, Try.ntmps88
  go_wp2_with fail
  refine (aat_in h d hd hp).mono ?_
  rintro e w1 ⟨rfl, t1⟩
  have T1 := Lib.hid t1
  clear t1
  go_wp2_with fail
  refine (stored_whole (Lib.hid (HD.out.below T1.out)) z).mono ?_
  rintro e w2 ⟨A, m, c, rfl, r2, t2⟩
  have R2 := Lib.hid r2
  clear r2
  go_wp2_with fail
  go_ret
  exact ⟨A, m, c, rfl, R2.out, T1.out.trans (t2.mono T1.out.size)⟩
set_option maxRecDepth 100000 in
theorem arotten_all (h : Hid (ArrB U w a v Fs ps s sts)) (d : Nat) {st : DSt} (hst : sts[d]? = some st) (z : Int) :
    Calls Try.prog 45 #[.pointer (some ⟨a, 0, none⟩), .int .i64 d, .int .i64 z] w fun e w' => e = .returned (.bool (rottenL st s z)) ∧ Below w.heap.size w w' := by
  obtain ⟨p, hp, hD, hd⟩ := h.out.p_at hst
  have HD := Lib.hid hD
  clear hD
  go_enter Try.func45, Try.ntmps45
  go_wp2_with fail
  refine (aat_in h d hd hp).mono ?_
  rintro e w1 ⟨rfl, t1⟩
  have T1 := Lib.hid t1
  clear t1
  go_wp2_with fail
  refine (rotten_all (Lib.hid (HD.out.below T1.out)) z).mono ?_
  rintro e w2 ⟨rfl, t2⟩
  go_wp2_with fail
  go_ret
  exact ⟨rfl, T1.out.trans (t2.mono T1.out.size)⟩
set_option maxRecDepth 100000 in
theorem arot_exact (h : Hid (ArrB U w a v Fs ps s sts)) (d : Nat) {st : DSt} (hst : sts[d]? = some st) (z off mask : Int) :
    Calls Try.prog 42 #[.pointer (some ⟨a, 0, none⟩), .int .i64 d, .int .i64 z, .int .i64 off, .int .u32 mask] w fun e w' => e = .returned (.int .i64 (rotC st.dead s z off mask ((st.rotten[z.toNat]?).getD false))) ∧ AUpd U w w' a s (sts.set d (rtD s st z off mask)) := by
  obtain ⟨p, hp, hD, hd⟩ := h.out.p_at hst
  have HD := Lib.hid hD
  clear hD
  go_enter Try.func42, Try.ntmps42
  go_wp2_with fail
  refine (areach_in h d hd hp).mono ?_
  rintro e w1 ⟨rfl, t1⟩
  have T1 := Lib.hid t1
  clear t1
  go_wp2_with fail
  refine (rot_exact (Lib.hid (HD.out.below T1.out)) z off mask).mono ?_
  rintro e w2 ⟨he, u2⟩
  obtain ⟨E, hE⟩ : ∃ E, rotC st.dead s z off mask ((st.rotten[z.toNat]?).getD false) = E := ⟨_, rfl⟩
  rw [hE] at he
  subst he
  have HE := Lib.hid hE
  have U2 := Lib.hid (show Upd (Fs d) w1 w2 p s (rtD s st z off mask) from u2)
  clear u2 hE
  go_wp2_with fail
  go_ret
  exact ⟨by rw [HE.out]; rfl, h.out.upd2 T1.out hp U2.out⟩
end
end Go.Proofs.Ytolmpopjonkfgaa

set_option linter.unusedSimpArgs false
set_option linter.unusedVariables false
namespace Go.Proofs.Ytolmpopjonkfgaa
open Go.RowKit Go.Cib
attribute [local go_sem] cell_set Later.cell Later.frozen Grw.cell Grw.frozen

theorem wpAnyH_narrow {P : Program} {md : Region.Mode} {ops : Array Oper} {Q : Exit → Act → World → Prop} {S S' : World → Prop} (hS : ∀ w, S' w → S w) : ∀ (fuel : Nat) (listed : Array Bool) (a : Act) (w : World), wpAnyH P md ops Q S' fuel listed a w → wpAnyH P md ops Q S fuel listed a w
  | 0, _, _, _, h => h
  | fuel + 1, _, _, _, h => ⟨h.1, fun i hi => wpOp_mono (fun a' w' h' => ⟨hS _ h'.1, wpAnyH_narrow hS fuel _ a' w' h'.2⟩) (h.2 i hi)⟩
theorem conv_nil (w : World) : (convert 27 9 (.slice none 0 0)).run Try.prog w = .ok (.string ByteArray.empty) w :=
  run_convert_bytes_nil w _ 5 (by kernel_rfl) (by kernel_rfl) 0 0 _ (by kernel_rfl)
set_option maxRecDepth 100000 in
set_option maxHeartbeats 8000000 in
theorem alike_live {F G : Nat → Prop} {w : World} {p x n : Nat} {st : DSt} {rs : RSt} (hD : Hid (DrvAt F w p n st)) (hR : Hid (RefAt G w x n rs)) (hd : st.dead = false) (hg : rs.gone = false) (z : Nat) (hz : z < n)
    (hcl : rs.L.length < 1000000) (hcw : rs.wait.length < 1000000) (hok : Hid (∀ e ∈ rs.L, EvOk e)) (hw64 : Hid (∀ e ∈ rs.wait, e.b.length = 64)) (hseen : Hid (seenE rs z = st.seen z)) (hx : st.stored[z]? = some (storedE rs.L z)) (hr : st.rotten[z]? = some (badE rs.L z)) :
    Calls Try.prog 27 #[.pointer (some ⟨p, 0, none⟩), .pointer (some ⟨x, 0, none⟩), .int .i64 z] w fun e w' => e = .returned (.bool true) ∧ Below w.heap.size w w' := by
  have hrot : Hid ((!rs.gone && badE rs.L z) = badE rs.L z) := Lib.hid (by rw [hg]; rfl)
  go_enter Try.func27, Try.ntmps27
  go_wp2_with fail
  refine (read_at hD hd z hz).mono ?_
  rintro e w1 ⟨b1, o1, rfl, _, _, r1, t1⟩
  have D1 := Lib.hid (hD.out.below t1)
  have R1 := Lib.hid (hR.out.below t1)
  go_wp2_with fail
  refine (rread_good R1 hg z hz hcl hcw hok hw64).mono ?_
  rintro e w2 ⟨A2, cc2, rfl, r2, t2⟩
  rw [hseen.out] at r2
  have D2 := Lib.hid (D1.out.below t2)
  have R2 := Lib.hid (R1.out.below t2)
  have T2 := Lib.hid (t1.trans (t2.mono t1.size))
  have Q1 := Lib.hid (r1.below U8R.stable t2)
  have Q2 := Lib.hid r2
  have c1 : ∀ w', Below w2.heap.size w2 w' → (convert 27 9 (.slice (some ⟨b1, o1, none⟩) 64 64)).run Try.prog w' = .ok (.string (strOfNums (st.seen z))) w' := fun w' h => conv_run (Q1.out.below U8R.stable h) (by omega)
  have c2 : ∀ w', Below w2.heap.size w2 w' → (convert 27 9 (.slice A2 64 cc2)).run Try.prog w' = .ok (.string (strOfNums (st.seen z))) w' := fun w' h => conv_run (Q2.out.below U8R.stable h) (by omega)
  have hws := Nat.le_trans t1.size t2.size
  clear D1 R1 t1 t2 r1 r2 Q1 Q2
  go_wp2_with fail
  refine wp_region_held_drew (S := fun w' => Below w2.heap.size w2 w') (by kernel_rfl) (by first | exact (Below.refl _ _).drew | exact Below.refl _ _ | assumption) (fun hHeld => ?_)
  refine wpAnyH_take (i := 0) (v := ?_) rfl (by kernel_rfl) (by kernel_rfl) (by kernel_rfl) (fun _ _ _ h => h) (Or.inl ⟨by rfl, ?_⟩) (by assumption) ?_
  rotate_left
  · (intro wq hSw; (try dsimp only at hSw); (try simp only [List.getElem_toArray, List.getElem_cons_succ, List.getElem_cons_zero]); go_simp); try with_reducible rfl
  try simp only [List.getElem_toArray, List.getElem_cons_succ, List.getElem_cons_zero, Act.put, List.setIfInBounds_toArray, List.set_cons_zero, List.set_cons_succ]
  refine wpAnyH_take (i := 1) (v := ?_) rfl (by kernel_rfl) (by kernel_rfl) (by kernel_rfl) (fun _ _ _ h => h) (Or.inl ⟨by rfl, ?_⟩) (by assumption) ?_
  rotate_left
  · (intro wq hSw; (try dsimp only at hSw); (try simp only [List.getElem_toArray, List.getElem_cons_succ, List.getElem_cons_zero]); go_simp); try with_reducible rfl
  try simp only [List.getElem_toArray, List.getElem_cons_succ, List.getElem_cons_zero, Act.put, List.setIfInBounds_toArray, List.set_cons_zero, List.set_cons_succ]
  refine wpAnyH_take (i := 2) (v := ?_) rfl (by kernel_rfl) (by kernel_rfl) (by kernel_rfl) (fun _ _ _ h => h) (Or.inl ⟨by rfl, ?_⟩) (by assumption) ?_
  rotate_left
  · (intro wq hSw; (try dsimp only at hSw); (try simp only [List.getElem_toArray, List.getElem_cons_succ, List.getElem_cons_zero]); go_simp); try with_reducible rfl
  try simp only [List.getElem_toArray, List.getElem_cons_succ, List.getElem_cons_zero, Act.put, List.setIfInBounds_toArray, List.set_cons_zero, List.set_cons_succ]
  refine wpAnyH_take (i := 3) (v := ?_) rfl (by kernel_rfl) (by kernel_rfl) (by kernel_rfl) (fun _ _ _ h => h) (Or.inl ⟨by rfl, ?_⟩) (by assumption) ?_
  rotate_left
  · (intro wq hSw; (try dsimp only at hSw); (try simp only [List.getElem_toArray, List.getElem_cons_succ, List.getElem_cons_zero]); go_simp); try with_reducible rfl
  try simp only [List.getElem_toArray, List.getElem_cons_succ, List.getElem_cons_zero, Act.put, List.setIfInBounds_toArray, List.set_cons_zero, List.set_cons_succ]
  refine wpAnyH_take (i := 4) (v := ?_) rfl (by kernel_rfl) (by kernel_rfl) (by kernel_rfl) (fun _ _ _ h => h) (Or.inl ⟨by rfl, ?_⟩) (by assumption) ?_
  rotate_left
  · (intro wq hSw; (try dsimp only at hSw); (try simp only [List.getElem_toArray, List.getElem_cons_succ, List.getElem_cons_zero]); go_simp); try with_reducible rfl
  try simp only [List.getElem_toArray, List.getElem_cons_succ, List.getElem_cons_zero, Act.put, List.setIfInBounds_toArray, List.set_cons_zero, List.set_cons_succ]
  refine wpAnyH_take (i := 5) (v := ?_) rfl (by kernel_rfl) (by kernel_rfl) (by kernel_rfl) (fun _ _ _ h => h) (Or.inl ⟨by rfl, ?_⟩) (by assumption) ?_
  rotate_left
  · (intro wq hSw; (try dsimp only at hSw); (try simp only [List.getElem_toArray, List.getElem_cons_succ, List.getElem_cons_zero]); go_simp); try with_reducible rfl
  try simp only [List.getElem_toArray, List.getElem_cons_succ, List.getElem_cons_zero, Act.put, List.setIfInBounds_toArray, List.set_cons_zero, List.set_cons_succ]
  refine wpAnyH_take (i := 6) (v := ?_) rfl (by kernel_rfl) (by kernel_rfl) (by kernel_rfl) (fun _ _ _ h => h) (Or.inl ⟨by rfl, ?_⟩) (by assumption) ?_
  rotate_left
  · (intro wq hSw; (try dsimp only at hSw); (try simp only [List.getElem_toArray, List.getElem_cons_succ, List.getElem_cons_zero]); go_simp); try with_reducible rfl
  try simp only [List.getElem_toArray, List.getElem_cons_succ, List.getElem_cons_zero, Act.put, List.setIfInBounds_toArray, List.set_cons_zero, List.set_cons_succ]
  refine wpAnyH_take (i := 7) (v := ?_) rfl (by kernel_rfl) (by kernel_rfl) (by kernel_rfl) (fun _ _ _ h => h) (Or.inl ⟨by rfl, ?_⟩) (by assumption) ?_
  rotate_left
  · (intro wq hSw; (try dsimp only at hSw); (try simp only [List.getElem_toArray, List.getElem_cons_succ, List.getElem_cons_zero]); go_simp); try with_reducible rfl
  try simp only [List.getElem_toArray, List.getElem_cons_succ, List.getElem_cons_zero, Act.put, List.setIfInBounds_toArray, List.set_cons_zero, List.set_cons_succ]
  refine wpAnyH_take (i := 8) (v := ?_) rfl (by kernel_rfl) (by kernel_rfl) (by kernel_rfl) (fun _ _ _ h => h) (Or.inl ⟨by rfl, ?_⟩) (by assumption) ?_
  rotate_left
  · (intro wq hSw; (try dsimp only at hSw); (try simp only [List.getElem_toArray, List.getElem_cons_succ, List.getElem_cons_zero]); go_simp); try with_reducible rfl
  try simp only [List.getElem_toArray, List.getElem_cons_succ, List.getElem_cons_zero, Act.put, List.setIfInBounds_toArray, List.set_cons_zero, List.set_cons_succ]
  refine wpAnyH_take (i := 9) (v := ?_) rfl (by kernel_rfl) (by kernel_rfl) (by kernel_rfl) (fun _ _ _ h => h) (Or.inl ⟨by rfl, ?_⟩) (by assumption) ?_
  rotate_left
  · (intro wq hSw; (try dsimp only at hSw); (try simp only [List.getElem_toArray, List.getElem_cons_succ, List.getElem_cons_zero]); go_simp); try with_reducible rfl
  try simp only [List.getElem_toArray, List.getElem_cons_succ, List.getElem_cons_zero, Act.put, List.setIfInBounds_toArray, List.set_cons_zero, List.set_cons_succ]
  refine wpAnyH_take (i := 10) (v := ?_) rfl (by kernel_rfl) (by kernel_rfl) (by kernel_rfl) (fun _ _ _ h => h) (Or.inl ⟨by rfl, ?_⟩) (by assumption) ?_
  rotate_left
  · (intro wq hSw; (try dsimp only at hSw); (try simp only [List.getElem_toArray, List.getElem_cons_succ, List.getElem_cons_zero]); go_simp); try with_reducible rfl
  try simp only [List.getElem_toArray, List.getElem_cons_succ, List.getElem_cons_zero, Act.put, List.setIfInBounds_toArray, List.set_cons_zero, List.set_cons_succ]
  refine wpAnyH_take (i := 11) (v := ?_) rfl (by kernel_rfl) (by kernel_rfl) (by kernel_rfl) (fun _ _ _ h => h) (Or.inl ⟨by rfl, ?_⟩) (by assumption) ?_
  rotate_left
  · (intro wq hSw; (try dsimp only at hSw); (try simp only [List.getElem_toArray, List.getElem_cons_succ, List.getElem_cons_zero]); go_simp); try with_reducible rfl
  try simp only [List.getElem_toArray, List.getElem_cons_succ, List.getElem_cons_zero, Act.put, List.setIfInBounds_toArray, List.set_cons_zero, List.set_cons_succ]
  refine wpAnyH_take (i := 12) (v := ?_) rfl (by kernel_rfl) (by kernel_rfl) (by kernel_rfl) (fun _ _ _ h => h) (Or.inl ⟨by rfl, ?_⟩) (by assumption) ?_
  rotate_left
  · (intro wq hSw; (try dsimp only at hSw); (try simp only [List.getElem_toArray, List.getElem_cons_succ, List.getElem_cons_zero]); go_simp); try with_reducible rfl
  try simp only [List.getElem_toArray, List.getElem_cons_succ, List.getElem_cons_zero, Act.put, List.setIfInBounds_toArray, List.set_cons_zero, List.set_cons_succ]
  refine wpAnyH_take (i := 15) (v := ?_) rfl (by kernel_rfl) (by kernel_rfl) (by kernel_rfl) (fun _ _ _ h => h) (Or.inl ⟨by rfl, ?_⟩) (by assumption) ?_
  rotate_left
  · (intro wq hSw; (try dsimp only at hSw); (try simp only [List.getElem_toArray, List.getElem_cons_succ, List.getElem_cons_zero]); go_simp); try with_reducible rfl
  try simp only [List.getElem_toArray, List.getElem_cons_succ, List.getElem_cons_zero, Act.put, List.setIfInBounds_toArray, List.set_cons_zero, List.set_cons_succ]
  refine wpAnyH_take (i := 16) (v := ?_) rfl (by kernel_rfl) (by kernel_rfl) (by kernel_rfl) (fun _ _ _ h => h) (Or.inl ⟨by rfl, ?_⟩) (by assumption) ?_
  rotate_left
  · (intro wq hSw; (try dsimp only at hSw); (try simp only [List.getElem_toArray, List.getElem_cons_succ, List.getElem_cons_zero]); go_simp); try with_reducible rfl
  try simp only [List.getElem_toArray, List.getElem_cons_succ, List.getElem_cons_zero, Act.put, List.setIfInBounds_toArray, List.set_cons_zero, List.set_cons_succ]
  refine wpAnyH_ready (rs := [13]) (by kernel_rfl) (by simp) ?_
  refine AllReadyH.cons rfl (fun K hK => ?_) AllReadyH.nil
  try simp only [List.getElem_toArray, List.getElem_cons_succ, List.getElem_cons_zero]
  go_simp
  refine (stored_good (Lib.hid (D2.out.below hHeld)) hd z hz hx).mono ?_
  rintro e w3 ⟨A3, rfl, r3, t3⟩
  have tq := below_then t3 (by assumption)
  have Q3 := Lib.hid r3
  have c3 : ∀ w', Below w3.heap.size w3 w' → (convert 27 9 (.slice A3 64 64)).run Try.prog w' = .ok (.string (strOfNums (storedE rs.L z))) w' := fun w' h => conv_run (Q3.out.below U8R.stable h) (by omega)
  have D3 := Lib.hid (D2.out.below tq)
  have R3 := Lib.hid (R2.out.below tq)
  have h33 := Below.refl w3.heap.size w3
  clear r3
  try (go_wp2_with fail)
  refine hK.out _ _ (by first | exact (Below.refl _ _).drew | exact Below.refl _ _ | assumption) (fun hHeld => ?_)
  clear hK K
  try simp only [List.getElem_toArray, List.getElem_cons_succ, List.getElem_cons_zero, Act.put, List.setIfInBounds_toArray, List.set_cons_zero, List.set_cons_succ]
  refine wpAnyH_narrow (S' := fun w' => Below w3.heap.size w3 w') (fun w' h => below_then h tq) _ _ _ _ ?_
  refine wpAnyH_take (i := 14) (v := ?_) rfl (by kernel_rfl) (by kernel_rfl) (by kernel_rfl) (fun _ _ _ h => h) (Or.inl ⟨by rfl, ?_⟩) (by assumption) ?_
  rotate_left
  · (intro wq hSw; (try dsimp only at hSw); (try simp only [List.getElem_toArray, List.getElem_cons_succ, List.getElem_cons_zero]); go_simp); try with_reducible rfl
  try simp only [List.getElem_toArray, List.getElem_cons_succ, List.getElem_cons_zero, Act.put, List.setIfInBounds_toArray, List.set_cons_zero, List.set_cons_succ]
  refine wpAnyH_ready (rs := [17]) (by kernel_rfl) (by simp) ?_
  refine AllReadyH.cons rfl (fun K hK => ?_) AllReadyH.nil
  try simp only [List.getElem_toArray, List.getElem_cons_succ, List.getElem_cons_zero]
  go_simp
  refine (rstored_good (Lib.hid (R3.out.below h33)) hg z hz hcl hok).mono ?_
  rintro e w4 ⟨g4, cc4, rfl, _, _, r4, t4⟩
  have tq4 := below_then t4 (by assumption)
  have c4 := conv_run (c := cc4) r4 (by omega)
  try (go_wp2_with fail)
  refine hK.out _ _ (by first | exact (Below.refl _ _).drew | exact Below.refl _ _ | assumption) (fun hHeld => ?_)
  clear hK K
  try simp only [List.getElem_toArray, List.getElem_cons_succ, List.getElem_cons_zero, Act.put, List.setIfInBounds_toArray, List.set_cons_zero, List.set_cons_succ]
  refine wpAnyH_ready (rs := [18]) (by kernel_rfl) (by simp) ?_
  refine AllReadyH.cons rfl (fun K hK => ?_) AllReadyH.nil
  try simp only [List.getElem_toArray, List.getElem_cons_succ, List.getElem_cons_zero]
  go_simp
  refine hK.out _ _ (by first | exact (Below.refl _ _).drew | exact Below.refl _ _ | assumption) (fun hHeld => ?_)
  clear hK K
  try simp only [List.getElem_toArray, List.getElem_cons_succ, List.getElem_cons_zero, Act.put, List.setIfInBounds_toArray, List.set_cons_zero, List.set_cons_succ]
  refine wpAnyH_take (i := 19) (v := ?_) rfl (by kernel_rfl) (by kernel_rfl) (by kernel_rfl) (fun _ _ _ h => h) (Or.inl ⟨by rfl, ?_⟩) (by assumption) ?_
  rotate_left
  · (intro wq hSw; (try dsimp only at hSw); (try simp only [List.getElem_toArray, List.getElem_cons_succ, List.getElem_cons_zero]); go_simp); try with_reducible rfl
  try simp only [List.getElem_toArray, List.getElem_cons_succ, List.getElem_cons_zero, Act.put, List.setIfInBounds_toArray, List.set_cons_zero, List.set_cons_succ]
  refine wpAnyH_take (i := 20) (v := ?_) rfl (by kernel_rfl) (by kernel_rfl) (by kernel_rfl) (fun _ _ _ h => h) (Or.inl ⟨by rfl, ?_⟩) (by assumption) ?_
  rotate_left
  · (intro wq hSw; (try dsimp only at hSw); (try simp only [List.getElem_toArray, List.getElem_cons_succ, List.getElem_cons_zero]); go_simp); try with_reducible rfl
  try simp only [List.getElem_toArray, List.getElem_cons_succ, List.getElem_cons_zero, Act.put, List.setIfInBounds_toArray, List.set_cons_zero, List.set_cons_succ]
  refine wpAnyH_take (i := 21) (v := ?_) rfl (by kernel_rfl) (by kernel_rfl) (by kernel_rfl) (fun _ _ _ h => h) (Or.inl ⟨by rfl, ?_⟩) (by assumption) ?_
  rotate_left
  · (intro wq hSw; (try dsimp only at hSw); (try simp only [List.getElem_toArray, List.getElem_cons_succ, List.getElem_cons_zero]); go_simp); try with_reducible rfl
  try simp only [List.getElem_toArray, List.getElem_cons_succ, List.getElem_cons_zero, Act.put, List.setIfInBounds_toArray, List.set_cons_zero, List.set_cons_succ]
  refine wpAnyH_take (i := 22) (v := ?_) rfl (by kernel_rfl) (by kernel_rfl) (by kernel_rfl) (fun _ _ _ h => h) (Or.inl ⟨by rfl, ?_⟩) (by assumption) ?_
  rotate_left
  · (intro wq hSw; (try dsimp only at hSw); (try simp only [List.getElem_toArray, List.getElem_cons_succ, List.getElem_cons_zero]); go_simp); try with_reducible rfl
  try simp only [List.getElem_toArray, List.getElem_cons_succ, List.getElem_cons_zero, Act.put, List.setIfInBounds_toArray, List.set_cons_zero, List.set_cons_succ]
  refine wpAnyH_take (i := 23) (v := ?_) rfl (by kernel_rfl) (by kernel_rfl) (by kernel_rfl) (fun _ _ _ h => h) (Or.inl ⟨by rfl, ?_⟩) (by assumption) ?_
  rotate_left
  · (intro wq hSw; (try dsimp only at hSw); (try simp only [List.getElem_toArray, List.getElem_cons_succ, List.getElem_cons_zero]); go_simp); try with_reducible rfl
  try simp only [List.getElem_toArray, List.getElem_cons_succ, List.getElem_cons_zero, Act.put, List.setIfInBounds_toArray, List.set_cons_zero, List.set_cons_succ]
  refine wpAnyH_take (i := 25) (v := ?_) rfl (by kernel_rfl) (by kernel_rfl) (by kernel_rfl) (fun _ _ _ h => h) (Or.inl ⟨by rfl, ?_⟩) (by assumption) ?_
  rotate_left
  · (intro wq hSw; (try dsimp only at hSw); (try simp only [List.getElem_toArray, List.getElem_cons_succ, List.getElem_cons_zero]); go_simp); try with_reducible rfl
  try simp only [List.getElem_toArray, List.getElem_cons_succ, List.getElem_cons_zero, Act.put, List.setIfInBounds_toArray, List.set_cons_zero, List.set_cons_succ]
  refine wpAnyH_take (i := 26) (v := ?_) rfl (by kernel_rfl) (by kernel_rfl) (by kernel_rfl) (fun _ _ _ h => h) (Or.inl ⟨by rfl, ?_⟩) (by assumption) ?_
  rotate_left
  · (intro wq hSw; (try dsimp only at hSw); (try simp only [List.getElem_toArray, List.getElem_cons_succ, List.getElem_cons_zero]); go_simp); try with_reducible rfl
  try simp only [List.getElem_toArray, List.getElem_cons_succ, List.getElem_cons_zero, Act.put, List.setIfInBounds_toArray, List.set_cons_zero, List.set_cons_succ]
  refine wpAnyH_ready (rs := [24]) (by kernel_rfl) (by simp) ?_
  refine AllReadyH.cons rfl (fun K hK => ?_) AllReadyH.nil
  try simp only [List.getElem_toArray, List.getElem_cons_succ, List.getElem_cons_zero]
  go_simp
  refine (rotten_any (Lib.hid (D3.out.below hHeld)) hd z hz hr).mono ?_
  rintro e w5 ⟨rfl, t5⟩
  have tq5 := below_then t5 (by assumption)
  try (go_wp2_with fail)
  refine hK.out _ _ (by first | exact (Below.refl _ _).drew | exact Below.refl _ _ | assumption) (fun hHeld => ?_)
  clear hK K
  try simp only [List.getElem_toArray, List.getElem_cons_succ, List.getElem_cons_zero, Act.put, List.setIfInBounds_toArray, List.set_cons_zero, List.set_cons_succ]
  refine wpAnyH_ready (rs := [27]) (by kernel_rfl) (by simp) ?_
  refine AllReadyH.cons rfl (fun K hK => ?_) AllReadyH.nil
  try simp only [List.getElem_toArray, List.getElem_cons_succ, List.getElem_cons_zero]
  go_simp
  refine (rrotten_any (Lib.hid (R3.out.below hHeld)) z hcl).mono ?_
  rintro e w6 ⟨rfl, t6⟩
  have tq6 := below_then t6 (by assumption)
  rw [hrot.out]
  try (go_wp2_with fail)
  refine hK.out _ _ (by first | exact (Below.refl _ _).drew | exact Below.refl _ _ | assumption) (fun hHeld => ?_)
  clear hK K
  try simp only [List.getElem_toArray, List.getElem_cons_succ, List.getElem_cons_zero, Act.put, List.setIfInBounds_toArray, List.set_cons_zero, List.set_cons_succ]
  refine wpAnyH_take (i := 28) (v := ?_) rfl (by kernel_rfl) (by kernel_rfl) (by kernel_rfl) (fun _ _ _ h => h) (Or.inl ⟨by rfl, ?_⟩) (by assumption) ?_
  rotate_left
  · (intro wq hSw; (try dsimp only at hSw); (try simp only [List.getElem_toArray, List.getElem_cons_succ, List.getElem_cons_zero]); go_simp); try with_reducible rfl
  try simp only [List.getElem_toArray, List.getElem_cons_succ, List.getElem_cons_zero, Act.put, List.setIfInBounds_toArray, List.set_cons_zero, List.set_cons_succ]
  refine wpAnyH_take (i := 29) (v := ?_) rfl (by kernel_rfl) (by kernel_rfl) (by kernel_rfl) (fun _ _ _ h => h) (Or.inl ⟨by rfl, ?_⟩) (by assumption) ?_
  rotate_left
  · (intro wq hSw; (try dsimp only at hSw); (try simp only [List.getElem_toArray, List.getElem_cons_succ, List.getElem_cons_zero]); go_simp); try with_reducible rfl
  try simp only [List.getElem_toArray, List.getElem_cons_succ, List.getElem_cons_zero, Act.put, List.setIfInBounds_toArray, List.set_cons_zero, List.set_cons_succ]
  refine wpAnyH_take (i := 30) (v := ?_) rfl (by kernel_rfl) (by kernel_rfl) (by kernel_rfl) (fun _ _ _ h => h) (Or.inl ⟨by rfl, ?_⟩) (by assumption) ?_
  rotate_left
  · (intro wq hSw; (try dsimp only at hSw); (try simp only [List.getElem_toArray, List.getElem_cons_succ, List.getElem_cons_zero]); go_simp); try with_reducible rfl
  try simp only [List.getElem_toArray, List.getElem_cons_succ, List.getElem_cons_zero, Act.put, List.setIfInBounds_toArray, List.set_cons_zero, List.set_cons_succ]
  refine wpAnyH_done (by kernel_rfl) ?_ _
  go_wp2_with fail
  go_ret
  exact ⟨rfl, T2.out.trans ((below_then tq6 tq).mono hws)⟩

set_option maxRecDepth 100000 in
set_option maxHeartbeats 8000000 in
theorem alike_dead {F G : Nat → Prop} {w : World} {p x n : Nat} {st : DSt} {rs : RSt} (hD : Hid (DrvAt F w p n st)) (hR : Hid (RefAt G w x n rs)) (hd : st.dead = true) (hg : rs.gone = true) (z : Nat)
    (hcl : rs.L.length < 1000000) :
    Calls Try.prog 27 #[.pointer (some ⟨p, 0, none⟩), .pointer (some ⟨x, 0, none⟩), .int .i64 z] w fun e w' => e = .returned (.bool true) ∧ Below w.heap.size w w' := by
  have hrot : Hid ((!rs.gone && badE rs.L z) = false) := Lib.hid (by rw [hg]; rfl)
  have hnr : readyE st.dead n z ≠ 0 := by rw [hd]; simp [readyE]
  have hE : readyE st.dead n z = 90 := by rw [hd]; simp [readyE]
  go_enter Try.func27, Try.ntmps27
  go_wp2_with fail
  refine (read_bad hD z hnr).mono ?_
  rintro e w1 ⟨rfl, t1⟩
  rw [hE]
  have D1 := Lib.hid (hD.out.below t1)
  have R1 := Lib.hid (hR.out.below t1)
  clear hE
  go_wp2_with fail
  refine (rread_gone R1 hg z).mono ?_
  rintro e w2 ⟨rfl, t2⟩
  have D2 := Lib.hid (D1.out.below t2)
  have R2 := Lib.hid (R1.out.below t2)
  have T2 := Lib.hid (t1.trans (t2.mono t1.size))
  have c0 := conv_nil
  have hws := Nat.le_trans t1.size t2.size
  clear D1 R1 t1 t2
  go_wp2_with fail
  refine wp_region_held_drew (S := fun w' => Below w2.heap.size w2 w') (by kernel_rfl) (by first | exact (Below.refl _ _).drew | exact Below.refl _ _ | assumption) (fun hHeld => ?_)
  refine wpAnyH_take (i := 0) (v := ?_) rfl (by kernel_rfl) (by kernel_rfl) (by kernel_rfl) (fun _ _ _ h => h) (Or.inl ⟨by rfl, ?_⟩) (by assumption) ?_
  rotate_left
  · (intro wq hSw; (try dsimp only at hSw); (try simp only [List.getElem_toArray, List.getElem_cons_succ, List.getElem_cons_zero]); go_simp); try with_reducible rfl
  try simp only [List.getElem_toArray, List.getElem_cons_succ, List.getElem_cons_zero, Act.put, List.setIfInBounds_toArray, List.set_cons_zero, List.set_cons_succ]
  refine wpAnyH_take (i := 1) (v := ?_) rfl (by kernel_rfl) (by kernel_rfl) (by kernel_rfl) (fun _ _ _ h => h) (Or.inl ⟨by rfl, ?_⟩) (by assumption) ?_
  rotate_left
  · (intro wq hSw; (try dsimp only at hSw); (try simp only [List.getElem_toArray, List.getElem_cons_succ, List.getElem_cons_zero]); go_simp); try with_reducible rfl
  try simp only [List.getElem_toArray, List.getElem_cons_succ, List.getElem_cons_zero, Act.put, List.setIfInBounds_toArray, List.set_cons_zero, List.set_cons_succ]
  refine wpAnyH_take (i := 2) (v := ?_) rfl (by kernel_rfl) (by kernel_rfl) (by kernel_rfl) (fun _ _ _ h => h) (Or.inl ⟨by rfl, ?_⟩) (by assumption) ?_
  rotate_left
  · (intro wq hSw; (try dsimp only at hSw); (try simp only [List.getElem_toArray, List.getElem_cons_succ, List.getElem_cons_zero]); go_simp); try with_reducible rfl
  try simp only [List.getElem_toArray, List.getElem_cons_succ, List.getElem_cons_zero, Act.put, List.setIfInBounds_toArray, List.set_cons_zero, List.set_cons_succ]
  refine wpAnyH_take (i := 3) (v := ?_) rfl (by kernel_rfl) (by kernel_rfl) (by kernel_rfl) (fun _ _ _ h => h) (Or.inl ⟨by rfl, ?_⟩) (by assumption) ?_
  rotate_left
  · (intro wq hSw; (try dsimp only at hSw); (try simp only [List.getElem_toArray, List.getElem_cons_succ, List.getElem_cons_zero]); go_simp); try with_reducible rfl
  try simp only [List.getElem_toArray, List.getElem_cons_succ, List.getElem_cons_zero, Act.put, List.setIfInBounds_toArray, List.set_cons_zero, List.set_cons_succ]
  refine wpAnyH_take (i := 4) (v := ?_) rfl (by kernel_rfl) (by kernel_rfl) (by kernel_rfl) (fun _ _ _ h => h) (Or.inl ⟨by rfl, ?_⟩) (by assumption) ?_
  rotate_left
  · (intro wq hSw; (try dsimp only at hSw); (try simp only [List.getElem_toArray, List.getElem_cons_succ, List.getElem_cons_zero]); go_simp); try with_reducible rfl
  try simp only [List.getElem_toArray, List.getElem_cons_succ, List.getElem_cons_zero, Act.put, List.setIfInBounds_toArray, List.set_cons_zero, List.set_cons_succ]
  refine wpAnyH_take (i := 5) (v := ?_) rfl (by kernel_rfl) (by kernel_rfl) (by kernel_rfl) (fun _ _ _ h => h) (Or.inl ⟨by rfl, ?_⟩) (by assumption) ?_
  rotate_left
  · (intro wq hSw; (try dsimp only at hSw); (try simp only [List.getElem_toArray, List.getElem_cons_succ, List.getElem_cons_zero]); go_simp); try with_reducible rfl
  try simp only [List.getElem_toArray, List.getElem_cons_succ, List.getElem_cons_zero, Act.put, List.setIfInBounds_toArray, List.set_cons_zero, List.set_cons_succ]
  refine wpAnyH_take (i := 6) (v := ?_) rfl (by kernel_rfl) (by kernel_rfl) (by kernel_rfl) (fun _ _ _ h => h) (Or.inl ⟨by rfl, ?_⟩) (by assumption) ?_
  rotate_left
  · (intro wq hSw; (try dsimp only at hSw); (try simp only [List.getElem_toArray, List.getElem_cons_succ, List.getElem_cons_zero]); go_simp); try with_reducible rfl
  try simp only [List.getElem_toArray, List.getElem_cons_succ, List.getElem_cons_zero, Act.put, List.setIfInBounds_toArray, List.set_cons_zero, List.set_cons_succ]
  refine wpAnyH_take (i := 7) (v := ?_) rfl (by kernel_rfl) (by kernel_rfl) (by kernel_rfl) (fun _ _ _ h => h) (Or.inl ⟨by rfl, ?_⟩) (by assumption) ?_
  rotate_left
  · (intro wq hSw; (try dsimp only at hSw); (try simp only [List.getElem_toArray, List.getElem_cons_succ, List.getElem_cons_zero]); go_simp); try with_reducible rfl
  try simp only [List.getElem_toArray, List.getElem_cons_succ, List.getElem_cons_zero, Act.put, List.setIfInBounds_toArray, List.set_cons_zero, List.set_cons_succ]
  refine wpAnyH_take (i := 8) (v := ?_) rfl (by kernel_rfl) (by kernel_rfl) (by kernel_rfl) (fun _ _ _ h => h) (Or.inl ⟨by rfl, ?_⟩) (by assumption) ?_
  rotate_left
  · (intro wq hSw; (try dsimp only at hSw); (try simp only [List.getElem_toArray, List.getElem_cons_succ, List.getElem_cons_zero]); go_simp); try with_reducible rfl
  try simp only [List.getElem_toArray, List.getElem_cons_succ, List.getElem_cons_zero, Act.put, List.setIfInBounds_toArray, List.set_cons_zero, List.set_cons_succ]
  refine wpAnyH_take (i := 9) (v := ?_) rfl (by kernel_rfl) (by kernel_rfl) (by kernel_rfl) (fun _ _ _ h => h) (Or.inl ⟨by rfl, ?_⟩) (by assumption) ?_
  rotate_left
  · (intro wq hSw; (try dsimp only at hSw); (try simp only [List.getElem_toArray, List.getElem_cons_succ, List.getElem_cons_zero]); go_simp); try with_reducible rfl
  try simp only [List.getElem_toArray, List.getElem_cons_succ, List.getElem_cons_zero, Act.put, List.setIfInBounds_toArray, List.set_cons_zero, List.set_cons_succ]
  refine wpAnyH_take (i := 10) (v := ?_) rfl (by kernel_rfl) (by kernel_rfl) (by kernel_rfl) (fun _ _ _ h => h) (Or.inl ⟨by rfl, ?_⟩) (by assumption) ?_
  rotate_left
  · (intro wq hSw; (try dsimp only at hSw); (try simp only [List.getElem_toArray, List.getElem_cons_succ, List.getElem_cons_zero]); go_simp); try with_reducible rfl
  try simp only [List.getElem_toArray, List.getElem_cons_succ, List.getElem_cons_zero, Act.put, List.setIfInBounds_toArray, List.set_cons_zero, List.set_cons_succ]
  refine wpAnyH_take (i := 11) (v := ?_) rfl (by kernel_rfl) (by kernel_rfl) (by kernel_rfl) (fun _ _ _ h => h) (Or.inl ⟨by rfl, ?_⟩) (by assumption) ?_
  rotate_left
  · (intro wq hSw; (try dsimp only at hSw); (try simp only [List.getElem_toArray, List.getElem_cons_succ, List.getElem_cons_zero]); go_simp); try with_reducible rfl
  try simp only [List.getElem_toArray, List.getElem_cons_succ, List.getElem_cons_zero, Act.put, List.setIfInBounds_toArray, List.set_cons_zero, List.set_cons_succ]
  refine wpAnyH_take (i := 12) (v := ?_) rfl (by kernel_rfl) (by kernel_rfl) (by kernel_rfl) (fun _ _ _ h => h) (Or.inl ⟨by rfl, ?_⟩) (by assumption) ?_
  rotate_left
  · (intro wq hSw; (try dsimp only at hSw); (try simp only [List.getElem_toArray, List.getElem_cons_succ, List.getElem_cons_zero]); go_simp); try with_reducible rfl
  try simp only [List.getElem_toArray, List.getElem_cons_succ, List.getElem_cons_zero, Act.put, List.setIfInBounds_toArray, List.set_cons_zero, List.set_cons_succ]
  refine wpAnyH_take (i := 15) (v := ?_) rfl (by kernel_rfl) (by kernel_rfl) (by kernel_rfl) (fun _ _ _ h => h) (Or.inl ⟨by rfl, ?_⟩) (by assumption) ?_
  rotate_left
  · (intro wq hSw; (try dsimp only at hSw); (try simp only [List.getElem_toArray, List.getElem_cons_succ, List.getElem_cons_zero]); go_simp); try with_reducible rfl
  try simp only [List.getElem_toArray, List.getElem_cons_succ, List.getElem_cons_zero, Act.put, List.setIfInBounds_toArray, List.set_cons_zero, List.set_cons_succ]
  refine wpAnyH_take (i := 16) (v := ?_) rfl (by kernel_rfl) (by kernel_rfl) (by kernel_rfl) (fun _ _ _ h => h) (Or.inl ⟨by rfl, ?_⟩) (by assumption) ?_
  rotate_left
  · (intro wq hSw; (try dsimp only at hSw); (try simp only [List.getElem_toArray, List.getElem_cons_succ, List.getElem_cons_zero]); go_simp); try with_reducible rfl
  try simp only [List.getElem_toArray, List.getElem_cons_succ, List.getElem_cons_zero, Act.put, List.setIfInBounds_toArray, List.set_cons_zero, List.set_cons_succ]
  refine wpAnyH_ready (rs := [13]) (by kernel_rfl) (by simp) ?_
  refine AllReadyH.cons rfl (fun K hK => ?_) AllReadyH.nil
  try simp only [List.getElem_toArray, List.getElem_cons_succ, List.getElem_cons_zero]
  go_simp
  refine (stored_bad (Lib.hid (D2.out.below hHeld)) z hnr).mono ?_
  rintro e w3 ⟨rfl, t3⟩
  have tq := below_then t3 (by assumption)
  try (go_wp2_with fail)
  refine hK.out _ _ (by first | exact (Below.refl _ _).drew | exact Below.refl _ _ | assumption) (fun hHeld => ?_)
  clear hK K
  try simp only [List.getElem_toArray, List.getElem_cons_succ, List.getElem_cons_zero, Act.put, List.setIfInBounds_toArray, List.set_cons_zero, List.set_cons_succ]
  refine wpAnyH_take (i := 14) (v := ?_) rfl (by kernel_rfl) (by kernel_rfl) (by kernel_rfl) (fun _ _ _ h => h) (Or.inl ⟨by rfl, ?_⟩) (by assumption) ?_
  rotate_left
  · (intro wq hSw; (try dsimp only at hSw); (try simp only [List.getElem_toArray, List.getElem_cons_succ, List.getElem_cons_zero]); go_simp); try with_reducible rfl
  try simp only [List.getElem_toArray, List.getElem_cons_succ, List.getElem_cons_zero, Act.put, List.setIfInBounds_toArray, List.set_cons_zero, List.set_cons_succ]
  refine wpAnyH_ready (rs := [17]) (by kernel_rfl) (by simp) ?_
  refine AllReadyH.cons rfl (fun K hK => ?_) AllReadyH.nil
  try simp only [List.getElem_toArray, List.getElem_cons_succ, List.getElem_cons_zero]
  go_simp
  refine (rstored_gone (Lib.hid (R2.out.below hHeld)) hg z).mono ?_
  rintro e w4 ⟨rfl, t4⟩
  have tq4 := below_then t4 (by assumption)
  try (go_wp2_with fail)
  refine hK.out _ _ (by first | exact (Below.refl _ _).drew | exact Below.refl _ _ | assumption) (fun hHeld => ?_)
  clear hK K
  try simp only [List.getElem_toArray, List.getElem_cons_succ, List.getElem_cons_zero, Act.put, List.setIfInBounds_toArray, List.set_cons_zero, List.set_cons_succ]
  refine wpAnyH_take (i := 18) (v := ?_) rfl (by kernel_rfl) (by kernel_rfl) (by kernel_rfl) (fun _ _ _ h => h) (Or.inl ⟨by rfl, ?_⟩) (by assumption) ?_
  rotate_left
  · (intro wq hSw; (try dsimp only at hSw); (try simp only [List.getElem_toArray, List.getElem_cons_succ, List.getElem_cons_zero]); go_simp); try with_reducible rfl
  try simp only [List.getElem_toArray, List.getElem_cons_succ, List.getElem_cons_zero, Act.put, List.setIfInBounds_toArray, List.set_cons_zero, List.set_cons_succ]
  refine wpAnyH_take (i := 19) (v := ?_) rfl (by kernel_rfl) (by kernel_rfl) (by kernel_rfl) (fun _ _ _ h => h) (Or.inl ⟨by rfl, ?_⟩) (by assumption) ?_
  rotate_left
  · (intro wq hSw; (try dsimp only at hSw); (try simp only [List.getElem_toArray, List.getElem_cons_succ, List.getElem_cons_zero]); go_simp); try with_reducible rfl
  try simp only [List.getElem_toArray, List.getElem_cons_succ, List.getElem_cons_zero, Act.put, List.setIfInBounds_toArray, List.set_cons_zero, List.set_cons_succ]
  refine wpAnyH_take (i := 20) (v := ?_) rfl (by kernel_rfl) (by kernel_rfl) (by kernel_rfl) (fun _ _ _ h => h) (Or.inl ⟨by rfl, ?_⟩) (by assumption) ?_
  rotate_left
  · (intro wq hSw; (try dsimp only at hSw); (try simp only [List.getElem_toArray, List.getElem_cons_succ, List.getElem_cons_zero]); go_simp); try with_reducible rfl
  try simp only [List.getElem_toArray, List.getElem_cons_succ, List.getElem_cons_zero, Act.put, List.setIfInBounds_toArray, List.set_cons_zero, List.set_cons_succ]
  refine wpAnyH_take (i := 21) (v := ?_) rfl (by kernel_rfl) (by kernel_rfl) (by kernel_rfl) (fun _ _ _ h => h) (Or.inl ⟨by rfl, ?_⟩) (by assumption) ?_
  rotate_left
  · (intro wq hSw; (try dsimp only at hSw); (try simp only [List.getElem_toArray, List.getElem_cons_succ, List.getElem_cons_zero]); go_simp); try with_reducible rfl
  try simp only [List.getElem_toArray, List.getElem_cons_succ, List.getElem_cons_zero, Act.put, List.setIfInBounds_toArray, List.set_cons_zero, List.set_cons_succ]
  refine wpAnyH_take (i := 22) (v := ?_) rfl (by kernel_rfl) (by kernel_rfl) (by kernel_rfl) (fun _ _ _ h => h) (Or.inl ⟨by rfl, ?_⟩) (by assumption) ?_
  rotate_left
  · (intro wq hSw; (try dsimp only at hSw); (try simp only [List.getElem_toArray, List.getElem_cons_succ, List.getElem_cons_zero]); go_simp); try with_reducible rfl
  try simp only [List.getElem_toArray, List.getElem_cons_succ, List.getElem_cons_zero, Act.put, List.setIfInBounds_toArray, List.set_cons_zero, List.set_cons_succ]
  refine wpAnyH_take (i := 23) (v := ?_) rfl (by kernel_rfl) (by kernel_rfl) (by kernel_rfl) (fun _ _ _ h => h) (Or.inl ⟨by rfl, ?_⟩) (by assumption) ?_
  rotate_left
  · (intro wq hSw; (try dsimp only at hSw); (try simp only [List.getElem_toArray, List.getElem_cons_succ, List.getElem_cons_zero]); go_simp); try with_reducible rfl
  try simp only [List.getElem_toArray, List.getElem_cons_succ, List.getElem_cons_zero, Act.put, List.setIfInBounds_toArray, List.set_cons_zero, List.set_cons_succ]
  refine wpAnyH_take (i := 25) (v := ?_) rfl (by kernel_rfl) (by kernel_rfl) (by kernel_rfl) (fun _ _ _ h => h) (Or.inl ⟨by rfl, ?_⟩) (by assumption) ?_
  rotate_left
  · (intro wq hSw; (try dsimp only at hSw); (try simp only [List.getElem_toArray, List.getElem_cons_succ, List.getElem_cons_zero]); go_simp); try with_reducible rfl
  try simp only [List.getElem_toArray, List.getElem_cons_succ, List.getElem_cons_zero, Act.put, List.setIfInBounds_toArray, List.set_cons_zero, List.set_cons_succ]
  refine wpAnyH_take (i := 26) (v := ?_) rfl (by kernel_rfl) (by kernel_rfl) (by kernel_rfl) (fun _ _ _ h => h) (Or.inl ⟨by rfl, ?_⟩) (by assumption) ?_
  rotate_left
  · (intro wq hSw; (try dsimp only at hSw); (try simp only [List.getElem_toArray, List.getElem_cons_succ, List.getElem_cons_zero]); go_simp); try with_reducible rfl
  try simp only [List.getElem_toArray, List.getElem_cons_succ, List.getElem_cons_zero, Act.put, List.setIfInBounds_toArray, List.set_cons_zero, List.set_cons_succ]
  refine wpAnyH_ready (rs := [24]) (by kernel_rfl) (by simp) ?_
  refine AllReadyH.cons rfl (fun K hK => ?_) AllReadyH.nil
  try simp only [List.getElem_toArray, List.getElem_cons_succ, List.getElem_cons_zero]
  go_simp
  refine (rotten_dead (Lib.hid (D2.out.below hHeld)) hd z).mono ?_
  rintro e w5 ⟨rfl, t5⟩
  have tq5 := below_then t5 (by assumption)
  try (go_wp2_with fail)
  refine hK.out _ _ (by first | exact (Below.refl _ _).drew | exact Below.refl _ _ | assumption) (fun hHeld => ?_)
  clear hK K
  try simp only [List.getElem_toArray, List.getElem_cons_succ, List.getElem_cons_zero, Act.put, List.setIfInBounds_toArray, List.set_cons_zero, List.set_cons_succ]
  refine wpAnyH_ready (rs := [27]) (by kernel_rfl) (by simp) ?_
  refine AllReadyH.cons rfl (fun K hK => ?_) AllReadyH.nil
  try simp only [List.getElem_toArray, List.getElem_cons_succ, List.getElem_cons_zero]
  go_simp
  refine (rrotten_any (Lib.hid (R2.out.below hHeld)) z hcl).mono ?_
  rintro e w6 ⟨rfl, t6⟩
  have tq6 := below_then t6 (by assumption)
  rw [hrot.out]
  try (go_wp2_with fail)
  refine hK.out _ _ (by first | exact (Below.refl _ _).drew | exact Below.refl _ _ | assumption) (fun hHeld => ?_)
  clear hK K
  try simp only [List.getElem_toArray, List.getElem_cons_succ, List.getElem_cons_zero, Act.put, List.setIfInBounds_toArray, List.set_cons_zero, List.set_cons_succ]
  refine wpAnyH_take (i := 28) (v := ?_) rfl (by kernel_rfl) (by kernel_rfl) (by kernel_rfl) (fun _ _ _ h => h) (Or.inl ⟨by rfl, ?_⟩) (by assumption) ?_
  rotate_left
  · (intro wq hSw; (try dsimp only at hSw); (try simp only [List.getElem_toArray, List.getElem_cons_succ, List.getElem_cons_zero]); go_simp); try with_reducible rfl
  try simp only [List.getElem_toArray, List.getElem_cons_succ, List.getElem_cons_zero, Act.put, List.setIfInBounds_toArray, List.set_cons_zero, List.set_cons_succ]
  refine wpAnyH_take (i := 29) (v := ?_) rfl (by kernel_rfl) (by kernel_rfl) (by kernel_rfl) (fun _ _ _ h => h) (Or.inl ⟨by rfl, ?_⟩) (by assumption) ?_
  rotate_left
  · (intro wq hSw; (try dsimp only at hSw); (try simp only [List.getElem_toArray, List.getElem_cons_succ, List.getElem_cons_zero]); go_simp); try with_reducible rfl
  try simp only [List.getElem_toArray, List.getElem_cons_succ, List.getElem_cons_zero, Act.put, List.setIfInBounds_toArray, List.set_cons_zero, List.set_cons_succ]
  refine wpAnyH_take (i := 30) (v := ?_) rfl (by kernel_rfl) (by kernel_rfl) (by kernel_rfl) (fun _ _ _ h => h) (Or.inl ⟨by rfl, ?_⟩) (by assumption) ?_
  rotate_left
  · (intro wq hSw; (try dsimp only at hSw); (try simp only [List.getElem_toArray, List.getElem_cons_succ, List.getElem_cons_zero]); go_simp); try with_reducible rfl
  try simp only [List.getElem_toArray, List.getElem_cons_succ, List.getElem_cons_zero, Act.put, List.setIfInBounds_toArray, List.set_cons_zero, List.set_cons_succ]
  refine wpAnyH_done (by kernel_rfl) ?_ _
  go_wp2_with fail
  go_ret
  exact ⟨rfl, T2.out.trans (tq6.mono hws)⟩
end Go.Proofs.Ytolmpopjonkfgaa

set_option linter.unusedSimpArgs false
set_option linter.unusedVariables false
namespace Go.Proofs.Ytolmpopjonkfgaa
open Go.RowKit Go.Cib
attribute [local go_sem] cell_set Later.cell Later.frozen Grw.cell Grw.frozen
attribute [local go_sem ↓] run_min_as run_max_as

/-- An act, as it lies. -/
def ActR (S : Nat → Prop) (w : World) (cs : List Value) (a : ActV) : Prop := ∃ KA km kc BA bm bc, cs = [.int .i64 a.kind, .int .i64 a.at_, .int .i64 a.off, .int .u8 a.c, .int .u32 a.mask, .slice KA km kc, .slice BA bm bc] ∧ RdL BoolR 1 S w KA km a.keep ∧ RdL U8R 1 S w BA bm a.b
theorem ActR.stable : Stable ActR := by
  rintro S S' w w' cs e ⟨KA, km, kc, BA, bm, bc, rfl, h1, h2⟩ hk
  exact ⟨KA, km, kc, BA, bm, bc, rfl, h1.stable BoolR.stable hk, h2.stable U8R.stable hk⟩
theorem act_at {S : Nat → Prop} {w : World} {A : Option Addr} {m : Nat} {xs : List ActV} (h : RdL ActR 7 S w A m xs) {i : Nat} (hi : i < m) : ∃ b o a KA km kc BA bm bc, A = some ⟨b, o, none⟩ ∧ xs[i]? = some a ∧ RdL BoolR 1 S w KA km a.keep ∧ RdL U8R 1 S w BA bm a.b ∧
    ∀ w', Below w.heap.size w w' → w'.cell? ⟨b, o + i * 7, none⟩ = some (.int .i64 a.kind) ∧ w'.cell? ⟨b, o + i * 7 + 1, none⟩ = some (.int .i64 a.at_) ∧ w'.cell? ⟨b, o + i * 7 + 2, none⟩ = some (.int .i64 a.off) ∧ w'.cell? ⟨b, o + i * 7 + 3, none⟩ = some (.int .u8 a.c) ∧ w'.cell? ⟨b, o + i * 7 + 4, none⟩ = some (.int .u32 a.mask) ∧ w'.cell? ⟨b, o + i * 7 + 5, none⟩ = some (.slice KA km kc) ∧ w'.cell? ⟨b, o + i * 7 + 6, none⟩ = some (.slice BA bm bc) := by
  obtain ⟨b, o, rfl, _, hlt⟩ := h.addr hi
  obtain ⟨hl, cs, h1, h2, h3⟩ := h.at hi
  obtain ⟨KA, km, kc, BA, bm, bc, rfl, r1, r2⟩ := h2
  refine ⟨b, o, xs[i], KA, km, kc, BA, bm, bc, rfl, by simp [hl], r1, r2, fun w' hb => ?_⟩
  have hc : ∀ j v, _ → w'.cell? ⟨b, o + i * 7 + j, none⟩ = some v := fun j v hj => by rw [hb.cell (p := ⟨b, _, none⟩) hlt]; exact h3 j v hj
  exact ⟨hc 0 _ rfl, hc 1 _ rfl, hc 2 _ rfl, hc 3 _ rfl, hc 4 _ rfl, hc 5 _ rfl, hc 6 _ rfl⟩

def FewE (m : Nat) (e : Ending) : Prop := ∃ r : Bool, e = .returned (.bool r) ∧ (r = true → m ≤ 100)
set_option maxRecDepth 100000 in
set_option maxHeartbeats 4000000 in
theorem few_any {S : Nat → Prop} {w : World} {A : Option Addr} {m c : Nat} {xs : List ActV} (R : Hid (RdL ActR 7 S w A m xs)) :
    Calls Try.prog 23 #[.int .i64 0, .slice A m c] w fun e w' => FewE m e ∧ Below w.heap.size w w' := by
  go_enter Try.func23, Try.ntmps23
  go_wp2_with fail
  go_loopw [5, 6] (fun vl vi wr => ∃ (i : Nat) (L : Int), i ≤ m ∧ i ≤ 200 ∧ vl = .int .i64 L ∧ vi = .int .i64 i ∧ (4000 - 10000 * (i : Int) ≤ L ∧ L ≤ 4000) ∧ Hid (Below w.heap.size w wr)) (fun _ vi _ => 200 - (intOf vi).toNat)
  case atStart => exact ⟨0, 4000, Nat.zero_le _, by omega, rfl, rfl, by omega, Lib.hid (Below.refl _ _)⟩
  case round =>
    obtain ⟨i, L, hi, h200, rfl, rfl, hL, hb⟩ := hrel
    by_cases hlt : i < m ∧ i < 200
    · obtain ⟨b, o, a, KA, km, kc, BA, bm, bc, rfl, hx, _, _, hcells⟩ := act_at R.out hlt.1
      obtain ⟨_, _, _, _, _, y5, y6⟩ := hcells wr hb.out
      have h1 : (i : Int) < (m : Int) := by omega
      have h2 : (i : Int) < 200 := by omega
      have h3 : (0 : Int) ≤ (i : Int) := Int.natCast_nonneg _
      obtain ⟨k1, hk1⟩ : ∃ k, min (km : Int) 5000 = k := ⟨_, rfl⟩
      obtain ⟨k2, hk2⟩ : ∃ k, min (bm : Int) 5000 = k := ⟨_, rfl⟩
      have r1 : 0 ≤ k1 ∧ k1 ≤ 5000 := by omega
      have r2 : 0 ≤ k2 ∧ k2 ≤ 5000 := by omega
      have w1 : IntKind.i64.wrap (L - k1) = L - k1 := by rw [IntKind.wrap_i64]; omega
      have w2 : IntKind.i64.wrap (L - k1 - k2) = L - k1 - k2 := by rw [IntKind.wrap_i64]; omega
      have hL2 := Lib.hid hL
      have rr1 := Lib.hid r1
      have rr2 := Lib.hid r2
      clear hcells hL r1 r2
      go_wp2_with fail
      refine wp_region_held_drew (S := fun w' => w'.cell? ⟨b, o + i * 7 + 5, none⟩ = some (.slice KA km kc) ∧ w'.cell? ⟨b, o + i * 7 + 6, none⟩ = some (.slice BA bm bc)) (by kernel_rfl) (by exact ⟨y5, y6⟩) (fun hHeld => ?_)
      refine wpAnyH_take (i := 0) (v := ?_) rfl (by kernel_rfl) (by kernel_rfl) (by kernel_rfl) (fun _ _ _ h => h) (Or.inl ⟨by rfl, ?_⟩) (by assumption) ?_
      rotate_left
      · (intro wq hSw; (try dsimp only at hSw); (try simp only [List.getElem_toArray, List.getElem_cons_succ, List.getElem_cons_zero]); go_simp); try with_reducible rfl
      try simp only [List.getElem_toArray, List.getElem_cons_succ, List.getElem_cons_zero, Act.put, List.setIfInBounds_toArray, List.set_cons_zero, List.set_cons_succ]
      refine wpAnyH_take (i := 1) (v := ?_) rfl (by kernel_rfl) (by kernel_rfl) (by kernel_rfl) (fun _ _ _ h => h) (Or.inl ⟨by rfl, ?_⟩) (by assumption) ?_
      rotate_left
      · (intro wq hSw; (try dsimp only at hSw); (try simp only [List.getElem_toArray, List.getElem_cons_succ, List.getElem_cons_zero]); go_simp); try with_reducible rfl
      try simp only [List.getElem_toArray, List.getElem_cons_succ, List.getElem_cons_zero, Act.put, List.setIfInBounds_toArray, List.set_cons_zero, List.set_cons_succ]
      refine wpAnyH_take (i := 2) (v := ?_) rfl (by kernel_rfl) (by kernel_rfl) (by kernel_rfl) (fun _ _ _ h => h) (Or.inl ⟨by rfl, ?_⟩) (by assumption) ?_
      rotate_left
      · (intro wq hSw; (try dsimp only at hSw); (try simp only [List.getElem_toArray, List.getElem_cons_succ, List.getElem_cons_zero]); go_simp); try with_reducible rfl
      try simp only [List.getElem_toArray, List.getElem_cons_succ, List.getElem_cons_zero, Act.put, List.setIfInBounds_toArray, List.set_cons_zero, List.set_cons_succ]
      refine wpAnyH_take (i := 3) (v := ?_) rfl (by kernel_rfl) (by kernel_rfl) (by kernel_rfl) (fun _ _ _ h => h) (Or.inl ⟨by rfl, ?_⟩) (by assumption) ?_
      rotate_left
      · (intro wq hSw; (try dsimp only at hSw); (try simp only [List.getElem_toArray, List.getElem_cons_succ, List.getElem_cons_zero]); go_simp); try with_reducible rfl
      try simp only [List.getElem_toArray, List.getElem_cons_succ, List.getElem_cons_zero, Act.put, List.setIfInBounds_toArray, List.set_cons_zero, List.set_cons_succ]
      refine wpAnyH_take (i := 4) (v := ?_) rfl (by kernel_rfl) (by kernel_rfl) (by kernel_rfl) (fun _ _ _ h => h) (Or.inl ⟨by rfl, ?_⟩) (by assumption) ?_
      rotate_left
      · (intro wq hSw; (try dsimp only at hSw); (try simp only [List.getElem_toArray, List.getElem_cons_succ, List.getElem_cons_zero]); go_simp); try with_reducible rfl
      try simp only [List.getElem_toArray, List.getElem_cons_succ, List.getElem_cons_zero, Act.put, List.setIfInBounds_toArray, List.set_cons_zero, List.set_cons_succ]
      refine wpAnyH_take (i := 5) (v := ?_) rfl (by kernel_rfl) (by kernel_rfl) (by kernel_rfl) (fun _ _ _ h => h) (Or.inl ⟨by rfl, ?_⟩) (by assumption) ?_
      rotate_left
      · (intro wq hSw; (try dsimp only at hSw); (try simp only [List.getElem_toArray, List.getElem_cons_succ, List.getElem_cons_zero]); go_simp); try with_reducible rfl
      try simp only [List.getElem_toArray, List.getElem_cons_succ, List.getElem_cons_zero, Act.put, List.setIfInBounds_toArray, List.set_cons_zero, List.set_cons_succ]
      refine wpAnyH_take (i := 6) (v := ?_) rfl (by kernel_rfl) (by kernel_rfl) (by kernel_rfl) (fun _ _ _ h => h) (Or.inl ⟨by rfl, ?_⟩) (by assumption) ?_
      rotate_left
      · (intro wq hSw; (try dsimp only at hSw); (try simp only [List.getElem_toArray, List.getElem_cons_succ, List.getElem_cons_zero]); go_simp); try with_reducible rfl
      try simp only [List.getElem_toArray, List.getElem_cons_succ, List.getElem_cons_zero, Act.put, List.setIfInBounds_toArray, List.set_cons_zero, List.set_cons_succ]
      refine wpAnyH_take (i := 7) (v := ?_) rfl (by kernel_rfl) (by kernel_rfl) (by kernel_rfl) (fun _ _ _ h => h) (Or.inl ⟨by rfl, ?_⟩) (by assumption) ?_
      rotate_left
      · (intro wq hSw; (try dsimp only at hSw); (try simp only [List.getElem_toArray, List.getElem_cons_succ, List.getElem_cons_zero]); go_simp); try with_reducible rfl
      try simp only [List.getElem_toArray, List.getElem_cons_succ, List.getElem_cons_zero, Act.put, List.setIfInBounds_toArray, List.set_cons_zero, List.set_cons_succ]
      refine wpAnyH_take (i := 8) (v := ?_) rfl (by kernel_rfl) (by kernel_rfl) (by kernel_rfl) (fun _ _ _ h => h) (Or.inl ⟨by rfl, ?_⟩) (by assumption) ?_
      rotate_left
      · (intro wq hSw; (try dsimp only at hSw); (try simp only [List.getElem_toArray, List.getElem_cons_succ, List.getElem_cons_zero]); go_simp); try with_reducible rfl
      try simp only [List.getElem_toArray, List.getElem_cons_succ, List.getElem_cons_zero, Act.put, List.setIfInBounds_toArray, List.set_cons_zero, List.set_cons_succ]
      refine wpAnyH_take (i := 9) (v := ?_) rfl (by kernel_rfl) (by kernel_rfl) (by kernel_rfl) (fun _ _ _ h => h) (Or.inl ⟨by rfl, ?_⟩) (by assumption) ?_
      rotate_left
      · (intro wq hSw; (try dsimp only at hSw); (try simp only [List.getElem_toArray, List.getElem_cons_succ, List.getElem_cons_zero]); go_simp); try with_reducible rfl
      try simp only [List.getElem_toArray, List.getElem_cons_succ, List.getElem_cons_zero, Act.put, List.setIfInBounds_toArray, List.set_cons_zero, List.set_cons_succ]
      refine wpAnyH_take (i := 10) (v := ?_) rfl (by kernel_rfl) (by kernel_rfl) (by kernel_rfl) (fun _ _ _ h => h) (Or.inl ⟨by rfl, ?_⟩) (by assumption) ?_
      rotate_left
      · (intro wq hSw; (try dsimp only at hSw); (try simp only [List.getElem_toArray, List.getElem_cons_succ, List.getElem_cons_zero]); go_simp); try with_reducible rfl
      try simp only [List.getElem_toArray, List.getElem_cons_succ, List.getElem_cons_zero, Act.put, List.setIfInBounds_toArray, List.set_cons_zero, List.set_cons_succ]
      refine wpAnyH_take (i := 11) (v := ?_) rfl (by kernel_rfl) (by kernel_rfl) (by kernel_rfl) (fun _ _ _ h => h) (Or.inl ⟨by rfl, ?_⟩) (by assumption) ?_
      rotate_left
      · (intro wq hSw; (try dsimp only at hSw); (try simp only [List.getElem_toArray, List.getElem_cons_succ, List.getElem_cons_zero]); go_simp); try with_reducible rfl
      try simp only [List.getElem_toArray, List.getElem_cons_succ, List.getElem_cons_zero, Act.put, List.setIfInBounds_toArray, List.set_cons_zero, List.set_cons_succ]
      refine wpAnyH_take (i := 12) (v := ?_) rfl (by kernel_rfl) (by kernel_rfl) (by kernel_rfl) (fun _ _ _ h => h) (Or.inl ⟨by rfl, ?_⟩) (by assumption) ?_
      rotate_left
      · (intro wq hSw; (try dsimp only at hSw); (try simp only [List.getElem_toArray, List.getElem_cons_succ, List.getElem_cons_zero]); go_simp); try with_reducible rfl
      try simp only [List.getElem_toArray, List.getElem_cons_succ, List.getElem_cons_zero, Act.put, List.setIfInBounds_toArray, List.set_cons_zero, List.set_cons_succ]
      refine wpAnyH_take (i := 13) (v := ?_) rfl (by kernel_rfl) (by kernel_rfl) (by kernel_rfl) (fun _ _ _ h => h) (Or.inl ⟨by rfl, ?_⟩) (by assumption) ?_
      rotate_left
      · (intro wq hSw; (try dsimp only at hSw); (try simp only [List.getElem_toArray, List.getElem_cons_succ, List.getElem_cons_zero]); go_simp); try with_reducible rfl
      try simp only [List.getElem_toArray, List.getElem_cons_succ, List.getElem_cons_zero, Act.put, List.setIfInBounds_toArray, List.set_cons_zero, List.set_cons_succ]
      refine wpAnyH_take (i := 14) (v := ?_) rfl (by kernel_rfl) (by kernel_rfl) (by kernel_rfl) (fun _ _ _ h => h) (Or.inl ⟨by rfl, ?_⟩) (by assumption) ?_
      rotate_left
      · (intro wq hSw; (try dsimp only at hSw); (try simp only [List.getElem_toArray, List.getElem_cons_succ, List.getElem_cons_zero]); go_simp); try with_reducible rfl
      try simp only [List.getElem_toArray, List.getElem_cons_succ, List.getElem_cons_zero, Act.put, List.setIfInBounds_toArray, List.set_cons_zero, List.set_cons_succ]
      refine wpAnyH_take (i := 15) (v := ?_) rfl (by kernel_rfl) (by kernel_rfl) (by kernel_rfl) (fun _ _ _ h => h) (Or.inl ⟨by rfl, ?_⟩) (by assumption) ?_
      rotate_left
      · (intro wq hSw; (try dsimp only at hSw); (try simp only [List.getElem_toArray, List.getElem_cons_succ, List.getElem_cons_zero]); go_simp); try with_reducible rfl
      try simp only [List.getElem_toArray, List.getElem_cons_succ, List.getElem_cons_zero, Act.put, List.setIfInBounds_toArray, List.set_cons_zero, List.set_cons_succ]
      refine wpAnyH_take (i := 16) (v := ?_) rfl (by kernel_rfl) (by kernel_rfl) (by kernel_rfl) (fun _ _ _ h => h) (Or.inl ⟨by rfl, ?_⟩) (by assumption) ?_
      rotate_left
      · (intro wq hSw; (try dsimp only at hSw); (try simp only [List.getElem_toArray, List.getElem_cons_succ, List.getElem_cons_zero]); go_simp); try with_reducible rfl
      try simp only [List.getElem_toArray, List.getElem_cons_succ, List.getElem_cons_zero, Act.put, List.setIfInBounds_toArray, List.set_cons_zero, List.set_cons_succ]
      refine wpAnyH_take (i := 17) (v := ?_) rfl (by kernel_rfl) (by kernel_rfl) (by kernel_rfl) (fun _ _ _ h => h) (Or.inl ⟨by rfl, ?_⟩) (by assumption) ?_
      rotate_left
      · (intro wq hSw; (try dsimp only at hSw); (try simp only [List.getElem_toArray, List.getElem_cons_succ, List.getElem_cons_zero]); go_simp); try with_reducible rfl
      try simp only [List.getElem_toArray, List.getElem_cons_succ, List.getElem_cons_zero, Act.put, List.setIfInBounds_toArray, List.set_cons_zero, List.set_cons_succ]
      refine wpAnyH_done (by kernel_rfl) ?_ _
      go_wp2_with fail
      have := hL2.out; have := rr1.out; have := rr2.out
      exact ⟨⟨i + 1, L - k1 - k2, by omega, by omega, rfl, by go_num, by omega, Lib.hid hb.out.drew⟩, by simp [intOf]; omega⟩
    · by_cases him : i < m
      · have h1 : (i : Int) < (m : Int) := by omega
        have h2 : ¬ (i : Int) < 200 := by omega
        have h3 : ¬ (m : Int) ≤ 100 := by omega
        go_wp2_with fail
        go_ret
        exact ⟨⟨false, rfl, fun h => by cases h⟩, hb.out⟩
      · have h1 : ¬ (i : Int) < (m : Int) := by omega
        by_cases hm : m ≤ 100
        · have h3 : (m : Int) ≤ 100 := by omega
          by_cases h0 : 0 ≤ L
          · go_wp2_with fail
            go_ret
            exact ⟨⟨true, rfl, fun _ => hm⟩, hb.out⟩
          · go_wp2_with fail
            go_ret
            exact ⟨⟨false, rfl, fun _ => hm⟩, hb.out⟩
        · have h3 : ¬ (m : Int) ≤ 100 := by omega
          go_wp2_with fail
          go_ret
          exact ⟨⟨false, rfl, fun h => by cases h⟩, hb.out⟩
end Go.Proofs.Ytolmpopjonkfgaa

set_option linter.unusedSimpArgs false
set_option linter.unusedVariables false
namespace Go.Proofs.Ytolmpopjonkfgaa
open Go.RowKit Go.Cib
attribute [local go_sem] cell_set Later.cell Later.frozen Grw.cell Grw.frozen

structure Sim (n : Nat) (st : DSt) (rs : RSt) : Prop where
  dead : st.dead = rs.gone
  cache : st.cache = rs.wait.map (fun e => (e.at_, e.b))
  stored : st.dead = false → ∀ k : Nat, k < n → st.stored[k]? = some (storedE rs.L k)
  rotten : st.dead = false → ∀ k : Nat, k < n → st.rotten[k]? = some (badE rs.L k)
  ok : ∀ e ∈ rs.L, EvOk e
  okw : ∀ e ∈ rs.wait, e.mask = 0 ∧ e.b.length = 64

theorem snoc_ind {α : Type} {M : List α → Prop} (h0 : M []) (h1 : ∀ l x, M l → M (l ++ [x])) : ∀ l, M l := by
  have h : ∀ l : List α, M l.reverse := fun l => by
    induction l with
    | nil => exact h0
    | cons x l ih => rw [List.reverse_cons]; exact h1 _ _ ih
  intro l
  have := h l.reverse
  rwa [List.reverse_reverse] at this
theorem seen_wait (st : DSt) (k : Nat) : ∀ l : List Ev, ({ st with cache := l.map (fun e => (e.at_, e.b)) } : DSt).seen k = waitE l k ((st.stored[k]?).getD []) := by
  refine snoc_ind ?_ ?_
  · exact DSt.seen_nil rfl k
  · intro l e ih
    rw [waitE_snoc, ← ih, List.map_append]
    exact DSt.seen_write (st := { st with cache := l.map (fun e => (e.at_, e.b)) }) (k := e.at_) (s := e.b) (j := k)
theorem Sim.seen {n : Nat} {st : DSt} {rs : RSt} (h : Sim n st rs) (hd : st.dead = false) {k : Nat} (hk : k < n) : seenE rs k = st.seen k := by
  have := seen_wait st k rs.wait
  rw [← h.cache] at this
  have e : ({ st with cache := st.cache } : DSt) = st := rfl
  rw [e, h.stored hd k hk] at this
  rw [this]; rfl
theorem Sim.new (n : Nat) : Sim n (DSt.new n) RSt.new := by
  refine ⟨rfl, rfl, fun _ k hk => ?_, fun _ k hk => ?_, by simp [RSt.new], by simp [RSt.new]⟩
  · simp [DSt.new, hk]; rfl
  · simp [DSt.new, hk]; rfl
theorem put_sim (keep : Nat → Bool) (n : Nat) : ∀ (l : List Ev) (i : Nat) (xs : List (List Int)) (L : List Ev), xs.length = n → (∀ e ∈ l, e.mask = 0 ∧ 0 ≤ e.at_ ∧ e.at_ < n) → (∀ k : Nat, k < n → xs[k]? = some (storedE L k)) →
    ∀ k : Nat, k < n → (putL keep i (l.map (fun e => (e.at_, e.b))) xs)[k]? = some (storedE (L ++ keptE keep i l) k)
  | [], i, xs, L, _, _, h, k, hk => by simpa [putL, keptE] using h k hk
  | e :: l, i, xs, L, hl, he, h, k, hk => by
    have he1 := he e (by simp)
    rw [List.map_cons, putL, keptE]
    by_cases hki : keep i = true
    · rw [if_pos hki, if_pos hki, show L ++ e :: keptE keep (i + 1) l = (L ++ [e]) ++ keptE keep (i + 1) l by simp]
      refine put_sim keep n l (i + 1) _ (L ++ [e]) (by simpa using hl) (fun d hd => he d (List.mem_cons_of_mem _ hd)) (fun j hj => ?_) k hk
      rw [storedE_snoc, if_pos he1.1]
      by_cases hj2 : e.at_ = j
      · rw [if_pos hj2, show e.at_.toNat = j by omega]; simp [hl, hj]
      · rw [if_neg hj2, List.getElem?_set_ne (by show e.at_.toNat ≠ j; omega)]; exact h j hj
    · rw [if_neg hki, if_neg hki]
      exact put_sim keep n l (i + 1) xs L hl (fun d hd => he d (List.mem_cons_of_mem _ hd)) h k hk
theorem fresh_sim (keep : Nat → Bool) (n : Nat) : ∀ (l : List Ev) (i : Nat) (xs : List Bool) (L : List Ev), xs.length = n → (∀ e ∈ l, e.mask = 0 ∧ 0 ≤ e.at_ ∧ e.at_ < n) → (∀ k : Nat, k < n → xs[k]? = some (badE L k)) →
    ∀ k : Nat, k < n → (freshL keep i (l.map (fun e => (e.at_, e.b))) xs)[k]? = some (badE (L ++ keptE keep i l) k)
  | [], i, xs, L, _, _, h, k, hk => by simpa [freshL, keptE] using h k hk
  | e :: l, i, xs, L, hl, he, h, k, hk => by
    have he1 := he e (by simp)
    rw [List.map_cons, freshL, keptE]
    by_cases hki : keep i = true
    · rw [if_pos hki, if_pos hki, show L ++ e :: keptE keep (i + 1) l = (L ++ [e]) ++ keptE keep (i + 1) l by simp]
      refine fresh_sim keep n l (i + 1) _ (L ++ [e]) (by simpa using hl) (fun d hd => he d (List.mem_cons_of_mem _ hd)) (fun j hj => ?_) k hk
      rw [badE_snoc, he1.1]
      by_cases hj2 : e.at_ = j
      · rw [if_pos hj2, show e.at_.toNat = j by omega]; simp [hl, hj]
      · rw [if_neg hj2, List.getElem?_set_ne (by show e.at_.toNat ≠ j; omega)]; exact h j hj
    · rw [if_neg hki, if_neg hki]
      exact fresh_sim keep n l (i + 1) xs L hl (fun d hd => he d (List.mem_cons_of_mem _ hd)) h k hk
theorem keptE_mem (keep : Nat → Bool) : ∀ (l : List Ev) (i : Nat) (e : Ev), e ∈ keptE keep i l → e ∈ l
  | [], i, e, h => by simp [keptE] at h
  | d :: l, i, e, h => by
    rw [keptE] at h
    split at h
    · rcases List.mem_cons.1 h with h | h
      · simp [h]
      · exact List.mem_cons_of_mem _ (keptE_mem keep l _ e h)
    · exact List.mem_cons_of_mem _ (keptE_mem keep l _ e h)
theorem keptE_true : ∀ (l : List Ev) (i : Nat), keptE (fun _ => true) i l = l
  | [], i => rfl
  | d :: l, i => by rw [keptE, if_pos rfl, keptE_true l]
theorem Sim.settle {n : Nat} {st : DSt} {rs : RSt} (h : Sim n st rs) (hok : st.ok n) (keep : Nat → Bool) : Sim n (st.settle keep) { rs with L := rs.L ++ keptE keep 0 rs.wait, wait := [] } := by
  have hw : ∀ e ∈ rs.wait, e.mask = 0 ∧ 0 ≤ e.at_ ∧ e.at_ < n := fun e he => by
    have := hok.cat (e.at_, e.b) (by rw [h.cache]; exact List.mem_map.2 ⟨e, he, rfl⟩)
    exact ⟨(h.okw e he).1, this.1, this.2⟩
  refine ⟨h.dead, rfl, fun hd k hk => ?_, fun hd k hk => ?_, fun e he => ?_, by simp⟩
  · show (putL keep 0 st.cache st.stored)[k]? = _
    rw [h.cache]
    exact put_sim keep n rs.wait 0 st.stored rs.L hok.sl hw (h.stored hd) k hk
  · show (freshL keep 0 st.cache st.rotten)[k]? = _
    rw [h.cache]
    exact fresh_sim keep n rs.wait 0 st.rotten rs.L hok.rl hw (h.rotten hd) k hk
  · rcases List.mem_append.1 he with h1 | h1
    · exact h.ok e h1
    · exact .inl (h.okw e (keptE_mem keep _ _ e h1))
theorem Sim.write {n : Nat} {st : DSt} {rs : RSt} (h : Sim n st rs) (z : Int) (bs : List Int) : Sim n (wrD n st z bs) (wrR n rs z bs) := by
  unfold wrD wrR
  by_cases hc : readyE st.dead n z = 0 ∧ bs.length = 64
  · have hr := (ready_iff st n z).1 hc.1
    rw [if_pos hc, if_pos (show wrOk rs n z bs.length from ⟨h.dead ▸ hr.1, hr.2, hc.2⟩)]
    refine ⟨h.dead, by simp [DSt.write, h.cache], h.stored, h.rotten, h.ok, fun e he => ?_⟩
    rcases List.mem_append.1 he with h1 | h1
    · exact h.okw e h1
    · simp only [List.mem_singleton] at h1; subst h1; exact ⟨rfl, hc.2⟩
  · rw [if_neg hc, if_neg (fun hw : wrOk rs n z bs.length => hc ⟨(ready_iff st n z).2 ⟨h.dead.trans hw.1, hw.2.1⟩, hw.2.2⟩)]
    exact h
theorem Sim.flush {n : Nat} {st : DSt} {rs : RSt} (h : Sim n st rs) (hok : st.ok n) : Sim n (flD st) (flR rs) := by
  unfold flD flR
  by_cases hc : st.dead = false
  · rw [if_pos hc, if_pos (h.dead ▸ hc)]
    have := h.settle hok (fun _ => true)
    rwa [keptE_true] at this
  · rw [if_neg hc, if_neg (fun e => hc (h.dead.trans e))]
    exact h
theorem Sim.rot {n : Nat} {st : DSt} {rs : RSt} (h : Sim n st rs) (hok : st.ok n) (z off mask : Int) : Sim n (rtD n st z off mask) (rtR n rs z off mask) := by
  unfold rtD rtR
  have hb : st.dead = false → 0 ≤ z → z < n → st.rotten[z.toNat]? = some (badE rs.L z) := fun hd h0 hn => by
    have := h.rotten hd z.toNat (by omega)
    rwa [show ((z.toNat : Nat) : Int) = z by omega] at this
  by_cases hc : rotDOk st n z off mask
  · have hr : rrotOk rs n z off mask := ⟨h.dead ▸ hc.1.1, hc.1.2, hc.2.1.1, hc.2.1.2, by
      have := hb hc.1.1 hc.1.2.1 hc.1.2.2
      rw [hc.2.2] at this
      injection this with this
      exact this.symm⟩
    rw [if_pos hc, if_pos hr]
    obtain ⟨⟨hd, h0, hn⟩, ⟨ho, hm⟩, _⟩ := hc
    refine ⟨h.dead, h.cache, fun hd k hk => ?_, fun hd k hk => ?_, fun e he => ?_, h.okw⟩
    · show (st.stored.set z.toNat (rotTo ((st.stored[z.toNat]?).getD []) off.toNat mask 4))[k]? = _
      rw [storedE_snoc]
      by_cases hk2 : z = k
      · subst hk2
        have := h.stored hd k hk
        simp only [Int.toNat_natCast, ↓reduceIte, hm, this, Option.getD_some]
        rw [List.getElem?_set_self (by rw [hok.sl]; exact hk)]
      · rw [if_neg hk2, List.getElem?_set_ne (by omega)]
        exact h.stored hd k hk
    · show (st.rotten.set z.toNat true)[k]? = _
      rw [badE_snoc]
      by_cases hk2 : z = k
      · subst hk2
        have hmb : (mask == 0) = false := by simpa using hm
        simp only [Int.toNat_natCast, ↓reduceIte, hmb, Bool.not_false]
        rw [List.getElem?_set_self (by rw [hok.rl]; exact hk)]
      · rw [if_neg hk2, List.getElem?_set_ne (by omega)]
        exact h.rotten hd k hk
    · rcases List.mem_append.1 he with h1 | h1
      · exact h.ok e h1
      · simp only [List.mem_singleton] at h1; subst h1; exact .inr ⟨hm, ho⟩
  · rw [if_neg hc, if_neg (fun hr : rrotOk rs n z off mask => hc ⟨⟨h.dead.trans hr.1, hr.2.1⟩, ⟨hr.2.2.1, hr.2.2.2.1⟩, by
      have := hb (h.dead.trans hr.1) hr.2.1.1 hr.2.1.2
      rw [this, hr.2.2.2.2]⟩)]
    exact h
theorem Sim.act {n : Nat} {st : DSt} {rs : RSt} (h : Sim n st rs) (hok : st.ok n) (a : ActV) : Sim n (actD n st a) (actR n rs a) := by
  unfold actD actR
  split
  · exact h.write _ _
  split
  · exact h.flush hok
  split
  · exact h.settle hok _
  split
  · exact ⟨rfl, rfl, fun hd => by simp [DSt.gone] at hd, fun hd => by simp [DSt.gone] at hd, by simp, by simp⟩
  split
  · exact Sim.new n
  split
  · exact h.rot hok _ _ _
  split
  · exact h.write _ _
  · exact h
/-- How much was done. -/
def RSt.size (rs : RSt) : Nat := rs.L.length + rs.wait.length
theorem wrR_size (n : Nat) (rs : RSt) (z : Int) (bs : List Int) : (wrR n rs z bs).size ≤ rs.size + 1 := by
  unfold wrR RSt.size
  split <;> simp <;> omega
theorem actR_size (n : Nat) (rs : RSt) (a : ActV) : (actR n rs a).size ≤ rs.size + 1 := by
  unfold actR
  split
  · exact wrR_size _ _ _ _
  split
  · unfold flR RSt.size; split <;> simp <;> omega
  split
  · have := keptE_len (keepOf a.keep) rs.wait 0
    simp [RSt.size]; omega
  split
  · simp [RSt.size]
  split
  · simp [RSt.size]
  split
  · unfold rtR RSt.size; split <;> simp <;> omega
  split
  · exact wrR_size _ _ _ _
  · omega
def stD (n : Nat) (st : DSt) (l : List ActV) : DSt := l.foldl (actD n) st
def stR (n : Nat) (rs : RSt) (l : List ActV) : RSt := l.foldl (actR n) rs
theorem stD_snoc (n : Nat) (st : DSt) (l : List ActV) (a : ActV) : stD n st (l ++ [a]) = actD n (stD n st l) a := by simp [stD]
theorem stR_snoc (n : Nat) (rs : RSt) (l : List ActV) (a : ActV) : stR n rs (l ++ [a]) = actR n (stR n rs l) a := by simp [stR]
end Go.Proofs.Ytolmpopjonkfgaa
