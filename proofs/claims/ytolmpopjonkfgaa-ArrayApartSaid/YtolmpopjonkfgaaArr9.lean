/-
  Drives side by side: Copy.
-/
import Derived.Test.YtolmpopjonkfgaaArr8
import Derived.Test.YtolmpopjonkfgaaRefD1
set_option linter.unusedSimpArgs false
set_option linter.unusedVariables false
namespace Go.Proofs.Ytolmpopjonkfgaa
open Go.RowKit Go.Cib
attribute [local go_sem] cell_set Later.cell Later.frozen Grw.cell Grw.frozen

section
variable {U : Nat → Prop} {w : World} {a s : Nat} {v : Value} {Fs : Nat → Nat → Prop} {ps : List Nat} {sts : List DSt}
def CopyE (w : World) (s : Nat) (sts : List DSt) (e : Ending) (w' : World) : Prop := ∃ a' U', e = .returned (.pointer (some ⟨a', 0, none⟩)) ∧ ArrAt U' w' a' s sts ∧ (∀ b, U' b → w.heap.size ≤ b) ∧ Below w.heap.size w w'
set_option maxRecDepth 100000 in
set_option maxHeartbeats 8000000 in
theorem acopy_any (h : Hid (ArrB U w a v Fs ps s sts)) (hk : 0 < sts.length) (hk2 : sts.length ≤ 255) (hcl : Hid (∀ st ∈ sts, st.cache.length < 1000000)) :
    Calls Try.prog 33 #[.pointer (some ⟨a, 0, none⟩)] w fun e w' => CopyE w s sts e w' := by
  obtain ⟨g, cc, rfl⟩ := arr_form h.out hk
  go_enter Try.func33, Try.ntmps33
  go_wp2_with fail
  refine (anone h hk).mono ?_
  rintro e w1 ⟨rfl, t1⟩
  have H1 := Lib.hid (h.out.below t1)
  have hE := ArrB.empty w1 s 106
  have bE : Below w1.heap.size w1 (w1.alloc (.cells #[.slice none 0 0] 106)) := (Below.refl _ _).alloc (Nat.le_refl _) _
  obtain ⟨w2, hw2⟩ : ∃ w2, w1.alloc (.cells #[.slice none 0 0] 106) = w2 := ⟨_, rfl⟩
  obtain ⟨cb, hcb⟩ : ∃ a, w1.heap.size = a := ⟨_, rfl⟩
  rw [hw2] at hE bE
  rw [hcb] at hE
  have HE := Lib.hid hE
  have H2 := Lib.hid (H1.out.below bE)
  have BE := Lib.hid (below_then bE t1)
  have hla : w.heap.size ≤ cb := by have := t1.size; omega
  have c0 := arr_c0 H2.out
  clear hE bE t1 H1
  go_wp2_with fail
  clear hw2
  go_loopw [15] (fun vi wr => ∃ (i : Nat) (U : Nat → Prop) (v : Value) (Fs : Nat → Nat → Prop) (ps : List Nat), i ≤ sts.length ∧ vi = .int .i64 i ∧ Hid (ArrB U wr cb v Fs ps s (sts.take i)) ∧ Hid (∀ b, U b → w.heap.size ≤ b) ∧ Hid (Below w.heap.size w wr)) (fun vi _ => sts.length - (intOf vi).toNat)
  case atStart => exact ⟨0, _, _, _, _, Nat.zero_le _, rfl, HE, Lib.hid (by rintro b rfl; exact hla), BE⟩
  case round =>
    clear HE BE c0 H2
    obtain ⟨wo, rfl⟩ : ∃ wo, wo = wr := ⟨_, rfl⟩
    obtain ⟨i, U2, v2, Fs2, ps2, hi, rfl, A, hU, K⟩ := hrel
    by_cases hlt : i < sts.length
    · obtain ⟨st, hst⟩ : ∃ st, sts[i]? = some st := ⟨_, List.getElem?_eq_getElem hlt⟩
      have H := Lib.hid (h.out.below K.out)
      obtain ⟨p, hp, hD, _⟩ := H.out.p_at hst
      have cg := arr_cg H.out hp
      have hcs : st.cache.length < 1000000 := hcl.out st (List.mem_of_getElem? hst)
      have h1 : (i : Int) < (sts.length : Int) := by omega
      have h2 : (0 : Int) ≤ (i : Int) := Int.natCast_nonneg _
      have h3 : (i : Int) < 600 := by omega
      have htk : sts.take (i + 1) = sts.take i ++ [st] := by rw [List.take_succ_eq_append_getElem hlt, (List.getElem?_eq_some_iff.1 hst).2]
      have hlen := A.out.len
      rw [List.length_take] at hlen
      have hlen2 : ps2.length = i := by omega
      obtain ⟨AA, c2, rfl, _⟩ := A.out.own.form
      have hps : ps2.length < 255 := by omega
      clear hlen2
      have q0 : wo.cell? ⟨cb, 0, none⟩ = some (.slice AA ps2.length c2) := A.out.box.cell 0
      have qd : wo.drew.cell? ⟨cb, 0, none⟩ = some (.slice AA ps2.length c2) := q0
      have z0 : wo.frozen? ⟨cb, 0, none⟩ = false := A.out.box.frozen 0
      have hlc : cb < wo.heap.size := A.out.box.lt
      have hne : some cb ≠ (Value.slice AA ps2.length c2).ownBlock := fun e => A.out.va e.symm
      have HD := Lib.hid (hD.below (Below.refl _ _).drew)
      have HTK := Lib.hid htk
      clear hD htk hst hp hlen
      go_wp2_with fail
      refine wp_region_held_drew (S := fun _ => True) (by kernel_rfl) (by trivial) (fun hHeld => ?_)
      refine wpAnyH_take (i := 0) (v := ?_) rfl (by kernel_rfl) (by kernel_rfl) (by kernel_rfl) (fun _ _ _ h => h) (Or.inl ⟨by rfl, ?_⟩) (by assumption) ?_
      rotate_left
      · (intro wq hSw; (try dsimp only at hSw); (try simp only [List.getElem_toArray, List.getElem_cons_succ, List.getElem_cons_zero]); go_simp); try with_reducible rfl
      try simp only [List.getElem_toArray, List.getElem_cons_succ, List.getElem_cons_zero, Act.put, List.setIfInBounds_toArray, List.set_cons_zero, List.set_cons_succ]
      refine wpAnyH_take (i := 1) (v := ?_) rfl (by kernel_rfl) (by kernel_rfl) (by kernel_rfl) (fun _ _ _ h => h) (Or.inl ⟨by rfl, ?_⟩) (by assumption) ?_
      rotate_left
      · (intro wq hSw; (try dsimp only at hSw); (try simp only [List.getElem_toArray, List.getElem_cons_succ, List.getElem_cons_zero]); go_simp); try with_reducible rfl
      try simp only [List.getElem_toArray, List.getElem_cons_succ, List.getElem_cons_zero, Act.put, List.setIfInBounds_toArray, List.set_cons_zero, List.set_cons_succ]
      refine wpAnyH_take (i := 2) (v := ?_) rfl (by kernel_rfl) (by kernel_rfl) (by kernel_rfl) (fun _ _ _ h => h) (Or.inl ⟨by rfl, ?_⟩) (by assumption) ?_
      rotate_left
      · (intro wq hSw; (try dsimp only at hSw); (try simp only [List.getElem_toArray, List.getElem_cons_succ, List.getElem_cons_zero]); go_simp); try with_reducible rfl
      try simp only [List.getElem_toArray, List.getElem_cons_succ, List.getElem_cons_zero, Act.put, List.setIfInBounds_toArray, List.set_cons_zero, List.set_cons_succ]
      refine wpAnyH_take (i := 3) (v := ?_) rfl (by kernel_rfl) (by kernel_rfl) (by kernel_rfl) (fun _ _ _ h => h) (Or.inl ⟨by rfl, ?_⟩) (by assumption) ?_
      rotate_left
      · (intro wq hSw; (try dsimp only at hSw); (try simp only [List.getElem_toArray, List.getElem_cons_succ, List.getElem_cons_zero]); go_simp); try with_reducible rfl
      try simp only [List.getElem_toArray, List.getElem_cons_succ, List.getElem_cons_zero, Act.put, List.setIfInBounds_toArray, List.set_cons_zero, List.set_cons_succ]
      refine wpAnyH_take (i := 5) (v := ?_) rfl (by kernel_rfl) (by kernel_rfl) (by kernel_rfl) (fun _ _ _ h => h) (Or.inl ⟨by rfl, ?_⟩) (by assumption) ?_
      rotate_left
      · (intro wq hSw; (try dsimp only at hSw); (try simp only [List.getElem_toArray, List.getElem_cons_succ, List.getElem_cons_zero]); go_simp); try with_reducible rfl
      try simp only [List.getElem_toArray, List.getElem_cons_succ, List.getElem_cons_zero, Act.put, List.setIfInBounds_toArray, List.set_cons_zero, List.set_cons_succ]
      refine wpAnyH_ready (rs := [4, 6]) (by kernel_rfl) (by simp) ?_
      refine AllReadyH.cons rfl (fun K hK => ?_) (AllReadyH.cons rfl (fun K hK => ?_) AllReadyH.nil)
      · try simp only [List.getElem_toArray, List.getElem_cons_succ, List.getElem_cons_zero]
        go_simp
        refine hK.out _ _ (by trivial) (fun hHeld => ?_)
        clear hK K
        try simp only [List.getElem_toArray, List.getElem_cons_succ, List.getElem_cons_zero, Act.put, List.setIfInBounds_toArray, List.set_cons_zero, List.set_cons_succ]
        refine wpAnyH_ready (rs := [6]) (by kernel_rfl) (by simp) ?_
        refine AllReadyH.cons rfl (fun K hK => ?_) AllReadyH.nil
        try simp only [List.getElem_toArray, List.getElem_cons_succ, List.getElem_cons_zero]
        go_simp
        refine (copy_any HD hcs).mono ?_
        rintro e w3 ⟨p', F', rfl, D3, hF3, t3⟩
        have T3 : Below wo.heap.size wo w3 := below_then t3 (Below.refl _ _).drew
        have c3 : w3.cell? ⟨cb, 0, none⟩ = some (.slice AA ps2.length c2) := (T3.cell (p := ⟨cb, 0, none⟩) hlc).trans q0
        have c3a : ∀ o, (w3.alloc o).cell? ⟨cb, 0, none⟩ = some (.slice AA ps2.length c2) := fun o => cell_alloc2 c3 o
        have z3 := (T3.frozen (p := ⟨cb, 0, none⟩) hlc).trans z0
        have own3 := A.out.own.keep PtrR.stable T3
        replace D3 := Lib.hid D3
        replace hF3 := Lib.hid hF3
        replace T3 := Lib.hid T3
        clear t3
        try (go_wp2_with fail)
        refine hK.out _ _ (by trivial) (fun hHeld => ?_)
        clear hK K
        try simp only [List.getElem_toArray, List.getElem_cons_succ, List.getElem_cons_zero, Act.put, List.setIfInBounds_toArray, List.set_cons_zero, List.set_cons_succ]
        refine wpAnyH_ready (rs := [7]) (by kernel_rfl) (by simp) ?_
        refine AllReadyH.cons rfl (fun K hK => ?_) AllReadyH.nil
        try simp only [List.getElem_toArray, List.getElem_cons_succ, List.getElem_cons_zero]
        go_simp
        refine hK.out _ _ (by trivial) (fun hHeld => ?_)
        clear hK K
        try simp only [List.getElem_toArray, List.getElem_cons_succ, List.getElem_cons_zero, Act.put, List.setIfInBounds_toArray, List.set_cons_zero, List.set_cons_succ]
        refine wpAnyH_ready (rs := [8]) (by kernel_rfl) (by simp) ?_
        refine AllReadyH.cons rfl (fun K hK => ?_) AllReadyH.nil
        refine step_of_list (by rfl) (wpList_push1 PtrR.stable PtrR.one slPtr (by rfl) (by rfl) (base := 0) (S := fun _ => False) (cs := #[.pointer (some ⟨p', 0, none⟩)]) (y := p') (by rfl) (by rfl) own3 (by rfl) (show PtrR _ _ _ p' from rfl) (by unfold maxLen; omega) (by omega) (Nat.zero_le _) ?_)
        intro A11 c11 u11 hc11 own11 hlt11 hb11 hat11
        refine And.intro rfl ?_
        have y0 := cell_far2 c3 u11.ok hne
        have y1 := frozen_far2 c3 z3 u11.ok hne
        refine hK.out _ _ (by trivial) (fun hHeld => ?_)
        clear hK K
        try simp only [List.getElem_toArray, List.getElem_cons_succ, List.getElem_cons_zero, Act.put, List.setIfInBounds_toArray, List.set_cons_zero, List.set_cons_succ]
        refine wpAnyH_take (i := 9) (v := ?_) rfl (by kernel_rfl) (by kernel_rfl) (by kernel_rfl) (fun _ _ _ h => h) (Or.inl ⟨by rfl, ?_⟩) (by assumption) ?_
        rotate_left
        · (intro wq hSw; (try dsimp only at hSw); (try simp only [List.getElem_toArray, List.getElem_cons_succ, List.getElem_cons_zero]); go_simp); try with_reducible rfl
        try simp only [List.getElem_toArray, List.getElem_cons_succ, List.getElem_cons_zero, Act.put, List.setIfInBounds_toArray, List.set_cons_zero, List.set_cons_succ]
        refine wpAnyH_take (i := 10) (v := ?_) rfl (by kernel_rfl) (by kernel_rfl) (by kernel_rfl) (fun _ _ _ h => h) (Or.inl ⟨by rfl, ?_⟩) (by assumption) ?_
        rotate_left
        · (intro wq hSw; (try dsimp only at hSw); (try simp only [List.getElem_toArray, List.getElem_cons_succ, List.getElem_cons_zero]); go_simp); try with_reducible rfl
        try simp only [List.getElem_toArray, List.getElem_cons_succ, List.getElem_cons_zero, Act.put, List.setIfInBounds_toArray, List.set_cons_zero, List.set_cons_succ]
        refine wpAnyH_ready (rs := [11]) (by kernel_rfl) (by simp) ?_
        refine AllReadyH.cons rfl (fun K hK => ?_) AllReadyH.nil
        try simp only [List.getElem_toArray, List.getElem_cons_succ, List.getElem_cons_zero]
        go_simp
        refine hK.out _ _ (by trivial) (fun hHeld => ?_)
        clear hK K
        try simp only [List.getElem_toArray, List.getElem_cons_succ, List.getElem_cons_zero, Act.put, List.setIfInBounds_toArray, List.set_cons_zero, List.set_cons_succ]
        refine wpAnyH_done (by kernel_rfl) ?_ _
        go_wp2_with fail
        obtain ⟨U', Fs', A3, hU3, hK3⟩ := (A.out.below T3.out).push D3.out (fun b hf hu => by have h1 := hF3.out b hf; have h2 := A.out.lt b hu; simp only [World.size_drew] at h1; omega) u11.ok hlt11 own11 hat11
        have hsz := K.out.size
        have hs2 := T3.out.size
        refine ⟨⟨i + 1, U', _, Fs', ps2 ++ [p'], by omega, by go_num, Lib.hid (by rw [HTK.out]; exact A3), Lib.hid (fun b hb => ?_), Lib.hid (K.out.trans ((T3.out.mono hsz).trans (hK3.below (by omega) hU.out)))⟩, by simp [intOf]; omega⟩
        by_cases hblt : b < w3.heap.size
        · rcases hU3 b hb hblt with h | h
          · exact hU.out b h
          · have h1 := hF3.out b h
            simp only [World.size_drew] at h1
            omega
        · omega
      · try simp only [List.getElem_toArray, List.getElem_cons_succ, List.getElem_cons_zero]
        go_simp
        refine (copy_any HD hcs).mono ?_
        rintro e w3 ⟨p', F', rfl, D3, hF3, t3⟩
        have T3 : Below wo.heap.size wo w3 := below_then t3 (Below.refl _ _).drew
        have c3 : w3.cell? ⟨cb, 0, none⟩ = some (.slice AA ps2.length c2) := (T3.cell (p := ⟨cb, 0, none⟩) hlc).trans q0
        have c3a : ∀ o, (w3.alloc o).cell? ⟨cb, 0, none⟩ = some (.slice AA ps2.length c2) := fun o => cell_alloc2 c3 o
        have z3 := (T3.frozen (p := ⟨cb, 0, none⟩) hlc).trans z0
        have own3 := A.out.own.keep PtrR.stable T3
        replace D3 := Lib.hid D3
        replace hF3 := Lib.hid hF3
        replace T3 := Lib.hid T3
        clear t3
        try (go_wp2_with fail)
        refine hK.out _ _ (by trivial) (fun hHeld => ?_)
        clear hK K
        try simp only [List.getElem_toArray, List.getElem_cons_succ, List.getElem_cons_zero, Act.put, List.setIfInBounds_toArray, List.set_cons_zero, List.set_cons_succ]
        refine wpAnyH_ready (rs := [4, 7]) (by kernel_rfl) (by simp) ?_
        refine AllReadyH.cons rfl (fun K hK => ?_) (AllReadyH.cons rfl (fun K hK => ?_) AllReadyH.nil)
        · try simp only [List.getElem_toArray, List.getElem_cons_succ, List.getElem_cons_zero]
          go_simp
          refine hK.out _ _ (by trivial) (fun hHeld => ?_)
          clear hK K
          try simp only [List.getElem_toArray, List.getElem_cons_succ, List.getElem_cons_zero, Act.put, List.setIfInBounds_toArray, List.set_cons_zero, List.set_cons_succ]
          refine wpAnyH_ready (rs := [7]) (by kernel_rfl) (by simp) ?_
          refine AllReadyH.cons rfl (fun K hK => ?_) AllReadyH.nil
          try simp only [List.getElem_toArray, List.getElem_cons_succ, List.getElem_cons_zero]
          go_simp
          refine hK.out _ _ (by trivial) (fun hHeld => ?_)
          clear hK K
          try simp only [List.getElem_toArray, List.getElem_cons_succ, List.getElem_cons_zero, Act.put, List.setIfInBounds_toArray, List.set_cons_zero, List.set_cons_succ]
          refine wpAnyH_ready (rs := [8]) (by kernel_rfl) (by simp) ?_
          refine AllReadyH.cons rfl (fun K hK => ?_) AllReadyH.nil
          refine step_of_list (by rfl) (wpList_push1 PtrR.stable PtrR.one slPtr (by rfl) (by rfl) (base := 0) (S := fun _ => False) (cs := #[.pointer (some ⟨p', 0, none⟩)]) (y := p') (by rfl) (by rfl) own3 (by rfl) (show PtrR _ _ _ p' from rfl) (by unfold maxLen; omega) (by omega) (Nat.zero_le _) ?_)
          intro A11 c11 u11 hc11 own11 hlt11 hb11 hat11
          refine And.intro rfl ?_
          have y0 := cell_far2 c3 u11.ok hne
          have y1 := frozen_far2 c3 z3 u11.ok hne
          refine hK.out _ _ (by trivial) (fun hHeld => ?_)
          clear hK K
          try simp only [List.getElem_toArray, List.getElem_cons_succ, List.getElem_cons_zero, Act.put, List.setIfInBounds_toArray, List.set_cons_zero, List.set_cons_succ]
          refine wpAnyH_take (i := 9) (v := ?_) rfl (by kernel_rfl) (by kernel_rfl) (by kernel_rfl) (fun _ _ _ h => h) (Or.inl ⟨by rfl, ?_⟩) (by assumption) ?_
          rotate_left
          · (intro wq hSw; (try dsimp only at hSw); (try simp only [List.getElem_toArray, List.getElem_cons_succ, List.getElem_cons_zero]); go_simp); try with_reducible rfl
          try simp only [List.getElem_toArray, List.getElem_cons_succ, List.getElem_cons_zero, Act.put, List.setIfInBounds_toArray, List.set_cons_zero, List.set_cons_succ]
          refine wpAnyH_take (i := 10) (v := ?_) rfl (by kernel_rfl) (by kernel_rfl) (by kernel_rfl) (fun _ _ _ h => h) (Or.inl ⟨by rfl, ?_⟩) (by assumption) ?_
          rotate_left
          · (intro wq hSw; (try dsimp only at hSw); (try simp only [List.getElem_toArray, List.getElem_cons_succ, List.getElem_cons_zero]); go_simp); try with_reducible rfl
          try simp only [List.getElem_toArray, List.getElem_cons_succ, List.getElem_cons_zero, Act.put, List.setIfInBounds_toArray, List.set_cons_zero, List.set_cons_succ]
          refine wpAnyH_ready (rs := [11]) (by kernel_rfl) (by simp) ?_
          refine AllReadyH.cons rfl (fun K hK => ?_) AllReadyH.nil
          try simp only [List.getElem_toArray, List.getElem_cons_succ, List.getElem_cons_zero]
          go_simp
          refine hK.out _ _ (by trivial) (fun hHeld => ?_)
          clear hK K
          try simp only [List.getElem_toArray, List.getElem_cons_succ, List.getElem_cons_zero, Act.put, List.setIfInBounds_toArray, List.set_cons_zero, List.set_cons_succ]
          refine wpAnyH_done (by kernel_rfl) ?_ _
          go_wp2_with fail
          obtain ⟨U', Fs', A3, hU3, hK3⟩ := (A.out.below T3.out).push D3.out (fun b hf hu => by have h1 := hF3.out b hf; have h2 := A.out.lt b hu; simp only [World.size_drew] at h1; omega) u11.ok hlt11 own11 hat11
          have hsz := K.out.size
          have hs2 := T3.out.size
          refine ⟨⟨i + 1, U', _, Fs', ps2 ++ [p'], by omega, by go_num, Lib.hid (by rw [HTK.out]; exact A3), Lib.hid (fun b hb => ?_), Lib.hid (K.out.trans ((T3.out.mono hsz).trans (hK3.below (by omega) hU.out)))⟩, by simp [intOf]; omega⟩
          by_cases hblt : b < w3.heap.size
          · rcases hU3 b hb hblt with h | h
            · exact hU.out b h
            · have h1 := hF3.out b h
              simp only [World.size_drew] at h1
              omega
          · omega
        · try simp only [List.getElem_toArray, List.getElem_cons_succ, List.getElem_cons_zero]
          go_simp
          refine hK.out _ _ (by trivial) (fun hHeld => ?_)
          clear hK K
          try simp only [List.getElem_toArray, List.getElem_cons_succ, List.getElem_cons_zero, Act.put, List.setIfInBounds_toArray, List.set_cons_zero, List.set_cons_succ]
          refine wpAnyH_ready (rs := [4]) (by kernel_rfl) (by simp) ?_
          refine AllReadyH.cons rfl (fun K hK => ?_) AllReadyH.nil
          try simp only [List.getElem_toArray, List.getElem_cons_succ, List.getElem_cons_zero]
          go_simp
          refine hK.out _ _ (by trivial) (fun hHeld => ?_)
          clear hK K
          try simp only [List.getElem_toArray, List.getElem_cons_succ, List.getElem_cons_zero, Act.put, List.setIfInBounds_toArray, List.set_cons_zero, List.set_cons_succ]
          refine wpAnyH_ready (rs := [8]) (by kernel_rfl) (by simp) ?_
          refine AllReadyH.cons rfl (fun K hK => ?_) AllReadyH.nil
          refine step_of_list (by rfl) (wpList_push1 PtrR.stable PtrR.one slPtr (by rfl) (by rfl) (base := 0) (S := fun _ => False) (cs := #[.pointer (some ⟨p', 0, none⟩)]) (y := p') (by rfl) (by rfl) own3 (by rfl) (show PtrR _ _ _ p' from rfl) (by unfold maxLen; omega) (by omega) (Nat.zero_le _) ?_)
          intro A11 c11 u11 hc11 own11 hlt11 hb11 hat11
          refine And.intro rfl ?_
          have y0 := cell_far2 c3 u11.ok hne
          have y1 := frozen_far2 c3 z3 u11.ok hne
          refine hK.out _ _ (by trivial) (fun hHeld => ?_)
          clear hK K
          try simp only [List.getElem_toArray, List.getElem_cons_succ, List.getElem_cons_zero, Act.put, List.setIfInBounds_toArray, List.set_cons_zero, List.set_cons_succ]
          refine wpAnyH_take (i := 9) (v := ?_) rfl (by kernel_rfl) (by kernel_rfl) (by kernel_rfl) (fun _ _ _ h => h) (Or.inl ⟨by rfl, ?_⟩) (by assumption) ?_
          rotate_left
          · (intro wq hSw; (try dsimp only at hSw); (try simp only [List.getElem_toArray, List.getElem_cons_succ, List.getElem_cons_zero]); go_simp); try with_reducible rfl
          try simp only [List.getElem_toArray, List.getElem_cons_succ, List.getElem_cons_zero, Act.put, List.setIfInBounds_toArray, List.set_cons_zero, List.set_cons_succ]
          refine wpAnyH_take (i := 10) (v := ?_) rfl (by kernel_rfl) (by kernel_rfl) (by kernel_rfl) (fun _ _ _ h => h) (Or.inl ⟨by rfl, ?_⟩) (by assumption) ?_
          rotate_left
          · (intro wq hSw; (try dsimp only at hSw); (try simp only [List.getElem_toArray, List.getElem_cons_succ, List.getElem_cons_zero]); go_simp); try with_reducible rfl
          try simp only [List.getElem_toArray, List.getElem_cons_succ, List.getElem_cons_zero, Act.put, List.setIfInBounds_toArray, List.set_cons_zero, List.set_cons_succ]
          refine wpAnyH_ready (rs := [11]) (by kernel_rfl) (by simp) ?_
          refine AllReadyH.cons rfl (fun K hK => ?_) AllReadyH.nil
          try simp only [List.getElem_toArray, List.getElem_cons_succ, List.getElem_cons_zero]
          go_simp
          refine hK.out _ _ (by trivial) (fun hHeld => ?_)
          clear hK K
          try simp only [List.getElem_toArray, List.getElem_cons_succ, List.getElem_cons_zero, Act.put, List.setIfInBounds_toArray, List.set_cons_zero, List.set_cons_succ]
          refine wpAnyH_done (by kernel_rfl) ?_ _
          go_wp2_with fail
          obtain ⟨U', Fs', A3, hU3, hK3⟩ := (A.out.below T3.out).push D3.out (fun b hf hu => by have h1 := hF3.out b hf; have h2 := A.out.lt b hu; simp only [World.size_drew] at h1; omega) u11.ok hlt11 own11 hat11
          have hsz := K.out.size
          have hs2 := T3.out.size
          refine ⟨⟨i + 1, U', _, Fs', ps2 ++ [p'], by omega, by go_num, Lib.hid (by rw [HTK.out]; exact A3), Lib.hid (fun b hb => ?_), Lib.hid (K.out.trans ((T3.out.mono hsz).trans (hK3.below (by omega) hU.out)))⟩, by simp [intOf]; omega⟩
          by_cases hblt : b < w3.heap.size
          · rcases hU3 b hb hblt with h | h
            · exact hU.out b h
            · have h1 := hF3.out b h
              simp only [World.size_drew] at h1
              omega
          · omega
    · obtain rfl : i = sts.length := by omega
      have h1 : ¬ (sts.length : Int) < (sts.length : Int) := by omega
      go_wp2_with fail
      go_ret
      rw [List.take_length] at A
      exact ⟨cb, U2, rfl, ⟨v2, Fs2, ps2, A.out⟩, hU.out, K.out⟩
end
end Go.Proofs.Ytolmpopjonkfgaa
