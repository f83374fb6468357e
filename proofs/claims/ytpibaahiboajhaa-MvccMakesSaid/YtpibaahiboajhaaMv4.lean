/-
  What a record makes of a store's chains: walked.
-/
import Derived.Test.YtpibaahiboajhaaMv3
set_option linter.unusedSimpArgs false
set_option linter.unusedVariables false
namespace Go.Proofs.Ytpibaahiboajhaa
open Go.RowKit Go.Cib
attribute [local go_sem] cell_set Later.cell Later.frozen Grw.cell Grw.frozen

theorem changedL_cons_some {L : List Ent} {st : Int} {pk : ByteArray} {c : Chg} {cs : List Chg} {l : List Ver} (h : addL ((getE L c.key).getD []) ⟨st, c.dead, c.blob⟩ = some l) (hk : keyOk c.key = true) (hl : Op.bytesLess pk.toList c.key.toList = true) :
    changedL L st pk (c :: cs) = (changedL L st c.key cs).map (⟨c.key, l⟩ :: ·) := by
  rw [changedL, h]; simp [hk, hl]
theorem changedL_cons_none {L : List Ent} {st : Int} {pk : ByteArray} {c : Chg} {cs : List Chg} (h : addL ((getE L c.key).getD []) ⟨st, c.dead, c.blob⟩ = none ∨ keyOk c.key = false ∨ Op.bytesLess pk.toList c.key.toList = false) :
    changedL L st pk (c :: cs) = none := by
  rw [changedL]
  cases ha : addL ((getE L c.key).getD []) ⟨st, c.dead, c.blob⟩ with
  | none => rfl
  | some l =>
    rcases h with h | h | h
    · rw [ha] at h; cases h
    · simp [h]
    · simp [h]
theorem addE_none {l : List Ver} {v : Ver} (h : addL l v = none) : addE l v = 2 := by
  unfold addL at h; unfold addE
  split at h
  · cases h
  · rename_i h2; rw [if_neg h2]
theorem addE_some {l r : List Ver} {v : Ver} (h : addL l v = some r) : addE l v = 0 := by
  unfold addL at h; unfold addE
  split at h
  · rename_i h2; rw [if_pos h2]
  · cases h
theorem kle (a b : ByteArray) : (Op.bytesLess a.toList b.toList || (a.toList == b.toList)) = !Op.bytesLess b.toList a.toList := by
  rw [str_beq]
  cases h : Op.bytesLess b.toList a.toList with
  | true =>
    rw [bl_asymm h, decide_eq_false (fun e => bl_ne h e.symm)]; rfl
  | false =>
    cases h2 : Op.bytesLess a.toList b.toList with
    | true => rfl
    | false => rw [decide_eq_true (bl_tri h2 h)]; rfl
set_option maxRecDepth 100000 in
set_option maxHeartbeats 8000000 in
theorem changed_any {w : World} {base s nb CN cc : Nat} {L : List Ent} {last st : Int} {F S2 : Nat → Prop} {CA : Option Addr} {chs : List Chg} (HM : Hid (MvM w base s L last F)) (hok : Hid (OkL nb last L)) (hnb : nb ≤ 4194302) (hC : Hid (RdL ChgR 5 S2 w CA CN chs)) (hcn : CN ≤ 1000) (hsm : Hid (∀ c ∈ chs, c.blob.places.length ≤ 17592186043904)) :
    Calls Try.prog 73 #[.pointer (some ⟨s, 0, none⟩), .agg #[.int .u64 st, .slice CA CN cc]] w fun e w' => ∃ v, e = .returned (.tuple #[v, .bool (changedL L st ⟨#[]⟩ chs).isSome]) ∧
      OwnL EntR 138 2 w.heap.size (w.heap.size ≤ ·) w' v ((changedL L st ⟨#[]⟩ chs).getD []).length ((changedL L st ⟨#[]⟩ chs).getD []) ∧ Below w.heap.size w w' := by
  have X0 := BoxAt.new w #[.int .u64 st, .slice CA CN cc] 63
  have hal0 : Below w.heap.size w (w.alloc (.cells #[.int .u64 st, .slice CA CN cc] 63)) := (Below.refl _ _).alloc (Nat.le_refl _) _
  obtain ⟨w0, hw0⟩ : ∃ w0, w.alloc (.cells #[.int .u64 st, .slice CA CN cc] 63) = w0 := ⟨_, rfl⟩
  obtain ⟨rb, hrb⟩ : ∃ rb, w.heap.size = rb := ⟨_, rfl⟩
  rw [hw0] at X0 hal0
  rw [hrb] at X0
  have r00 := X0.cell 0
  have r01 := X0.cell 1
  have HX0 := Lib.hid X0
  have HAL0 := Lib.hid hal0
  clear X0 hal0
  go_enter Try.func73, Try.ntmps73
  go_wp2_with fail
  go_loopw [6, 7, 15] (fun out pk vi wr => ∃ (k : Nat) (A' : Option Addr) (c' : Nat) (PK : ByteArray) (acc : List Ent), k ≤ CN ∧ vi = .int .i64 k ∧ pk = .string PK ∧ out = .slice A' acc.length c' ∧ acc.length ≤ k ∧ Hid (Below w.heap.size w wr) ∧ BoxAt wr rb #[.int .u64 st, .slice CA CN cc] ∧ Hid (OwnL EntR 138 2 (rb + 1) (w.heap.size ≤ ·) wr (.slice A' acc.length c') acc.length acc) ∧
    Hid (changedL L st ⟨#[]⟩ chs = (changedL L st PK (chs.drop k)).map (acc ++ ·))) (fun _ _ vi _ => CN - (intOf vi).toNat)
  case atStart => exact ⟨0, none, 0, ⟨#[]⟩, [], Nat.zero_le _, rfl, rfl, rfl, Nat.le_refl _, HAL0, HX0.out, Lib.hid OwnL.nil_, Lib.hid (by simp)⟩
  case round =>
    obtain ⟨k, A1, c1, PK, acc, hk, rfl, rfl, rfl, hacc, HW, hXr, HO, HE⟩ := hrel
    have hws := HW.out.size
    have g0 := hXr.cell 0
    have g1 := hXr.cell 1
    have q0 : (0 : Int) ≤ (k : Int) := Int.natCast_nonneg _
    by_cases hlt : k < CN
    · have q1 : (k : Int) < (CN : Int) := by omega
      obtain ⟨b, o, rfl, hS, hb0⟩ := hC.out.addr hlt
      obtain ⟨y, VA, vm, vc, hy, hvm, hpl, e0, e1, e2, e3, e4⟩ := chg_at hC.out hlt
      replace e0 := (HW.out.cell (p := ⟨b, o + k * 5, none⟩) hb0).trans e0
      replace e1 := (HW.out.cell (p := ⟨b, o + k * 5 + 1, none⟩) hb0).trans e1
      replace e2 := (HW.out.cell (p := ⟨b, o + k * 5 + 2, none⟩) hb0).trans e2
      replace e3 := (HW.out.cell (p := ⟨b, o + k * 5 + 3, none⟩) hb0).trans e3
      replace e4 := (HW.out.cell (p := ⟨b, o + k * 5 + 4, none⟩) hb0).trans e4
      have hvm4 : vm ≤ 17592186043904 := by rw [← hpl.1]; exact hsm.out y (List.mem_of_getElem? hy)
      have hdrop : chs.drop k = y :: chs.drop (k + 1) := by
        have hkl := (List.getElem?_eq_some_iff.1 hy).1
        rw [List.drop_eq_getElem_cons hkl, (List.getElem?_eq_some_iff.1 hy).2]
      have HE2 := Lib.hid (by have := HE.out; rwa [hdrop] at this : changedL L st ⟨#[]⟩ chs = (changedL L st PK (y :: chs.drop (k + 1))).map (acc ++ ·))
      have bx := BoxAt.new wr #[.string y.key, .bool y.dead, .slice VA vm vc, .int .u64 y.blob.gen, .int .i64 y.blob.size] 129
      have hal : Below wr.heap.size wr (wr.alloc (.cells #[.string y.key, .bool y.dead, .slice VA vm vc, .int .u64 y.blob.gen, .int .i64 y.blob.size] 129)) := (Below.refl _ _).alloc (Nat.le_refl _) _
      obtain ⟨vb, hvb⟩ : ∃ vb, wr.heap.size = vb := ⟨_, rfl⟩
      obtain ⟨wq, hwq⟩ : ∃ wq, wr.alloc (.cells #[.string y.key, .bool y.dead, .slice VA vm vc, .int .u64 y.blob.gen, .int .i64 y.blob.size] 129) = wq := ⟨_, rfl⟩
      rw [hwq] at bx hal
      have HP := Lib.hid (hpl.below IntR.stable (HW.out.trans (hal.mono hws)))
      have HOq := Lib.hid (HO.out.keep EntR.stable hal)
      have hXq := hXr.below hal
      have hWq := HW.out.trans (hal.mono hws)
      rw [hvb] at bx
      have u0 := fun w' (hb : Below wq.heap.size wq w') => (hb.cell (p := ⟨vb, 0, none⟩) bx.lt).trans (bx.cell 0)
      have u1 := fun w' (hb : Below wq.heap.size wq w') => (hb.cell (p := ⟨vb, 1, none⟩) bx.lt).trans (bx.cell 1)
      have u2 := fun w' (hb : Below wq.heap.size wq w') => (hb.cell (p := ⟨vb, 2, none⟩) bx.lt).trans (bx.cell 2)
      have u3 := fun w' (hb : Below wq.heap.size wq w') => (hb.cell (p := ⟨vb, 3, none⟩) bx.lt).trans (bx.cell 3)
      have u4 := fun w' (hb : Below wq.heap.size wq w') => (hb.cell (p := ⟨vb, 4, none⟩) bx.lt).trans (bx.cell 4)
      have z0 := fun w' (hb : Below wq.heap.size wq w') => (hb.cell (p := ⟨rb, 0, none⟩) hXq.lt).trans (hXq.cell 0)
      have k0 := bx.cell 0; have k1 := bx.cell 1; have k2 := bx.cell 2; have k3 := bx.cell 3; have k4 := bx.cell 4
      clear HW HO HE hpl hdrop hal hws
      have HW := Lib.hid hWq
      have HXq := Lib.hid hXq
      have HBX := Lib.hid bx
      clear hWq hXq bx hS
      go_wp2_with fail
      refine wp_region_held_drew (S := fun w' => Below wq.heap.size wq w') (by kernel_rfl) (by first | assumption | exact Below.refl _ _ | exact (Below.refl _ _).drew) (fun hHeld => ?_)
      refine wpAnyH_take (i := 0) (v := ?_) rfl (by kernel_rfl) (by kernel_rfl) (by kernel_rfl) (fun _ _ _ h => h) (Or.inl ⟨by first | kernel_rfl | rfl, ?_⟩) (by assumption) ?_
      rotate_left
      · (intro wq hSw; (try dsimp only at hSw); (try simp (maxSteps := 2000000) only [List.getElem_toArray, List.getElem_cons_succ, List.getElem_cons_zero]); go_simp); try with_reducible rfl
      try simp (maxSteps := 2000000) only [List.getElem_toArray, List.getElem_cons_succ, List.getElem_cons_zero, Act.put, List.setIfInBounds_toArray, List.set_cons_zero, List.set_cons_succ]
      refine wpAnyH_take (i := 1) (v := ?_) rfl (by kernel_rfl) (by kernel_rfl) (by kernel_rfl) (fun _ _ _ h => h) (Or.inl ⟨by first | kernel_rfl | rfl, ?_⟩) (by assumption) ?_
      rotate_left
      · (intro wq hSw; (try dsimp only at hSw); (try simp (maxSteps := 2000000) only [List.getElem_toArray, List.getElem_cons_succ, List.getElem_cons_zero]); go_simp); try with_reducible rfl
      try simp (maxSteps := 2000000) only [List.getElem_toArray, List.getElem_cons_succ, List.getElem_cons_zero, Act.put, List.setIfInBounds_toArray, List.set_cons_zero, List.set_cons_succ]
      refine wpAnyH_take (i := 2) (v := ?_) rfl (by kernel_rfl) (by kernel_rfl) (by kernel_rfl) (fun _ _ _ h => h) (Or.inl ⟨by first | kernel_rfl | rfl, ?_⟩) (by assumption) ?_
      rotate_left
      · (intro wq hSw; (try dsimp only at hSw); (try simp (maxSteps := 2000000) only [List.getElem_toArray, List.getElem_cons_succ, List.getElem_cons_zero]); go_simp); try with_reducible rfl
      try simp (maxSteps := 2000000) only [List.getElem_toArray, List.getElem_cons_succ, List.getElem_cons_zero, Act.put, List.setIfInBounds_toArray, List.set_cons_zero, List.set_cons_succ]
      refine wpAnyH_take (i := 4) (v := ?_) rfl (by kernel_rfl) (by kernel_rfl) (by kernel_rfl) (fun _ _ _ h => h) (Or.inl ⟨by first | kernel_rfl | rfl, ?_⟩) (by assumption) ?_
      rotate_left
      · (intro wq hSw; (try dsimp only at hSw); (try simp (maxSteps := 2000000) only [List.getElem_toArray, List.getElem_cons_succ, List.getElem_cons_zero]); go_simp); try with_reducible rfl
      try simp (maxSteps := 2000000) only [List.getElem_toArray, List.getElem_cons_succ, List.getElem_cons_zero, Act.put, List.setIfInBounds_toArray, List.set_cons_zero, List.set_cons_succ]
      refine wpAnyH_take (i := 5) (v := ?_) rfl (by kernel_rfl) (by kernel_rfl) (by kernel_rfl) (fun _ _ _ h => h) (Or.inl ⟨by first | kernel_rfl | rfl, ?_⟩) (by assumption) ?_
      rotate_left
      · (intro wq hSw; (try dsimp only at hSw); (try simp (maxSteps := 2000000) only [List.getElem_toArray, List.getElem_cons_succ, List.getElem_cons_zero]); go_simp); try with_reducible rfl
      try simp (maxSteps := 2000000) only [List.getElem_toArray, List.getElem_cons_succ, List.getElem_cons_zero, Act.put, List.setIfInBounds_toArray, List.set_cons_zero, List.set_cons_succ]
      refine wpAnyH_take (i := 6) (v := ?_) rfl (by kernel_rfl) (by kernel_rfl) (by kernel_rfl) (fun _ _ _ h => h) (Or.inl ⟨by first | kernel_rfl | rfl, ?_⟩) (by assumption) ?_
      rotate_left
      · (intro wq hSw; (try dsimp only at hSw); (try simp (maxSteps := 2000000) only [List.getElem_toArray, List.getElem_cons_succ, List.getElem_cons_zero]); go_simp); try with_reducible rfl
      try simp (maxSteps := 2000000) only [List.getElem_toArray, List.getElem_cons_succ, List.getElem_cons_zero, Act.put, List.setIfInBounds_toArray, List.set_cons_zero, List.set_cons_succ]
      refine wpAnyH_take (i := 7) (v := ?_) rfl (by kernel_rfl) (by kernel_rfl) (by kernel_rfl) (fun _ _ _ h => h) (Or.inl ⟨by first | kernel_rfl | rfl, ?_⟩) (by assumption) ?_
      rotate_left
      · (intro wq hSw; (try dsimp only at hSw); (try simp (maxSteps := 2000000) only [List.getElem_toArray, List.getElem_cons_succ, List.getElem_cons_zero]); go_simp); try with_reducible rfl
      try simp (maxSteps := 2000000) only [List.getElem_toArray, List.getElem_cons_succ, List.getElem_cons_zero, Act.put, List.setIfInBounds_toArray, List.set_cons_zero, List.set_cons_succ]
      refine wpAnyH_take (i := 8) (v := ?_) rfl (by kernel_rfl) (by kernel_rfl) (by kernel_rfl) (fun _ _ _ h => h) (Or.inl ⟨by first | kernel_rfl | rfl, ?_⟩) (by assumption) ?_
      rotate_left
      · (intro wq hSw; (try dsimp only at hSw); (try simp (maxSteps := 2000000) only [List.getElem_toArray, List.getElem_cons_succ, List.getElem_cons_zero]); go_simp); try with_reducible rfl
      try simp (maxSteps := 2000000) only [List.getElem_toArray, List.getElem_cons_succ, List.getElem_cons_zero, Act.put, List.setIfInBounds_toArray, List.set_cons_zero, List.set_cons_succ]
      refine wpAnyH_take (i := 9) (v := ?_) rfl (by kernel_rfl) (by kernel_rfl) (by kernel_rfl) (fun _ _ _ h => h) (Or.inl ⟨by first | kernel_rfl | rfl, ?_⟩) (by assumption) ?_
      rotate_left
      · (intro wq hSw; (try dsimp only at hSw); (try simp (maxSteps := 2000000) only [List.getElem_toArray, List.getElem_cons_succ, List.getElem_cons_zero]); go_simp); try with_reducible rfl
      try simp (maxSteps := 2000000) only [List.getElem_toArray, List.getElem_cons_succ, List.getElem_cons_zero, Act.put, List.setIfInBounds_toArray, List.set_cons_zero, List.set_cons_succ]
      refine wpAnyH_take (i := 10) (v := ?_) rfl (by kernel_rfl) (by kernel_rfl) (by kernel_rfl) (fun _ _ _ h => h) (Or.inl ⟨by first | kernel_rfl | rfl, ?_⟩) (by assumption) ?_
      rotate_left
      · (intro wq hSw; (try dsimp only at hSw); (try simp (maxSteps := 2000000) only [List.getElem_toArray, List.getElem_cons_succ, List.getElem_cons_zero]); go_simp); try with_reducible rfl
      try simp (maxSteps := 2000000) only [List.getElem_toArray, List.getElem_cons_succ, List.getElem_cons_zero, Act.put, List.setIfInBounds_toArray, List.set_cons_zero, List.set_cons_succ]
      refine wpAnyH_ready (rs := [3]) (by kernel_rfl) (by simp) ?_
      refine AllReadyH.cons rfl (fun K hK => ?_) AllReadyH.nil
      try simp (maxSteps := 2000000) only [List.getElem_toArray, List.getElem_cons_succ, List.getElem_cons_zero]
      go_simp
      refine (mvchain_any (Lib.hid (HM.out.below (HW.out.trans ((by first | assumption | exact (Below.refl _ _).drew : Below wq.heap.size wq wq.drew).mono HW.out.size)))) y.key).mono ?_
      rintro e wc ⟨A5, n5, c5, rfl, hc5, hR5, hb5⟩
      replace hHeld := hHeld.trans (hb5.mono hHeld.size)
      have hn5 : n5 ≤ nb := by rw [← hR5.1]; exact (getE_ok hok.out y.key).1
      have HR5 := Lib.hid hR5
      clear hR5 hb5
      try (go_wp2_with fail)
      refine hK.out _ _ (by first | assumption | exact Below.refl _ _ | exact (Below.refl _ _).drew) (fun hHeld => ?_)
      clear hK K
      try simp (maxSteps := 2000000) only [List.getElem_toArray, List.getElem_cons_succ, List.getElem_cons_zero, Act.put, List.setIfInBounds_toArray, List.set_cons_zero, List.set_cons_succ]
      refine wpAnyH_ready (rs := [11]) (by kernel_rfl) (by simp) ?_
      refine AllReadyH.cons rfl (fun K hK => ?_) AllReadyH.nil
      try simp (maxSteps := 2000000) only [List.getElem_toArray, List.getElem_cons_succ, List.getElem_cons_zero]
      go_simp
      refine (add_any (x := ⟨st, y.dead, y.blob⟩) A5 VA n5 c5 vm vc _ (by omega) (Lib.hid (HR5.out.weaken (S' := fun _ => True) VerR.stable (fun _ _ => trivial))) (getE_ok hok.out y.key).2 (Lib.hid ((HP.out.weaken (S' := fun _ => True) IntR.stable (fun _ _ => trivial)).below IntR.stable hHeld)) hvm4).mono ?_
      rintro e wd ⟨A6, n6, c6, rfl, hR6, hc6, hb6⟩
      have HR6 := Lib.hid (hR6.weaken (S' := fun b => wq.heap.size ≤ b) VerR.stable (fun b hb => Nat.le_trans hHeld.size hb))
      replace hHeld := hHeld.trans (hb6.mono hHeld.size)
      clear hR6 hb6
      try (go_wp2_with fail)
      refine hK.out _ _ (by first | assumption | exact Below.refl _ _ | exact (Below.refl _ _).drew) (fun hHeld => ?_)
      clear hK K
      try simp (maxSteps := 2000000) only [List.getElem_toArray, List.getElem_cons_succ, List.getElem_cons_zero, Act.put, List.setIfInBounds_toArray, List.set_cons_zero, List.set_cons_succ]
      refine wpAnyH_take (i := 12) (v := ?_) rfl (by kernel_rfl) (by kernel_rfl) (by kernel_rfl) (fun _ _ _ h => h) (Or.inl ⟨by first | kernel_rfl | rfl, ?_⟩) (by assumption) ?_
      rotate_left
      · (intro wq hSw; (try dsimp only at hSw); (try simp (maxSteps := 2000000) only [List.getElem_toArray, List.getElem_cons_succ, List.getElem_cons_zero]); go_simp); try with_reducible rfl
      try simp (maxSteps := 2000000) only [List.getElem_toArray, List.getElem_cons_succ, List.getElem_cons_zero, Act.put, List.setIfInBounds_toArray, List.set_cons_zero, List.set_cons_succ]
      refine wpAnyH_take (i := 13) (v := ?_) rfl (by kernel_rfl) (by kernel_rfl) (by kernel_rfl) (fun _ _ _ h => h) (Or.inl ⟨by first | kernel_rfl | rfl, ?_⟩) (by assumption) ?_
      rotate_left
      · (intro wq hSw; (try dsimp only at hSw); (try simp (maxSteps := 2000000) only [List.getElem_toArray, List.getElem_cons_succ, List.getElem_cons_zero]); go_simp); try with_reducible rfl
      try simp (maxSteps := 2000000) only [List.getElem_toArray, List.getElem_cons_succ, List.getElem_cons_zero, Act.put, List.setIfInBounds_toArray, List.set_cons_zero, List.set_cons_succ]
      refine wpAnyH_take (i := 14) (v := ?_) rfl (by kernel_rfl) (by kernel_rfl) (by kernel_rfl) (fun _ _ _ h => h) (Or.inl ⟨by first | kernel_rfl | rfl, ?_⟩) (by assumption) ?_
      rotate_left
      · (intro wq hSw; (try dsimp only at hSw); (try simp (maxSteps := 2000000) only [List.getElem_toArray, List.getElem_cons_succ, List.getElem_cons_zero]); go_simp); try with_reducible rfl
      try simp (maxSteps := 2000000) only [List.getElem_toArray, List.getElem_cons_succ, List.getElem_cons_zero, Act.put, List.setIfInBounds_toArray, List.set_cons_zero, List.set_cons_succ]
      refine wpAnyH_take (i := 15) (v := ?_) rfl (by kernel_rfl) (by kernel_rfl) (by kernel_rfl) (fun _ _ _ h => h) (Or.inl ⟨by first | kernel_rfl | rfl, ?_⟩) (by assumption) ?_
      rotate_left
      · (intro wq hSw; (try dsimp only at hSw); (try simp (maxSteps := 2000000) only [List.getElem_toArray, List.getElem_cons_succ, List.getElem_cons_zero]); go_simp); try with_reducible rfl
      try simp (maxSteps := 2000000) only [List.getElem_toArray, List.getElem_cons_succ, List.getElem_cons_zero, Act.put, List.setIfInBounds_toArray, List.set_cons_zero, List.set_cons_succ]
      refine wpAnyH_take (i := 16) (v := ?_) rfl (by kernel_rfl) (by kernel_rfl) (by kernel_rfl) (fun _ _ _ h => h) (Or.inl ⟨by first | kernel_rfl | rfl, ?_⟩) (by assumption) ?_
      rotate_left
      · (intro wq hSw; (try dsimp only at hSw); (try simp (maxSteps := 2000000) only [List.getElem_toArray, List.getElem_cons_succ, List.getElem_cons_zero]); go_simp); try with_reducible rfl
      try simp (maxSteps := 2000000) only [List.getElem_toArray, List.getElem_cons_succ, List.getElem_cons_zero, Act.put, List.setIfInBounds_toArray, List.set_cons_zero, List.set_cons_succ]
      refine wpAnyH_done (by kernel_rfl) ?_ _
      have HH := Lib.hid hHeld
      have hds := hHeld.size
      have d0 := u0 wd hHeld
      have HXd := Lib.hid (HXq.out.below hHeld)
      have HOd := Lib.hid (HOq.out.keep EntR.stable hHeld)
      have HWd := Lib.hid (HW.out.trans (hHeld.mono HW.out.size))
      have HLT := Lib.hid (fun q e => OwnL.lt HOq.out q e)
      have hwqs := HW.out.size
      clear u0 u1 u2 u3 u4 z0 hHeld HXq HOq HW HP e0 e1 e2 e3 e4 r00 r01 g0 g1 k0 k1 k2 k3 k4 hwq hvb
      cases ha : addL ((getE L y.key).getD []) ⟨st, y.dead, y.blob⟩ with
      | none =>
        have hae := addE_none ha
        have HF := Lib.hid (by rw [HE2.out, changedL_cons_none (.inl ha)]; rfl : changedL L st ⟨#[]⟩ chs = none)
        clear ha HE2 HR6 HR5
        rw [hae]
        go_wp2_with fail
        refine bodyPost_ret (v := .tuple #[.slice none 0 0, .bool false]) (by simp [results, Try.results73, go_sem, *]) rfl ?_
        rw [HF.out]
        exact ⟨_, rfl, OwnL.nil_, by subst hrb; exact HWd.out⟩
      | some lv =>
        have hae := addE_some ha
        have HR7 := Lib.hid (by have := HR6.out; rwa [ha] at this : RdL VerR 5 (fun b => wq.heap.size ≤ b) wd A6 n6 ((some lv).getD []))
        have hkey := okey_any y.key wd
        cases hko : keyOk y.key with
        | false =>
          have HF := Lib.hid (by rw [HE2.out, changedL_cons_none (.inr (.inl hko))]; rfl : changedL L st ⟨#[]⟩ chs = none)
          rw [hko] at hkey
          clear ha HE2 HR6 HR5 hko
          rw [hae]
          go_wp2_with fail
          refine hkey.mono ?_
          rintro e wf ⟨rfl, rfl⟩
          go_wp2_with fail
          refine bodyPost_ret (v := .tuple #[.slice none 0 0, .bool false]) (by simp [results, Try.results73, go_sem, *]) rfl ?_
          rw [HF.out]
          exact ⟨_, rfl, OwnL.nil_, by subst hrb; exact HWd.out⟩
        | true =>
          rw [hko] at hkey
          have hcmp := kle y.key PK
          cases hlk : Op.bytesLess PK.toList y.key.toList with
          | false =>
            have HF := Lib.hid (by rw [HE2.out, changedL_cons_none (.inr (.inr hlk))]; rfl : changedL L st ⟨#[]⟩ chs = none)
            rw [hlk] at hcmp
            clear ha HE2 HR6 HR5 hko hlk
            rw [hae]
            go_wp2_with fail
            refine hkey.mono ?_
            rintro e wf ⟨rfl, rfl⟩
            go_wp2_with fail
            refine bodyPost_ret (v := .tuple #[.slice none 0 0, .bool false]) (by simp [results, Try.results73, go_sem, *]) rfl ?_
            rw [HF.out]
            exact ⟨_, rfl, OwnL.nil_, by subst hrb; exact HWd.out⟩
          | true =>
            have HE3 := Lib.hid (by rw [HE2.out, changedL_cons_some ha hko hlk, Option.map_map]; congr 1; funext r; simp : changedL L st ⟨#[]⟩ chs = (changedL L st y.key (chs.drop (k + 1))).map ((acc ++ [⟨y.key, lv⟩]) ++ ·))
            rw [hlk] at hcmp
            clear ha HE2 HR6 HR5 hko hlk
            rw [hae]
            go_wp2_with fail
            refine hkey.mono ?_
            rintro e wf ⟨rfl, rfl⟩
            have hbase : rb + 1 ≤ wf.heap.size := HXd.out.lt
            have hR9 : RdL VerR 5 (Go.Cib.Rest (fun b => w.heap.size ≤ b) (.slice A1 acc.length c1)) wf A6 n6 lv := HR7.out.weaken VerR.stable (fun b hb => ⟨Nat.le_trans hwqs hb, fun e => by have := (HLT.out b e.symm).2; have hb' : wq.heap.size ≤ b := hb; omega⟩)
            have HR9 := Lib.hid hR9
            have hal1 : acc.length + 1 ≤ maxLen := by unfold maxLen; omega
            have hal2 : (acc.length + 1) * 40 ≤ 140737488355328 := by omega
            clear hR9
            go_wp2_with (at_builtin; refine wpList_push1 EntR.stable EntR.one sl_chg rfl rfl (by exact rfl) (by exact rfl) HOd.out (y := ⟨y.key, lv⟩) rfl ⟨A6, n6, c6, rfl, hc6, HR9.out⟩ hal1 hal2 hbase ?_; intro A7 c7 u hc7 hown7 hus hub hat)
            have hXu : BoxAt u.to rb #[.int .u64 st, .slice (some ⟨b, o, none⟩) CN cc] := HXd.out.keep (hub.block rb (Nat.lt_succ_self _))
            refine ⟨⟨k + 1, A7, c7, y.key, acc ++ [⟨y.key, lv⟩], by omega, by go_num, rfl, by simp, by simp; omega, Lib.hid (HWd.out.trans (hub.mono (by omega))), hXu, Lib.hid (by simpa using hown7), HE3⟩, by simp [intOf]; omega⟩
    · have q1 : ¬ (k : Int) < (CN : Int) := by omega
      have hkn : k = CN := by omega
      subst hkn
      have hfin : changedL L st ⟨#[]⟩ chs = some acc := by
        rw [HE.out, List.drop_of_length_le (by rw [hC.out.1]; exact Nat.le_refl _)]; simp [changedL]
      have HF := Lib.hid hfin
      clear hfin HE hXr
      go_wp2_with fail
      refine bodyPost_ret (v := .tuple #[.slice A1 acc.length c1, .bool true]) (by simp [results, Try.results73, go_sem, *]) rfl ?_
      rw [HF.out]
      subst hrb
      exact ⟨_, rfl, OwnL.basem HO.out (by omega), HW.out⟩
end Go.Proofs.Ytpibaahiboajhaa
