/-
  A store made of rows.
-/
import Derived.Test.YtpibaahiboajhaaMk1
set_option linter.unusedSimpArgs false
set_option linter.unusedVariables false
namespace Go.Proofs.Ytpibaahiboajhaa
open Go.RowKit Go.Cib
attribute [local go_sem] cell_set Later.cell Later.frozen Grw.cell Grw.frozen

def fromOk (last : Int) : ByteArray → List Ent → Bool
  | _, [] => true
  | pk, y :: l => fitsE last y && (Op.bytesLess pk.toList y.key.toList && fromOk last y.key l)
theorem MvI.more {w : World} {base s t lo : Nat} {L : List Ent} {last : Int} {S F0 : Nat → Prop} (J : MvI w base s L last t S F0) (hlo : base ≤ lo) (hs : s < lo) (hF : ∀ q, F0 q → q < lo) : MvI w base s L last t (fun b => S b ∨ (lo ≤ b ∧ b < w.heap.size)) F0 :=
  ⟨J.box, J.tree.more (fun b hb => .inl hb) (fun b hb => hb.elim (fun h => (J.geS b h).2) (fun h => h.2)) (fun q hq h => h.elim (fun h => J.tree.sep hq h) (fun h => by have := hF q hq; omega)), J.sF, fun h => h.elim J.sS (fun h => by omega), J.ge, fun b hb => hb.elim (J.geS b) (fun h => ⟨by omega, h.2⟩)⟩
theorem putE_snoc {l : List Ent} {k : ByteArray} (v : List Ver) (h : ∀ x ∈ l, KLt x.key k) : putE l k v = l ++ [⟨k, v⟩] := by
  have := putE_app v l [] h
  rw [List.append_nil] at this
  rw [this]; rfl
theorem fits_right {last : Int} {y : Ent} (h : fitsE last y = true) : keyOk y.key = true ∧ y.vers ≠ [] ∧ rightL y.vers = true ∧ ∀ v ∈ y.vers, 0 < v.stamp ∧ v.stamp ≤ last := by
  unfold fitsE at h
  simp only [Bool.and_eq_true, decide_eq_true_eq] at h
  obtain ⟨h1, h2, h3, h4, h5⟩ := h
  refine ⟨h1, List.length_pos_iff.1 h2, h3, fun v hv => ?_⟩
  obtain ⟨j, hj, rfl⟩ := List.getElem_of_mem hv
  have e : y.vers.getD j .none_ = y.vers[j] := by rw [List.getD_eq_getElem?_getD, List.getElem?_eq_getElem hj]; rfl
  constructor
  · by_cases hjl : j = y.vers.length - 1
    · rw [← hjl, e] at h5; exact h5
    · have := stamps_fall h3 (y.vers.length - 1 - j) j (by omega) (by omega)
      rw [show j + (y.vers.length - 1 - j) = y.vers.length - 1 by omega, e] at this
      omega
  · by_cases hj0 : j = 0
    · rw [← e, hj0]; exact h4
    · have := stamps_fall h3 j 0 (by omega) (by omega)
      rw [Nat.zero_add, e] at this
      omega
def FromP (w : World) (l : List Ent) (last : Int) (e : Ending) (w' : World) : Prop :=
  Below w.heap.size w w' ∧ (if fromOk last ⟨#[]⟩ l then ∃ s F, e = .returned (.pointer (some ⟨s, 0, none⟩)) ∧ MvM w' w.heap.size s l last F else e = .returned (.pointer none))
theorem fromP_no {w w' : World} {l : List Ent} {last : Int} (h : fromOk last ⟨#[]⟩ l = false) (hb : Below w.heap.size w w') : FromP w l last (.returned (.pointer none)) w' := ⟨hb, by rw [h]; exact rfl⟩
set_option maxRecDepth 100000 in
set_option maxHeartbeats 8000000 in
theorem mvfrom_any {S : Nat → Prop} {w : World} {A : Option Addr} {n c : Nat} {l : List Ent} {last : Int} (R : Hid (RdL EntR 2 S w A n l)) (hn : n ≤ 1000) (hv : Hid (∀ y ∈ l, y.vers.length ≤ 1000 ∧ Small y.vers)) :
    Calls Try.prog 41 #[.slice A n c, .int .u64 last] w (FromP w l last) := by
  have hnew := mvnew_any w
  have hll : l.length = n := R.out.1
  go_enter Try.func41, Try.ntmps41
  go_wp2_with fail
  refine hnew.mono ?_
  rintro e w1 ⟨s, F1, rfl, hM1, hb1⟩
  have HM1 := Lib.hid hM1
  have HB1 := Lib.hid hb1
  clear hM1 hb1 hnew
  go_wp2_with fail
  go_loopw [6, 14] (fun vk vi wr => ∃ (k : Nat) (PK : ByteArray) (F : Nat → Prop), k ≤ n ∧ vi = .int .i64 k ∧ vk = .string PK ∧ Hid (MvM wr w.heap.size s (l.take k) 0 F) ∧ Hid (Below w.heap.size w wr) ∧ Hid (fromOk last ⟨#[]⟩ l = fromOk last PK (l.drop k)) ∧ Hid (∀ x ∈ l.take k, ∀ key, KLt PK key → KLt x.key key)) (fun _ vi _ => n - (intOf vi).toNat)
  case atStart => exact ⟨0, ⟨#[]⟩, F1, Nat.zero_le _, rfl, rfl, by simpa using HM1, HB1, Lib.hid rfl, Lib.hid (fun x hx => by simp at hx)⟩
  case round =>
    obtain ⟨k, PK, F, hk, rfl, rfl, HM, HW, HO, HP⟩ := hrel
    have q0 : (0 : Int) ≤ (k : Int) := Int.natCast_nonneg _
    by_cases hlt : k < n
    · have q1 : (k : Int) < (n : Int) := by omega
      obtain ⟨t, S0, F0, hI, rfl⟩ := HM.out
      obtain ⟨b, o, rfl, _, hb0⟩ := R.out.addr hlt
      obtain ⟨y, VA, vm, vc, hy, hbw, hER, c0, c1⟩ := ent2_at (R.out.below EntR.stable HW.out) hlt
      obtain ⟨VA', vm', vc', hcs', hvc, hRV⟩ := hER
      injection hcs' with _ hcs'
      injection hcs' with hcs' _
      injection hcs' with e1 e2 e3
      subst e1; subst e2; subst e3
      have hyv := hv.out y (List.mem_of_getElem? hy)
      have hvm : vm ≤ 1000 := by have := hRV.1; omega
      have bx := BoxAt.new wr #[.string y.key, .slice VA vm vc] 72
      have hal : Below wr.heap.size wr (wr.alloc (.cells #[.string y.key, .slice VA vm vc] 72)) := (Below.refl _ _).alloc (Nat.le_refl _) _
      obtain ⟨vb, hvb⟩ : ∃ vb, wr.heap.size = vb := ⟨_, rfl⟩
      obtain ⟨wx, hwx⟩ : ∃ wx, wr.alloc (.cells #[.string y.key, .slice VA vm vc] 72) = wx := ⟨_, rfl⟩
      rw [hwx] at bx hal
      rw [hvb] at bx
      have k0 := bx.cell 0
      have k1 := bx.cell 1
      have hvbx := bx.lt
      have hfit := fits_any (vc := vc) (last := last) (Lib.hid (hRV.below VerR.stable hal)) (show vm ≤ 4194304 by omega)
      have HI := Lib.hid hI
      have HV := Lib.hid (hRV.below VerR.stable hal)
      have HSM := Lib.hid hyv.2
      have HY := Lib.hid hy
      have HAL := Lib.hid hal
      have HWx := Lib.hid (HW.out.trans (hal.mono HW.out.size))
      have hdrop : l.drop k = y :: l.drop (k + 1) := by
        have hkl := (List.getElem?_eq_some_iff.1 hy).1
        rw [List.drop_eq_getElem_cons hkl, (List.getElem?_eq_some_iff.1 hy).2]
      have HO2 := Lib.hid (by have := HO.out; rwa [hdrop] at this : fromOk last ⟨#[]⟩ l = fromOk last PK (y :: l.drop (k + 1)))
      clear hI hRV hyv hal bx hdrop HO hy
      cases hf : fitsE last y with
      | false =>
        have HF := Lib.hid (by rw [HO2.out, fromOk, hf]; rfl : fromOk last ⟨#[]⟩ l = false)
        rw [hf] at hfit
        clear hf
        go_wp2_with fail
        refine hfit.mono ?_
        rintro e w3 ⟨rfl, hb3⟩
        have HW3 := Lib.hid (HWx.out.trans (hb3.mono HWx.out.size))
        clear hb3 hfit
        go_wp2_with fail
        go_ret
        exact fromP_no HF.out HW3.out
      | true =>
      have HFR := Lib.hid (fits_right hf)
      have hcmp := kle y.key PK
      rw [hf] at hfit
      cases hlk : Op.bytesLess PK.toList y.key.toList with
      | false =>
        have HF := Lib.hid (by rw [HO2.out, fromOk, hf, hlk]; rfl : fromOk last ⟨#[]⟩ l = false)
        rw [hlk] at hcmp
        clear hf hlk
        go_wp2_with fail
        refine hfit.mono ?_
        rintro e w3 ⟨rfl, hb3⟩
        have HW3 := Lib.hid (HWx.out.trans (hb3.mono HWx.out.size))
        have l0 := (hb3.cell (p := ⟨vb, 0, none⟩) hvbx).trans k0
        clear hb3 hfit
        go_wp2_with fail
        go_ret
        exact fromP_no HF.out HW3.out
      | true =>
      have HOK := Lib.hid (by rw [HO2.out, fromOk, hf, hlk]; simp : fromOk last ⟨#[]⟩ l = fromOk last y.key (l.drop (k + 1)))
      have HLK := Lib.hid hlk
      have HKP := Lib.hid (keeps_all HFR.out.2.2.1 (fun v hv => (HFR.out.2.2.2 v hv).1))
      rw [hlk] at hcmp
      clear hf hlk HO2
      go_wp2_with fail
      refine hfit.mono ?_
      rintro e w3 ⟨rfl, hb3⟩
      have HW3 := Lib.hid (HWx.out.trans (hb3.mono HWx.out.size))
      have HI3 := Lib.hid ((HI.out.below HAL.out).below hb3)
      have HV3 := Lib.hid (HV.out.below VerR.stable hb3)
      have l0 := (hb3.cell (p := ⟨vb, 0, none⟩) hvbx).trans k0
      have l1 := (hb3.cell (p := ⟨vb, 1, none⟩) hvbx).trans k1
      have hvb3 : vb < w3.heap.size := Nat.lt_of_lt_of_le hvbx hb3.size
      have u0 := fun w' (hb : Below w3.heap.size w3 w') => (hb.cell (p := ⟨vb, 0, none⟩) hvb3).trans l0
      have u1 := fun w' (hb : Below w3.heap.size w3 w') => (hb.cell (p := ⟨vb, 1, none⟩) hvb3).trans l1
      have HB3 := Lib.hid hb3
      clear hb3 hfit
      go_wp2_with fail
      refine wp_region_held_drew (S := fun w' => Below w3.heap.size w3 w') (by kernel_rfl) (by first | assumption | exact Below.refl _ _ | exact (Below.refl _ _).drew) (fun hHeld => ?_)
      refine wpAnyH_take (i := 0) (v := ?_) rfl (by kernel_rfl) (by kernel_rfl) (by kernel_rfl) (fun _ _ _ h => h) (Or.inl ⟨by first | kernel_rfl | rfl, ?_⟩) (by assumption) ?_
      rotate_left
      · (intro wq hSw; (try dsimp only at hSw); (try simp (maxSteps := 2000000) only [List.getElem_toArray, List.getElem_cons_succ, List.getElem_cons_zero]); go_simp); try with_reducible rfl
      try simp (maxSteps := 2000000) only [List.getElem_toArray, List.getElem_cons_succ, List.getElem_cons_zero, Act.put, List.setIfInBounds_toArray, List.set_cons_zero, List.set_cons_succ]
      refine wpAnyH_take (i := 1) (v := ?_) rfl (by kernel_rfl) (by kernel_rfl) (by kernel_rfl) (fun _ _ _ h => h) (Or.inl ⟨by first | kernel_rfl | rfl, ?_⟩) (by assumption) ?_
      rotate_left
      · (intro wq hSw; (try dsimp only at hSw); (try simp (maxSteps := 2000000) only [List.getElem_toArray, List.getElem_cons_succ, List.getElem_cons_zero]); go_simp); try with_reducible rfl
      try simp (maxSteps := 2000000) only [List.getElem_toArray, List.getElem_cons_succ, List.getElem_cons_zero, Act.put, List.setIfInBounds_toArray, List.set_cons_zero, List.set_cons_succ]
      refine wpAnyH_take (i := 2) (v := ?_) rfl (by kernel_rfl) (by kernel_rfl) (by kernel_rfl) (fun _ _ _ h => h) (Or.inl ⟨by first | kernel_rfl | rfl, ?_⟩) (by assumption) ?_
      rotate_left
      · (intro wq hSw; (try dsimp only at hSw); (try simp (maxSteps := 2000000) only [List.getElem_toArray, List.getElem_cons_succ, List.getElem_cons_zero]); go_simp); try with_reducible rfl
      try simp (maxSteps := 2000000) only [List.getElem_toArray, List.getElem_cons_succ, List.getElem_cons_zero, Act.put, List.setIfInBounds_toArray, List.set_cons_zero, List.set_cons_succ]
      refine wpAnyH_take (i := 3) (v := ?_) rfl (by kernel_rfl) (by kernel_rfl) (by kernel_rfl) (fun _ _ _ h => h) (Or.inl ⟨by first | kernel_rfl | rfl, ?_⟩) (by assumption) ?_
      rotate_left
      · (intro wq hSw; (try dsimp only at hSw); (try simp (maxSteps := 2000000) only [List.getElem_toArray, List.getElem_cons_succ, List.getElem_cons_zero]); go_simp); try with_reducible rfl
      try simp (maxSteps := 2000000) only [List.getElem_toArray, List.getElem_cons_succ, List.getElem_cons_zero, Act.put, List.setIfInBounds_toArray, List.set_cons_zero, List.set_cons_succ]
      refine wpAnyH_ready (rs := [4]) (by kernel_rfl) (by simp) ?_
      refine AllReadyH.cons rfl (fun K hK => ?_) AllReadyH.nil
      try simp (maxSteps := 2000000) only [List.getElem_toArray, List.getElem_cons_succ, List.getElem_cons_zero]
      go_simp
      refine (everything_any VA vm vc _ (by omega) (Lib.hid (HV3.out.below VerR.stable (by first | assumption | exact (Below.refl _ _).drew)))).mono ?_
      rintro e wc ⟨EA, ec, rfl, hER5, hec, hb5⟩
      replace hHeld := hHeld.trans (hb5.mono hHeld.size)
      have HE5 := Lib.hid hER5
      clear hER5 hb5
      try (go_wp2_with fail)
      refine hK.out _ _ (by first | assumption | exact Below.refl _ _ | exact (Below.refl _ _).drew) (fun hHeld => ?_)
      clear hK K
      try simp (maxSteps := 2000000) only [List.getElem_toArray, List.getElem_cons_succ, List.getElem_cons_zero, Act.put, List.setIfInBounds_toArray, List.set_cons_zero, List.set_cons_succ]
      refine wpAnyH_ready (rs := [5]) (by kernel_rfl) (by simp) ?_
      refine AllReadyH.cons rfl (fun K hK => ?_) AllReadyH.nil
      try simp (maxSteps := 2000000) only [List.getElem_toArray, List.getElem_cons_succ, List.getElem_cons_zero]
      go_simp
      refine (prune_any (starts := 0 :: y.vers.map (·.stamp)) VA EA vm vc (vm + 1) ec _ (by omega) (by omega) (Lib.hid (HV3.out.below VerR.stable hHeld)) HSM.out HE5).mono ?_
      rw [HKP.out]
      rintro e wd ⟨A3, n3, c3, A4, n4, c4, rfl, hR3, hc3, _, _, hb6⟩
      have HR3 := Lib.hid (hR3.weaken (S' := fun b => w3.heap.size ≤ b) VerR.stable (fun b hb => Nat.le_trans hHeld.size hb))
      replace hHeld := hHeld.trans (hb6.mono hHeld.size)
      clear hR3 hb6
      try (go_wp2_with fail)
      refine hK.out _ _ (by first | assumption | exact Below.refl _ _ | exact (Below.refl _ _).drew) (fun hHeld => ?_)
      clear hK K
      try simp (maxSteps := 2000000) only [List.getElem_toArray, List.getElem_cons_succ, List.getElem_cons_zero, Act.put, List.setIfInBounds_toArray, List.set_cons_zero, List.set_cons_succ]
      refine wpAnyH_take (i := 6) (v := ?_) rfl (by kernel_rfl) (by kernel_rfl) (by kernel_rfl) (fun _ _ _ h => h) (Or.inl ⟨by first | kernel_rfl | rfl, ?_⟩) (by assumption) ?_
      rotate_left
      · (intro wq hSw; (try dsimp only at hSw); (try simp (maxSteps := 2000000) only [List.getElem_toArray, List.getElem_cons_succ, List.getElem_cons_zero]); go_simp); try with_reducible rfl
      try simp (maxSteps := 2000000) only [List.getElem_toArray, List.getElem_cons_succ, List.getElem_cons_zero, Act.put, List.setIfInBounds_toArray, List.set_cons_zero, List.set_cons_succ]
      refine wpAnyH_take (i := 7) (v := ?_) rfl (by kernel_rfl) (by kernel_rfl) (by kernel_rfl) (fun _ _ _ h => h) (Or.inl ⟨by first | kernel_rfl | rfl, ?_⟩) (by assumption) ?_
      rotate_left
      · (intro wq hSw; (try dsimp only at hSw); (try simp (maxSteps := 2000000) only [List.getElem_toArray, List.getElem_cons_succ, List.getElem_cons_zero]); go_simp); try with_reducible rfl
      try simp (maxSteps := 2000000) only [List.getElem_toArray, List.getElem_cons_succ, List.getElem_cons_zero, Act.put, List.setIfInBounds_toArray, List.set_cons_zero, List.set_cons_succ]
      refine wpAnyH_take (i := 8) (v := ?_) rfl (by kernel_rfl) (by kernel_rfl) (by kernel_rfl) (fun _ _ _ h => h) (Or.inl ⟨by first | kernel_rfl | rfl, ?_⟩) (by assumption) ?_
      rotate_left
      · (intro wq hSw; (try dsimp only at hSw); (try simp (maxSteps := 2000000) only [List.getElem_toArray, List.getElem_cons_succ, List.getElem_cons_zero]); go_simp); try with_reducible rfl
      try simp (maxSteps := 2000000) only [List.getElem_toArray, List.getElem_cons_succ, List.getElem_cons_zero, Act.put, List.setIfInBounds_toArray, List.set_cons_zero, List.set_cons_succ]
      refine wpAnyH_take (i := 9) (v := ?_) rfl (by kernel_rfl) (by kernel_rfl) (by kernel_rfl) (fun _ _ _ h => h) (Or.inl ⟨by first | kernel_rfl | rfl, ?_⟩) (by assumption) ?_
      rotate_left
      · (intro wq hSw; (try dsimp only at hSw); (try simp (maxSteps := 2000000) only [List.getElem_toArray, List.getElem_cons_succ, List.getElem_cons_zero]); go_simp); try with_reducible rfl
      try simp (maxSteps := 2000000) only [List.getElem_toArray, List.getElem_cons_succ, List.getElem_cons_zero, Act.put, List.setIfInBounds_toArray, List.set_cons_zero, List.set_cons_succ]
      refine wpAnyH_take (i := 10) (v := ?_) rfl (by kernel_rfl) (by kernel_rfl) (by kernel_rfl) (fun _ _ _ h => h) (Or.inl ⟨by first | kernel_rfl | rfl, ?_⟩) (by assumption) ?_
      rotate_left
      · (intro wq hSw; (try dsimp only at hSw); (try simp (maxSteps := 2000000) only [List.getElem_toArray, List.getElem_cons_succ, List.getElem_cons_zero]); go_simp); try with_reducible rfl
      try simp (maxSteps := 2000000) only [List.getElem_toArray, List.getElem_cons_succ, List.getElem_cons_zero, Act.put, List.setIfInBounds_toArray, List.set_cons_zero, List.set_cons_succ]
      refine wpAnyH_done (by kernel_rfl) ?_ _
      have hds := hHeld.size
      have hs3 : s < w3.heap.size := HI3.out.box.lt
      have hF3 : ∀ q, F0 q → q < w3.heap.size := fun q hq => (HI3.out.tree.lt hq).2
      have hbs3 : w.heap.size ≤ w3.heap.size := HW3.out.size
      have HIx := Lib.hid ((HI3.out.below hHeld).more hbs3 hs3 hF3)
      have hcs : wd.cell? ⟨s, 0, none⟩ = some (.pointer (some ⟨t, 0, none⟩)) ∧ wd.cell? ⟨vb, 0, none⟩ = some (.string y.key) := ⟨HIx.out.box.cell 0, u0 wd hHeld⟩
      have hsx : s < wd.heap.size := HIx.out.box.lt
      have hvbx2 : vb < wd.heap.size := by omega
      have hvbF : ¬ F0 vb := fun h => by have := (HI.out.tree.lt h).2; omega
      have hbasex : w.heap.size ≤ wd.drew.heap.size := by show w.heap.size ≤ wd.heap.size; omega
      have hlen9 : (l.take k).length ≤ 1000000 := by rw [List.length_take]; omega
      have hER9 : EntR (fun b => S0 b ∨ (w3.heap.size ≤ b ∧ b < wd.heap.size)) wd.drew [.string y.key, .slice A3 n3 c3] ⟨y.key, y.vers⟩ :=
        EntR.stable _ _ _ wd.drew _ _ (show EntR (fun b => w3.heap.size ≤ b) wd [.string y.key, .slice A3 n3 c3] ⟨y.key, y.vers⟩ from ⟨A3, n3, c3, rfl, hc3, HR3.out⟩) (fun b hb hl => ⟨.inr ⟨hb, hl⟩, rfl⟩)
      have HE9 := Lib.hid hER9
      have HWd := Lib.hid (HW3.out.trans (hHeld.mono hbs3))
      have hvbx := hvbx2
      clear u0 u1 l0 l1 hER9 hHeld HR3 HV3 hvbx2
      go_wp2_with fail
      refine wp_region_held_drew (S := fun w' => w'.cell? ⟨s, 0, none⟩ = some (.pointer (some ⟨t, 0, none⟩)) ∧ w'.cell? ⟨vb, 0, none⟩ = some (.string y.key)) (by kernel_rfl) (by first | assumption | exact hcs) (fun hHeld => ?_)
      refine wpAnyH_take (i := 0) (v := ?_) rfl (by kernel_rfl) (by kernel_rfl) (by kernel_rfl) (fun _ _ _ h => h) (Or.inl ⟨by first | kernel_rfl | rfl, ?_⟩) (by assumption) ?_
      rotate_left
      · (intro wq hSw; (try dsimp only at hSw); (try simp (maxSteps := 2000000) only [List.getElem_toArray, List.getElem_cons_succ, List.getElem_cons_zero]); go_simp); try with_reducible rfl
      try simp (maxSteps := 2000000) only [List.getElem_toArray, List.getElem_cons_succ, List.getElem_cons_zero, Act.put, List.setIfInBounds_toArray, List.set_cons_zero, List.set_cons_succ]
      refine wpAnyH_take (i := 1) (v := ?_) rfl (by kernel_rfl) (by kernel_rfl) (by kernel_rfl) (fun _ _ _ h => h) (Or.inl ⟨by first | kernel_rfl | rfl, ?_⟩) (by assumption) ?_
      rotate_left
      · (intro wq hSw; (try dsimp only at hSw); (try simp (maxSteps := 2000000) only [List.getElem_toArray, List.getElem_cons_succ, List.getElem_cons_zero]); go_simp); try with_reducible rfl
      try simp (maxSteps := 2000000) only [List.getElem_toArray, List.getElem_cons_succ, List.getElem_cons_zero, Act.put, List.setIfInBounds_toArray, List.set_cons_zero, List.set_cons_succ]
      refine wpAnyH_take (i := 2) (v := ?_) rfl (by kernel_rfl) (by kernel_rfl) (by kernel_rfl) (fun _ _ _ h => h) (Or.inl ⟨by first | kernel_rfl | rfl, ?_⟩) (by assumption) ?_
      rotate_left
      · (intro wq hSw; (try dsimp only at hSw); (try simp (maxSteps := 2000000) only [List.getElem_toArray, List.getElem_cons_succ, List.getElem_cons_zero]); go_simp); try with_reducible rfl
      try simp (maxSteps := 2000000) only [List.getElem_toArray, List.getElem_cons_succ, List.getElem_cons_zero, Act.put, List.setIfInBounds_toArray, List.set_cons_zero, List.set_cons_succ]
      refine wpAnyH_take (i := 3) (v := ?_) rfl (by kernel_rfl) (by kernel_rfl) (by kernel_rfl) (fun _ _ _ h => h) (Or.inl ⟨by first | kernel_rfl | rfl, ?_⟩) (by assumption) ?_
      rotate_left
      · (intro wq hSw; (try dsimp only at hSw); (try simp (maxSteps := 2000000) only [List.getElem_toArray, List.getElem_cons_succ, List.getElem_cons_zero]); go_simp); try with_reducible rfl
      try simp (maxSteps := 2000000) only [List.getElem_toArray, List.getElem_cons_succ, List.getElem_cons_zero, Act.put, List.setIfInBounds_toArray, List.set_cons_zero, List.set_cons_succ]
      refine wpAnyH_take (i := 4) (v := ?_) rfl (by kernel_rfl) (by kernel_rfl) (by kernel_rfl) (fun _ _ _ h => h) (Or.inl ⟨by first | kernel_rfl | rfl, ?_⟩) (by assumption) ?_
      rotate_left
      · (intro wq hSw; (try dsimp only at hSw); (try simp (maxSteps := 2000000) only [List.getElem_toArray, List.getElem_cons_succ, List.getElem_cons_zero]); go_simp); try with_reducible rfl
      try simp (maxSteps := 2000000) only [List.getElem_toArray, List.getElem_cons_succ, List.getElem_cons_zero, Act.put, List.setIfInBounds_toArray, List.set_cons_zero, List.set_cons_succ]
      refine wpAnyH_take (i := 5) (v := ?_) rfl (by kernel_rfl) (by kernel_rfl) (by kernel_rfl) (fun _ _ _ h => h) (Or.inl ⟨by first | kernel_rfl | rfl, ?_⟩) (by assumption) ?_
      rotate_left
      · (intro wq hSw; (try dsimp only at hSw); (try simp (maxSteps := 2000000) only [List.getElem_toArray, List.getElem_cons_succ, List.getElem_cons_zero]); go_simp); try with_reducible rfl
      try simp (maxSteps := 2000000) only [List.getElem_toArray, List.getElem_cons_succ, List.getElem_cons_zero, Act.put, List.setIfInBounds_toArray, List.set_cons_zero, List.set_cons_succ]
      refine wpAnyH_take (i := 6) (v := ?_) rfl (by kernel_rfl) (by kernel_rfl) (by kernel_rfl) (fun _ _ _ h => h) (Or.inl ⟨by first | kernel_rfl | rfl, ?_⟩) (by assumption) ?_
      rotate_left
      · (intro wq hSw; (try dsimp only at hSw); (try simp (maxSteps := 2000000) only [List.getElem_toArray, List.getElem_cons_succ, List.getElem_cons_zero]); go_simp); try with_reducible rfl
      try simp (maxSteps := 2000000) only [List.getElem_toArray, List.getElem_cons_succ, List.getElem_cons_zero, Act.put, List.setIfInBounds_toArray, List.set_cons_zero, List.set_cons_succ]
      refine wpAnyH_ready (rs := [7]) (by kernel_rfl) (by simp) ?_
      refine AllReadyH.cons rfl (fun K hK => ?_) AllReadyH.nil
      try simp (maxSteps := 2000000) only [List.getElem_toArray, List.getElem_cons_succ, List.getElem_cons_zero]
      go_simp
      refine (put_any (k := y.key) (v := y.vers) (Lib.hid (HIx.out.below (Below.refl _ _).drew).tree) hbasex HE9 hlen9).mono ?_
      rintro e wz ⟨pb, F9, rfl, hT9, hk9, hF9⟩
      have hcz : wz.cell? ⟨s, 0, none⟩ = some (.pointer (some ⟨t, 0, none⟩)) ∧ wz.cell? ⟨vb, 0, none⟩ = some (.string y.key) := ⟨(World.cell?_of_block (a := ⟨s, 0, none⟩) (hk9.block s hsx HIx.out.sF)).trans hcs.1, (World.cell?_of_block (a := ⟨vb, 0, none⟩) (hk9.block vb hvbx hvbF)).trans hcs.2⟩
      replace hHeld := hcz
      try (go_wp2_with fail)
      refine hK.out _ _ (by first | assumption | exact hcs) (fun hHeld => ?_)
      clear hK K
      try simp (maxSteps := 2000000) only [List.getElem_toArray, List.getElem_cons_succ, List.getElem_cons_zero, Act.put, List.setIfInBounds_toArray, List.set_cons_zero, List.set_cons_succ]
      refine wpAnyH_done (by kernel_rfl) ?_ _
      have hput : putE (l.take k) y.key y.vers = l.take (k + 1) := by
        rw [putE_snoc y.vers (fun x hx => HP.out x hx y.key HLK.out), List.take_add_one, HY.out]; rfl
      have hfin : MvM wz w.heap.size s (l.take (k + 1)) 0 (fun q => q = s ∨ F9 q ∨ (S0 q ∨ (w3.heap.size ≤ q ∧ q < wd.heap.size))) := by
        rw [← hput]
        refine ⟨t, _, F9, ⟨HIx.out.box.keeps (Keep.trans (Keep.of_below (F := F0) (Below.refl _ _).drew) hk9 (fun k h _ => h)) HIx.out.sF, hT9, fun h => ?_, HIx.out.sS, HIx.out.ge, fun b hb => ⟨(HIx.out.geS b hb).1, Nat.lt_of_lt_of_le (HIx.out.geS b hb).2 hk9.size⟩⟩, rfl⟩
        rcases hF9 s h with h | h
        · exact HIx.out.sF h
        · have h2 : wd.heap.size ≤ s := h
          omega
      have HFN := Lib.hid hfin
      have HWz := Lib.hid (((Keep.of_below (F := F0) HWd.out).trans (Keep.trans (Keep.of_below (F := F0) (Below.refl _ _).drew) hk9 (fun k h _ => h)) (fun q h _ => h)).below (Nat.le_refl _) (fun q h => (HI.out.tree.lt h).1) : Below w.heap.size w wz)
      have HPN : Hid (∀ x ∈ l.take (k + 1), ∀ key, KLt y.key key → KLt x.key key) := Lib.hid (fun x hx key hkey => by
        rw [List.take_add_one, HY.out] at hx
        rcases List.mem_append.1 hx with hx | hx
        · exact HP.out x hx key (bl_trans HLK.out hkey)
        · simp at hx; subst hx; exact hkey)
      clear hfin hT9 hk9 hF9 hcs hcz hHeld hput
      go_wp2_with fail
      exact ⟨⟨k + 1, y.key, _, by omega, by go_num, rfl, HFN, HWz, HOK, HPN⟩, by simp [intOf]; omega⟩
    · have q1 : ¬ (k : Int) < (n : Int) := by omega
      have hkn : k = n := by omega
      subst hkn
      obtain ⟨t, S0, F0, J, rfl⟩ := HM.out
      rw [List.take_of_length_le (by omega)] at J
      have hokk : fromOk last ⟨#[]⟩ l = true := by rw [HO.out, List.drop_of_length_le (by omega)]; rfl
      have s1 := J.box.cell 1
      have f1 := J.box.frozen 1
      have X5 := J.box.set 1 (.int .u64 last)
      have hkt : Keep (fun k => k = s) wr (wr.setCell ⟨s, 1, none⟩ (.int .u64 last)) := setCell_keep wr s 1 _ rfl
      have hfin : FromP w l last (.returned (.pointer (some ⟨s, 0, none⟩))) (wr.setCell ⟨s, 1, none⟩ (.int .u64 last)) := by
        refine ⟨((Keep.of_below HW.out).trans hkt (fun q h _ => h) : Keep (fun q => q = s) w _).below (Nat.le_refl _) (fun q h => by subst h; exact J.ge), ?_⟩
        rw [hokk, if_pos rfl]
        exact ⟨s, _, rfl, t, S0, F0, ⟨by simpa using X5, J.tree.keep hkt (fun k h e => J.sF (e ▸ h)) (fun b hb e => J.sS (e ▸ hb)), J.sF, J.sS, J.ge, fun b hb => ⟨(J.geS b hb).1, Nat.lt_of_lt_of_le (J.geS b hb).2 hkt.size⟩⟩, rfl⟩
      have HFIN := Lib.hid hfin
      clear hfin hkt X5 J hokk
      go_wp2_with fail
      go_ret
      exact HFIN.out
end Go.Proofs.Ytpibaahiboajhaa
