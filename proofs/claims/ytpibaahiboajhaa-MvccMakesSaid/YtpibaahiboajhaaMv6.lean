/-
  A store's rows in a span, handed to a function.
-/
import Derived.Test.YtpibaahiboajhaaMv5
import Derived.Test.YtpibaahiboajhaaTre13
set_option linter.unusedSimpArgs false
set_option linter.unusedVariables false
namespace Go.Proofs.Ytpibaahiboajhaa
open Go.RowKit Go.Cib
attribute [local go_sem] cell_set Later.cell Later.frozen Grw.cell Grw.frozen

def spanE (f t : ByteArray) (L : List Ent) : List Ent := (fromE f L).takeWhile fun y => inB f t y.key
theorem walkE_all (f t : ByteArray) (L : List Ent) : walkE f t (L.length : Int) L = spanE f t L := by
  unfold walkE spanE
  rw [Int.toNat_natCast, List.take_of_length_le]
  exact Nat.le_trans (List.takeWhile_sublist _).length_le (List.length_filter_le _ _)
theorem spanE_len (f t : ByteArray) (L : List Ent) : (spanE f t L).length ≤ L.length := Nat.le_trans (List.takeWhile_sublist _).length_le (List.length_filter_le _ _)
theorem spanE_mem {f t : ByteArray} {L : List Ent} {y : Ent} (h : y ∈ spanE f t L) : y ∈ L := (List.mem_filter.1 ((List.takeWhile_sublist _).subset h)).1
/-- What comes of rows, one by one. -/
def RowsP (w : World) (ob : Nat) (es : List Ent) (J Jx : List Ent → Value → World → Prop) (e : Ending) (w' : World) : Prop :=
  e = .returned (.tuple #[]) ∧ Keep (fun q => q = ob) w w' ∧ ((∃ v, J es v w') ∨ ∃ seen v, seen <+: es ∧ Jx seen v w')
theorem rows_keep {w wq w1 wr : World} {ob : Nat} (hob : ob < w.heap.size) (h1 : Below w.heap.size w wq) (h2 : Below wq.heap.size wq w1) (h3 : Keep (fun q => q = ob ∨ w1.heap.size ≤ q) w1 wr) : Keep (fun q => q = ob) w wr := by
  have h12 := h1.trans (h2.mono h1.size)
  refine (Keep.of_below h12).trans h3 (fun q h hl => ?_)
  rcases h with h | h
  · exact h
  · have := h12.size; omega
set_option maxRecDepth 100000 in
set_option maxHeartbeats 8000000 in
theorem rows_any {w : World} {base s : Nat} {L : List Ent} {last : Int} {F : Nat → Prop} (HM : Hid (MvM w base s L last F)) (hll : L.length ≤ 1000000) (f to : ByteArray) (g ob : Nat) (lb : Array Value) (J Jx : List Ent → Value → World → Prop)
    (hg : ∀ args w, (callFunc g args).run Try.prog w = .ok (.enter g args) w)
    (hob : ob < w.heap.size) (hF : ∀ q, F q → q ≠ ob) (hJ0 : J [] (.slice none 0 0) w) (hJb : ∀ seen v W W', J seen v W → Below W.heap.size W W' → J seen v W')
    (hstep : ∀ seen v y VA vm vc W, J seen v W → seen.length < L.length → y ∈ L → vm ≤ vc → Hid (RdL VerR 5 (fun _ => True) W VA vm y.vers) → Calls Try.prog g (#[.string y.key, .slice VA vm vc] ++ lb) W fun e W' => ∃ b v', e = .returned (.bool b) ∧ Keep (fun q => q = ob ∨ v.ownBlock = some q) W W' ∧
      (v'.ownBlock = v.ownBlock ∨ ∃ g, v'.ownBlock = some g ∧ W.heap.size ≤ g) ∧ (if b then J (seen ++ [y]) v' W' else Jx (seen ++ [y]) v' W')) :
    Calls Try.prog 75 #[.pointer (some ⟨s, 0, none⟩), .agg #[.string f, .string to], .func (.func g) #[] lb] w (RowsP w ob (spanE f to L) J Jx) := by
  obtain ⟨t, S, F0, I, rfl⟩ := HM.out
  have X0 := BoxAt.new w #[.string f, .string to] 56
  have hal0 : Below w.heap.size w (w.alloc (.cells #[.string f, .string to] 56)) := (Below.refl _ _).alloc (Nat.le_refl _) _
  obtain ⟨wq, hw0⟩ : ∃ wq, w.alloc (.cells #[.string f, .string to] 56) = wq := ⟨_, rfl⟩
  obtain ⟨rb, hrb⟩ : ∃ rb, w.heap.size = rb := ⟨_, rfl⟩
  rw [hw0] at X0 hal0
  rw [hrb] at X0
  have HI := Lib.hid (I.below hal0)
  have hnone := mvnone_is wq HI.out.box
  have HAL := Lib.hid hal0
  have HJ0 := Lib.hid (hJb _ _ _ _ hJ0 hal0)
  have z0 := fun w' (hb : Below wq.heap.size wq w') => (hb.cell (p := ⟨rb, 0, none⟩) X0.lt).trans (X0.cell 0)
  have z1 := fun w' (hb : Below wq.heap.size wq w') => (hb.cell (p := ⟨rb, 1, none⟩) X0.lt).trans (X0.cell 1)
  have hsx := HI.out.box.lt
  have u0 := fun w' (hb : Below wq.heap.size wq w') => (hb.cell (p := ⟨s, 0, none⟩) hsx).trans (HI.out.box.cell 0)
  have k0 := X0.cell 0
  have k1 := X0.cell 1
  have k2 := HI.out.box.cell 0
  have hS0 : ∀ q, S q → q < rb := fun q hq => hrb ▸ (I.geS q hq).2
  clear I X0 hal0 HM hJ0
  go_enter Try.func75, Try.ntmps75
  go_wp2_with fail
  refine hnone.mono ?_
  rintro e wn ⟨rfl, hwn⟩
  replace hwn := hwn.symm
  subst hwn
  go_wp2_with fail
  refine wp_region_held_drew (S := fun w' => Below wq.heap.size wq w') (by kernel_rfl) (by first | assumption | exact Below.refl _ _ | exact (Below.refl _ _).drew) (fun hHeld => ?_)
  refine wpAnyH_take (i := 0) (v := ?_) rfl (by kernel_rfl) (by kernel_rfl) (by kernel_rfl) (fun _ _ _ h => h) (Or.inl ⟨by first | kernel_rfl | rfl, ?_⟩) (by assumption) ?_
  rotate_left
  · (intro wq hSw; (try dsimp only at hSw); (try simp (maxSteps := 2000000) only [List.getElem_toArray, List.getElem_cons_succ, List.getElem_cons_zero]); go_simp); try with_reducible rfl
  try simp (maxSteps := 2000000) only [List.getElem_toArray, List.getElem_cons_succ, List.getElem_cons_zero, Act.put, List.setIfInBounds_toArray, List.set_cons_zero, List.set_cons_succ]
  refine wpAnyH_take (i := 1) (v := ?_) rfl (by kernel_rfl) (by kernel_rfl) (by kernel_rfl) (fun _ _ _ h => h) (Or.inl ⟨by first | kernel_rfl | rfl, ?_⟩) (by assumption) ?_
  rotate_left
  · (intro wq hSw; (try dsimp only at hSw); (try simp (maxSteps := 2000000) only [List.getElem_toArray, List.getElem_cons_succ, List.getElem_cons_zero]); go_simp); try with_reducible rfl
  try simp (maxSteps := 2000000) only [List.getElem_toArray, List.getElem_cons_succ, List.getElem_cons_zero, Act.put, List.setIfInBounds_toArray, List.set_cons_zero, List.set_cons_succ]
  refine wpAnyH_take (i := 2) (v := ?_) rfl (by kernel_rfl) (by kernel_rfl) (by kernel_rfl) (fun _ _ _ h => h) (Or.inl ⟨by first | kernel_rfl | rfl, ?_⟩) (by assumption) ?_
  rotate_left
  · (intro wq hSw; (try dsimp only at hSw); (try simp (maxSteps := 2000000) only [List.getElem_toArray, List.getElem_cons_succ, List.getElem_cons_zero]); go_simp); try with_reducible rfl
  try simp (maxSteps := 2000000) only [List.getElem_toArray, List.getElem_cons_succ, List.getElem_cons_zero, Act.put, List.setIfInBounds_toArray, List.set_cons_zero, List.set_cons_succ]
  refine wpAnyH_take (i := 3) (v := ?_) rfl (by kernel_rfl) (by kernel_rfl) (by kernel_rfl) (fun _ _ _ h => h) (Or.inl ⟨by first | kernel_rfl | rfl, ?_⟩) (by assumption) ?_
  rotate_left
  · (intro wq hSw; (try dsimp only at hSw); (try simp (maxSteps := 2000000) only [List.getElem_toArray, List.getElem_cons_succ, List.getElem_cons_zero]); go_simp); try with_reducible rfl
  try simp (maxSteps := 2000000) only [List.getElem_toArray, List.getElem_cons_succ, List.getElem_cons_zero, Act.put, List.setIfInBounds_toArray, List.set_cons_zero, List.set_cons_succ]
  refine wpAnyH_take (i := 4) (v := ?_) rfl (by kernel_rfl) (by kernel_rfl) (by kernel_rfl) (fun _ _ _ h => h) (Or.inl ⟨by first | kernel_rfl | rfl, ?_⟩) (by assumption) ?_
  rotate_left
  · (intro wq hSw; (try dsimp only at hSw); (try simp (maxSteps := 2000000) only [List.getElem_toArray, List.getElem_cons_succ, List.getElem_cons_zero]); go_simp); try with_reducible rfl
  try simp (maxSteps := 2000000) only [List.getElem_toArray, List.getElem_cons_succ, List.getElem_cons_zero, Act.put, List.setIfInBounds_toArray, List.set_cons_zero, List.set_cons_succ]
  refine wpAnyH_take (i := 5) (v := ?_) rfl (by kernel_rfl) (by kernel_rfl) (by kernel_rfl) (fun _ _ _ h => h) (Or.inl ⟨by first | kernel_rfl | rfl, ?_⟩) (by assumption) ?_
  rotate_left
  · (intro wq hSw; (try dsimp only at hSw); (try simp (maxSteps := 2000000) only [List.getElem_toArray, List.getElem_cons_succ, List.getElem_cons_zero]); go_simp); try with_reducible rfl
  try simp (maxSteps := 2000000) only [List.getElem_toArray, List.getElem_cons_succ, List.getElem_cons_zero, Act.put, List.setIfInBounds_toArray, List.set_cons_zero, List.set_cons_succ]
  refine wpAnyH_take (i := 6) (v := ?_) rfl (by kernel_rfl) (by kernel_rfl) (by kernel_rfl) (fun _ _ _ h => h) (Or.inl ⟨by first | kernel_rfl | rfl, ?_⟩) (by assumption) ?_
  rotate_left
  · (intro wq hSw; (try dsimp only at hSw); (try simp (maxSteps := 2000000) only [List.getElem_toArray, List.getElem_cons_succ, List.getElem_cons_zero]); go_simp); try with_reducible rfl
  try simp (maxSteps := 2000000) only [List.getElem_toArray, List.getElem_cons_succ, List.getElem_cons_zero, Act.put, List.setIfInBounds_toArray, List.set_cons_zero, List.set_cons_succ]
  refine wpAnyH_take (i := 7) (v := ?_) rfl (by kernel_rfl) (by kernel_rfl) (by kernel_rfl) (fun _ _ _ h => h) (Or.inl ⟨by first | kernel_rfl | rfl, ?_⟩) (by assumption) ?_
  rotate_left
  · (intro wq hSw; (try dsimp only at hSw); (try simp (maxSteps := 2000000) only [List.getElem_toArray, List.getElem_cons_succ, List.getElem_cons_zero]); go_simp); try with_reducible rfl
  try simp (maxSteps := 2000000) only [List.getElem_toArray, List.getElem_cons_succ, List.getElem_cons_zero, Act.put, List.setIfInBounds_toArray, List.set_cons_zero, List.set_cons_succ]
  refine wpAnyH_take (i := 8) (v := ?_) rfl (by kernel_rfl) (by kernel_rfl) (by kernel_rfl) (fun _ _ _ h => h) (Or.inl ⟨by first | kernel_rfl | rfl, ?_⟩) (by assumption) ?_
  rotate_left
  · (intro wq hSw; (try dsimp only at hSw); (try simp (maxSteps := 2000000) only [List.getElem_toArray, List.getElem_cons_succ, List.getElem_cons_zero]); go_simp); try with_reducible rfl
  try simp (maxSteps := 2000000) only [List.getElem_toArray, List.getElem_cons_succ, List.getElem_cons_zero, Act.put, List.setIfInBounds_toArray, List.set_cons_zero, List.set_cons_succ]
  refine wpAnyH_take (i := 12) (v := ?_) rfl (by kernel_rfl) (by kernel_rfl) (by kernel_rfl) (fun _ _ _ h => h) (Or.inl ⟨by first | kernel_rfl | rfl, ?_⟩) (by assumption) ?_
  rotate_left
  · (intro wq hSw; (try dsimp only at hSw); (try simp (maxSteps := 2000000) only [List.getElem_toArray, List.getElem_cons_succ, List.getElem_cons_zero]); go_simp); try with_reducible rfl
  try simp (maxSteps := 2000000) only [List.getElem_toArray, List.getElem_cons_succ, List.getElem_cons_zero, Act.put, List.setIfInBounds_toArray, List.set_cons_zero, List.set_cons_succ]
  refine wpAnyH_ready (rs := [9]) (by kernel_rfl) (by simp) ?_
  refine AllReadyH.cons rfl (fun K hK => ?_) AllReadyH.nil
  try simp (maxSteps := 2000000) only [List.getElem_toArray, List.getElem_cons_succ, List.getElem_cons_zero]
  go_simp
  refine (tlen_any (Lib.hid (HI.out.below (Below.refl _ _).drew).tree)).mono ?_
  rintro e wl ⟨rfl, hwl⟩
  replace hwl := hwl.symm
  subst hwl
  try (go_wp2_with fail)
  refine hK.out _ _ (by first | assumption | exact Below.refl _ _ | exact (Below.refl _ _).drew) (fun hHeld => ?_)
  clear hK K
  try simp (maxSteps := 2000000) only [List.getElem_toArray, List.getElem_cons_succ, List.getElem_cons_zero, Act.put, List.setIfInBounds_toArray, List.set_cons_zero, List.set_cons_succ]
  refine wpAnyH_ready (rs := [10]) (by kernel_rfl) (by simp) ?_
  refine AllReadyH.cons rfl (fun K hK => ?_) AllReadyH.nil
  try simp (maxSteps := 2000000) only [List.getElem_toArray, List.getElem_cons_succ, List.getElem_cons_zero]
  go_simp
  refine (walk_any (Lib.hid (HI.out.below (Below.refl _ _).drew).tree) f to (L.length : Int) hll).mono ?_
  rintro e w1 ⟨v, rfl, hO, hbW⟩
  replace hHeld : Below wq.heap.size wq w1 := (Below.refl _ _).drew.trans hbW
  rw [walkE_all] at hO
  obtain ⟨A1, c1, rfl, hc1⟩ := OwnL.form hO
  try (go_wp2_with fail)
  refine hK.out _ _ (by first | assumption | exact Below.refl _ _ | exact (Below.refl _ _).drew) (fun hHeld => ?_)
  clear hK K
  try simp (maxSteps := 2000000) only [List.getElem_toArray, List.getElem_cons_succ, List.getElem_cons_zero, Act.put, List.setIfInBounds_toArray, List.set_cons_zero, List.set_cons_succ]
  refine wpAnyH_take (i := 11) (v := ?_) rfl (by kernel_rfl) (by kernel_rfl) (by kernel_rfl) (fun _ _ _ h => h) (Or.inl ⟨by first | kernel_rfl | rfl, ?_⟩) (by assumption) ?_
  rotate_left
  · (intro wq hSw; (try dsimp only at hSw); (try simp (maxSteps := 2000000) only [List.getElem_toArray, List.getElem_cons_succ, List.getElem_cons_zero]); go_simp); try with_reducible rfl
  try simp (maxSteps := 2000000) only [List.getElem_toArray, List.getElem_cons_succ, List.getElem_cons_zero, Act.put, List.setIfInBounds_toArray, List.set_cons_zero, List.set_cons_succ]
  refine wpAnyH_done (by kernel_rfl) ?_ _
  have HB1 := Lib.hid hHeld
  have hO2 := Lib.hid hO
  have hsz1 := hHeld.size
  have hrq : rb < wq.heap.size := by have := HAL.out.size; rw [← hw0, World.size_alloc]; omega
  have hJ1 := Lib.hid (hJb _ _ _ _ HJ0.out hHeld)
  have hel := spanE_len f to L
  obtain ⟨es, hes⟩ : ∃ es, spanE f to L = es := ⟨_, rfl⟩
  have hmem : ∀ y ∈ es, y ∈ L := fun y hy => spanE_mem (hes ▸ hy)
  rw [hes] at hO2 hel ⊢
  have RL : RdL EntR 2 (fun b => (S b ∨ wq.heap.size ≤ b) ∧ b < w1.heap.size) w1 A1 es.length es := by
    obtain ⟨A, c, e, _, hr, _⟩ := OwnL.rdo EntR.stable hO2.out
    injection e with e1 e2 e3
    subst e1
    refine hr.stable EntR.stable (fun b hb hl => ⟨⟨hb.imp id (fun h => (OwnL.lt hO2.out b h).1), hl⟩, rfl⟩)
  have HRL := Lib.hid RL
  clear RL hO hbW hHeld HJ0 z0 z1 u0 k0 k1 k2 hw0 hO2
  have HF := Lib.hid (fun q (h : (S q ∨ wq.heap.size ≤ q) ∧ q < w1.heap.size) => h.1.elim (fun h => hF q (.inr (.inr h))) (fun h => by have := HAL.out.size; omega) : ∀ q, (S q ∨ wq.heap.size ≤ q) ∧ q < w1.heap.size → q ≠ ob)
  have HMEM := Lib.hid hmem
  have HES := Lib.hid hes
  clear hmem hes hF
  go_wp2_with fail
  go_loopw [22] (fun vi wr => ∃ (k : Nat) (v : Value), k ≤ es.length ∧ vi = .int .i64 k ∧ Hid (J (es.take k) v wr) ∧ Hid (Keep (fun q => q = ob ∨ w1.heap.size ≤ q) w1 wr) ∧ Hid (∀ g, v.ownBlock = some g → w1.heap.size ≤ g)) (fun vi _ => es.length - (intOf vi).toNat)
  case atStart => exact ⟨0, .slice none 0 0, Nat.zero_le _, rfl, by simpa using hJ1, Lib.hid (Keep.refl _ _), Lib.hid (fun g e => by cases e)⟩
  case round =>
    obtain ⟨k, v, hk, rfl, HJk, HK, HV⟩ := hrel
    have q0 : (0 : Int) ≤ (k : Int) := Int.natCast_nonneg _
    have hw1r := HK.out.size
    by_cases hlt : k < es.length
    · have q1 : (k : Int) < (es.length : Int) := by omega
      have RLr := HRL.out.stable (S' := fun b => (S b ∨ wq.heap.size ≤ b) ∧ b < w1.heap.size) (w' := wr) EntR.stable (fun b hb hl => ⟨hb, HK.out.block b hl (fun h => h.elim (HF.out b hb) (fun h => by omega))⟩)
      obtain ⟨b, o, rfl, _, _⟩ := RLr.addr hlt
      obtain ⟨y, VA, vm, vc, hy, hbw, ⟨_, _, _, hcs, hvm, hVR⟩, c0, c1'⟩ := ent2_at RLr hlt
      injection hcs with _ hcs
      injection hcs with hcs _
      injection hcs with e1 e2 e3
      subst e1; subst e2; subst e3
      have bx := BoxAt.new wr #[.string y.key, .slice VA vm vc] 189
      have hal : Below wr.heap.size wr (wr.alloc (.cells #[.string y.key, .slice VA vm vc] 189)) := (Below.refl _ _).alloc (Nat.le_refl _) _
      obtain ⟨vb, hvb⟩ : ∃ vb, wr.heap.size = vb := ⟨_, rfl⟩
      obtain ⟨wx, hwx⟩ : ∃ wx, wr.alloc (.cells #[.string y.key, .slice VA vm vc] 189) = wx := ⟨_, rfl⟩
      rw [hwx] at bx hal
      rw [hvb] at bx
      have k0 := bx.cell 0
      have k1 := bx.cell 1
      have hst := hstep (es.take k) v y VA vm vc wx (hJb _ _ _ _ HJk.out hal) (by rw [List.length_take]; omega) (HMEM.out y (List.mem_of_getElem? hy)) hvm (Lib.hid ((hVR.below VerR.stable hal).weaken VerR.stable (fun _ _ => trivial)))
      have htk : es.take k ++ [y] = es.take (k + 1) := by rw [List.take_add_one, hy]; rfl
      rw [htk] at hst
      have HAX := Lib.hid hal
      have hsz := hal.size
      clear bx hal RLr hVR hy htk
      go_wp2_with fail
      refine hst.mono ?_
      rintro e wy ⟨bb, v', rfl, hk2, hat, hJ2⟩
      have HK2 := Lib.hid ((HK.out.trans (Keep.of_below (F := fun _ => False) HAX.out) (fun _ h => h.elim)).trans hk2 (fun q h hl => h.elim .inl (fun h => .inr (HV.out q h))) : Keep (fun q => q = ob ∨ w1.heap.size ≤ q) w1 wy)
      have HV2 := Lib.hid (fun g e => hat.elim (fun h => HV.out g (h ▸ e)) (fun ⟨g', h1, h2⟩ => by rw [h1] at e; injection e with e; omega) : ∀ g, v'.ownBlock = some g → w1.heap.size ≤ g)
      have HJ2 := Lib.hid hJ2
      clear hk2 hat hJ2 hst
      cases bb with
      | true =>
        go_wp2_with fail
        exact ⟨⟨k + 1, v', by omega, by go_num, HJ2, HK2, HV2⟩, by simp [intOf]; omega⟩
      | false =>
        go_wp2_with fail
        refine bodyPost_ret (results_none rfl _ _ _) rfl ?_
        rw [HES.out]
        exact ⟨rfl, rows_keep (hrb ▸ hob) HAL.out HB1.out HK2.out, .inr ⟨es.take (k + 1), v', List.take_prefix _ _, HJ2.out⟩⟩
    · have q1 : ¬ (k : Int) < (es.length : Int) := by omega
      have hkn : k = es.length := by omega
      subst hkn
      rw [List.take_of_length_le (Nat.le_refl _)] at HJk
      go_wp2_with fail
      refine bodyPost_end (results_none rfl _ _ _) rfl ?_
      rw [HES.out]
      exact ⟨rfl, rows_keep (hrb ▸ hob) HAL.out HB1.out HK.out, .inl ⟨v, HJk.out⟩⟩
end Go.Proofs.Ytpibaahiboajhaa
