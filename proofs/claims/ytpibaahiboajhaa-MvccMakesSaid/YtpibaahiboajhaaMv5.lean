/-
  A record applied to a store.
-/
import Derived.Test.YtpibaahiboajhaaMv4
set_option linter.unusedSimpArgs false
set_option linter.unusedVariables false
namespace Go.Proofs.Ytpibaahiboajhaa
open Go.RowKit Go.Cib
attribute [local go_sem] cell_set Later.cell Later.frozen Grw.cell Grw.frozen

def putAll (L : List Ent) (l : List Ent) : List Ent := l.foldl (fun L e => putE L e.key e.vers) L
def applyL (L : List Ent) (last st : Int) (chs : List Chg) : Option (List Ent) := match changedL L st ⟨#[]⟩ chs with
  | some l => if st ≤ last then none else some (putAll L l)
  | none => none
theorem MvI.keep {w w' : World} {base s t : Nat} {L : List Ent} {last : Int} {S F0 G : Nat → Prop} (I : MvI w base s L last t S F0) (hk : Keep G w w') (hs : ¬ G s) (hF : ∀ k, F0 k → ¬ G k) (hS : ∀ k, S k → ¬ G k) : MvI w' base s L last t S F0 :=
  ⟨I.box.keeps hk hs, I.tree.keep hk hF hS, I.sF, I.sS, I.ge, fun b hb => ⟨(I.geS b hb).1, Nat.lt_of_lt_of_le (I.geS b hb).2 hk.size⟩⟩
theorem MvI.below {w w' : World} {base s t : Nat} {L : List Ent} {last : Int} {S F0 : Nat → Prop} (I : MvI w base s L last t S F0) (hb : Below w.heap.size w w') : MvI w' base s L last t S F0 := I.keep (Keep.of_below (F := fun _ => False) hb) (fun h => h) (fun _ _ h => h) (fun _ _ h => h)
theorem putAll_take {L l : List Ent} {k : Nat} {y : Ent} (h : l[k]? = some y) : putAll L (l.take (k + 1)) = putE (putAll L (l.take k)) y.key y.vers := by
  unfold putAll
  rw [List.take_add_one, h, List.foldl_append]; rfl
theorem putAll_len (L : List Ent) : ∀ l : List Ent, (putAll L l).length ≤ L.length + l.length
  | [] => by simp [putAll]
  | e :: l => by
    have h1 := putAll_len (putE L e.key e.vers) l
    have h2 := putE_len2 e.key e.vers L
    have h3 : putAll L (e :: l) = putAll (putE L e.key e.vers) l := rfl
    rw [h3, List.length_cons]
    omega
theorem changedL_len {L : List Ent} {st : Int} : ∀ {pk : ByteArray} {chs : List Chg} {l : List Ent}, changedL L st pk chs = some l → l.length = chs.length
  | _, [], l, h => by simp [changedL] at h; subst h; rfl
  | pk, c :: cs, l, h => by
    rw [changedL] at h
    split at h
    · split at h
      · cases hr : changedL L st c.key cs with
        | none => rw [hr] at h; cases h
        | some r => rw [hr] at h; simp at h; subst h; simp [changedL_len hr]
      · cases h
    · cases h
theorem ent2_at {S : Nat → Prop} {w : World} {b o n : Nat} {l : List Ent} (h : RdL EntR 2 S w (some ⟨b, o, none⟩) n l) {k : Nat} (hk : k < n) :
    ∃ (y : Ent) (VA : Option Addr) (vm vc : Nat), l[k]? = some y ∧ b < w.heap.size ∧ EntR S w [.string y.key, .slice VA vm vc] y ∧ w.cell? ⟨b, o + k * 2, none⟩ = some (.string y.key) ∧ w.cell? ⟨b, o + k * 2 + 1, none⟩ = some (.slice VA vm vc) := by
  obtain ⟨b', o', e, _, hb⟩ := h.addr hk
  cases e
  obtain ⟨hl, cs, h1, ⟨VA, vm, vc, rfl, h2, h3⟩, h4⟩ := h.at hk
  exact ⟨l[k], VA, vm, vc, List.getElem?_eq_getElem hl, hb, ⟨VA, vm, vc, rfl, h2, h3⟩, h4 0 _ rfl, h4 1 _ rfl⟩
def ApplyP (w : World) (base s : Nat) (L : List Ent) (last st : Int) (chs : List Chg) (F : Nat → Prop) (e : Ending) (w' : World) : Prop :=
  e = .returned (.int .i64 (if (applyL L last st chs).isSome then 0 else 2)) ∧ ∃ F', MvM w' base s ((applyL L last st chs).getD L) (if (applyL L last st chs).isSome then st else last) F' ∧ Keep F w w' ∧ ∀ k, F' k → F k ∨ w.heap.size ≤ k
theorem apply_no {w wq : World} {base s t : Nat} {L : List Ent} {last st : Int} {chs : List Chg} {S F0 : Nat → Prop} (h : applyL L last st chs = none) (hb : Below w.heap.size w wq) (I : MvI wq base s L last t S F0) : ApplyP w base s L last st chs (fun k => k = s ∨ F0 k ∨ S k) (.returned (.int .i64 2)) wq.drew := by
  unfold ApplyP
  rw [h]
  have hd : Below wq.heap.size wq wq.drew := (Below.refl _ _).drew
  exact ⟨rfl, _, ⟨t, S, F0, I.below hd, rfl⟩, Keep.of_below (hb.trans (hd.mono hb.size)), fun k h => .inl h⟩
set_option maxRecDepth 100000 in
set_option maxHeartbeats 8000000 in
theorem apply_any {w : World} {base s nb CN cc : Nat} {L : List Ent} {last st : Int} {F S2 : Nat → Prop} {CA : Option Addr} {chs : List Chg} (HM : Hid (MvM w base s L last F)) (hok : Hid (OkL nb last L)) (hnb : nb ≤ 4194302) (hll : L.length ≤ 900000) (hC : Hid (RdL ChgR 5 S2 w CA CN chs)) (hcn : CN ≤ 1000) (hsm : Hid (∀ c ∈ chs, c.blob.places.length ≤ 17592186043904)) :
    Calls Try.prog 36 #[.pointer (some ⟨s, 0, none⟩), .agg #[.int .u64 st, .slice CA CN cc]] w (ApplyP w base s L last st chs F) := by
  obtain ⟨t, S, F0, I, rfl⟩ := HM.out
  have X0 := BoxAt.new w #[.int .u64 st, .slice CA CN cc] 63
  have hal0 : Below w.heap.size w (w.alloc (.cells #[.int .u64 st, .slice CA CN cc] 63)) := (Below.refl _ _).alloc (Nat.le_refl _) _
  obtain ⟨w0, hw0⟩ : ∃ w0, w.alloc (.cells #[.int .u64 st, .slice CA CN cc] 63) = w0 := ⟨_, rfl⟩
  obtain ⟨rb, hrb⟩ : ∃ rb, w.heap.size = rb := ⟨_, rfl⟩
  rw [hw0] at X0 hal0
  rw [hrb] at X0
  have r00 := X0.cell 0
  have r01 := X0.cell 1
  have hnone := mvnone_is w0 (I.box.below hal0)
  have hch := changed_any (st := st) (cc := cc) (Lib.hid (HM.out.below hal0)) hok hnb (Lib.hid (hC.out.below ChgR.stable hal0)) hcn hsm
  have HI := Lib.hid I
  have HX0 := Lib.hid X0
  have HAL0 := Lib.hid hal0
  have hsw := I.box.lt
  have hs0 : w0.heap.size = rb + 1 := by rw [← hw0, World.size_alloc, hrb]
  have HS0 := Lib.hid hs0
  clear X0 hal0 I hs0
  go_enter Try.func36, Try.ntmps36
  go_wp2_with fail
  refine hnone.mono ?_
  rintro e wn ⟨rfl, hwn⟩
  replace hwn := hwn.symm
  subst hwn
  go_wp2_with fail
  refine hch.mono ?_
  rintro e wq ⟨v, rfl, hO, hb⟩
  obtain ⟨A1, c1, rfl, hc1⟩ := OwnL.form hO
  have hcl := hC.out.1
  have HXq := Lib.hid (HX0.out.below hb)
  have HIq := Lib.hid ((HI.out.below HAL0.out).below hb)
  have HB := Lib.hid hb
  have HBw := Lib.hid (HAL0.out.trans (hb.mono HAL0.out.size))
  have HO := Lib.hid hO
  have hsq : s < wq.heap.size := HIq.out.box.lt
  have hwq : rb < wq.heap.size := HXq.out.lt
  have u0 := fun w' (hb : Below wq.heap.size wq w') => (hb.cell (p := ⟨rb, 0, none⟩) hwq).trans (HXq.out.cell 0)
  have u1 := fun w' (hb : Below wq.heap.size wq w') => (hb.cell (p := ⟨s, 1, none⟩) hsq).trans (HIq.out.box.cell 1)
  have k0 := HXq.out.cell 0
  have k1 := HIq.out.box.cell 1
  clear hch hb hO r00 r01 hnone
  cases hcd : changedL L st ⟨#[]⟩ chs with
  | none =>
    have HF := Lib.hid (by unfold applyL; rw [hcd] : applyL L last st chs = none)
    clear HO hcd
    go_wp2_with fail
    refine wp_region_held_drew (S := fun w' => Below wq.heap.size wq w') (by kernel_rfl) (by first | assumption | exact Below.refl _ _ | exact (Below.refl _ _).drew) (fun hHeld => ?_)
    refine wpAnyH_take (i := 0) (v := ?_) rfl (by kernel_rfl) (by kernel_rfl) (by kernel_rfl) (fun _ _ _ h => h) (Or.inl ⟨by first | kernel_rfl | rfl, ?_⟩) (by assumption) ?_
    rotate_left
    · (intro wq hSw; (try dsimp only at hSw); (try simp (maxSteps := 2000000) only [List.getElem_toArray, List.getElem_cons_succ, List.getElem_cons_zero]); go_simp); try with_reducible rfl
    try simp (maxSteps := 2000000) only [List.getElem_toArray, List.getElem_cons_succ, List.getElem_cons_zero, Act.put, List.setIfInBounds_toArray, List.set_cons_zero, List.set_cons_succ]
    refine wpAnyH_take (i := 1) (v := ?_) rfl (by kernel_rfl) (by kernel_rfl) (by kernel_rfl) (fun _ _ _ h => h) (Or.inl ⟨by first | kernel_rfl | rfl, ?_⟩) (by assumption) ?_
    rotate_left
    · (intro wq hSw; (try dsimp only at hSw); (try simp (maxSteps := 2000000) only [List.getElem_toArray, List.getElem_cons_succ, List.getElem_cons_zero]); go_simp); try with_reducible rfl
    try simp (maxSteps := 2000000) only [List.getElem_toArray, List.getElem_cons_succ, List.getElem_cons_zero, Act.put, List.setIfInBounds_toArray, List.set_cons_zero, List.set_cons_succ]
    refine wpAnyH_take (i := 2) (v := ?_) rfl (by kernel_rfl) (by kernel_rfl) (by kernel_rfl) (fun _ _ _ h => h) (Or.inl ⟨by first | kernel_rfl | rfl, ?_⟩) (by assumption) ?_
    rotate_left
    · (intro wq hSw; (try dsimp only at hSw); (try simp (maxSteps := 2000000) only [List.getElem_toArray, List.getElem_cons_succ, List.getElem_cons_zero]); go_simp); try with_reducible rfl
    try simp (maxSteps := 2000000) only [List.getElem_toArray, List.getElem_cons_succ, List.getElem_cons_zero, Act.put, List.setIfInBounds_toArray, List.set_cons_zero, List.set_cons_succ]
    refine wpAnyH_take (i := 3) (v := undef) rfl (by kernel_rfl) (by kernel_rfl) (by kernel_rfl) (fun _ _ _ h => h) (Or.inr ⟨by first | kernel_rfl | rfl, rfl⟩) (by assumption) ?_
    try simp (maxSteps := 2000000) only [List.getElem_toArray, List.getElem_cons_succ, List.getElem_cons_zero, Act.put, List.setIfInBounds_toArray, List.set_cons_zero, List.set_cons_succ]
    refine wpAnyH_take (i := 4) (v := undef) rfl (by kernel_rfl) (by kernel_rfl) (by kernel_rfl) (fun _ _ _ h => h) (Or.inr ⟨by first | kernel_rfl | rfl, rfl⟩) (by assumption) ?_
    try simp (maxSteps := 2000000) only [List.getElem_toArray, List.getElem_cons_succ, List.getElem_cons_zero, Act.put, List.setIfInBounds_toArray, List.set_cons_zero, List.set_cons_succ]
    refine wpAnyH_take (i := 5) (v := undef) rfl (by kernel_rfl) (by kernel_rfl) (by kernel_rfl) (fun _ _ _ h => h) (Or.inr ⟨by first | kernel_rfl | rfl, rfl⟩) (by assumption) ?_
    try simp (maxSteps := 2000000) only [List.getElem_toArray, List.getElem_cons_succ, List.getElem_cons_zero, Act.put, List.setIfInBounds_toArray, List.set_cons_zero, List.set_cons_succ]
    refine wpAnyH_take (i := 6) (v := undef) rfl (by kernel_rfl) (by kernel_rfl) (by kernel_rfl) (fun _ _ _ h => h) (Or.inr ⟨by first | kernel_rfl | rfl, rfl⟩) (by assumption) ?_
    try simp (maxSteps := 2000000) only [List.getElem_toArray, List.getElem_cons_succ, List.getElem_cons_zero, Act.put, List.setIfInBounds_toArray, List.set_cons_zero, List.set_cons_succ]
    refine wpAnyH_take (i := 7) (v := undef) rfl (by kernel_rfl) (by kernel_rfl) (by kernel_rfl) (fun _ _ _ h => h) (Or.inr ⟨by first | kernel_rfl | rfl, rfl⟩) (by assumption) ?_
    try simp (maxSteps := 2000000) only [List.getElem_toArray, List.getElem_cons_succ, List.getElem_cons_zero, Act.put, List.setIfInBounds_toArray, List.set_cons_zero, List.set_cons_succ]
    refine wpAnyH_take (i := 8) (v := undef) rfl (by kernel_rfl) (by kernel_rfl) (by kernel_rfl) (fun _ _ _ h => h) (Or.inr ⟨by first | kernel_rfl | rfl, rfl⟩) (by assumption) ?_
    try simp (maxSteps := 2000000) only [List.getElem_toArray, List.getElem_cons_succ, List.getElem_cons_zero, Act.put, List.setIfInBounds_toArray, List.set_cons_zero, List.set_cons_succ]
    refine wpAnyH_take (i := 9) (v := undef) rfl (by kernel_rfl) (by kernel_rfl) (by kernel_rfl) (fun _ _ _ h => h) (Or.inr ⟨by first | kernel_rfl | rfl, rfl⟩) (by assumption) ?_
    try simp (maxSteps := 2000000) only [List.getElem_toArray, List.getElem_cons_succ, List.getElem_cons_zero, Act.put, List.setIfInBounds_toArray, List.set_cons_zero, List.set_cons_succ]
    refine wpAnyH_take (i := 10) (v := ?_) rfl (by kernel_rfl) (by kernel_rfl) (by kernel_rfl) (fun _ _ _ h => h) (Or.inl ⟨by first | kernel_rfl | rfl, ?_⟩) (by assumption) ?_
    rotate_left
    · (intro wq hSw; (try dsimp only at hSw); (try simp (maxSteps := 2000000) only [List.getElem_toArray, List.getElem_cons_succ, List.getElem_cons_zero]); go_simp); try with_reducible rfl
    try simp (maxSteps := 2000000) only [List.getElem_toArray, List.getElem_cons_succ, List.getElem_cons_zero, Act.put, List.setIfInBounds_toArray, List.set_cons_zero, List.set_cons_succ]
    refine wpAnyH_done (by kernel_rfl) ?_ _
    go_wp2_with fail
    go_ret
    exact apply_no HF.out HBw.out HIq.out
  | some l =>
    have HF := Lib.hid (by unfold applyL; rw [hcd] : applyL L last st chs = if st ≤ last then none else some (putAll L l))
    have hll2 : l.length ≤ 1000 := by rw [changedL_len hcd, hcl]; exact hcn
    rw [hcd] at HO
    clear hcd
    by_cases hle : st ≤ last
    · have q1 : decide (st ≤ last) = true := decide_eq_true hle
      rw [if_pos hle] at HF
      clear hle
      go_wp2_with fail
      refine wp_region_held_drew (S := fun w' => Below wq.heap.size wq w') (by kernel_rfl) (by first | assumption | exact Below.refl _ _ | exact (Below.refl _ _).drew) (fun hHeld => ?_)
      refine wpAnyH_take (i := 0) (v := ?_) rfl (by kernel_rfl) (by kernel_rfl) (by kernel_rfl) (fun _ _ _ h => h) (Or.inl ⟨by first | kernel_rfl | rfl, ?_⟩) (by assumption) ?_
      rotate_left
      · (intro wq hSw; (try dsimp only at hSw); (try simp (maxSteps := 2000000) only [List.getElem_toArray, List.getElem_cons_succ, List.getElem_cons_zero]); go_simp); try with_reducible rfl
      try simp (maxSteps := 2000000) only [List.getElem_toArray, List.getElem_cons_succ, List.getElem_cons_zero, Act.put, List.setIfInBounds_toArray, List.set_cons_zero, List.set_cons_succ]
      refine wpAnyH_take (i := 1) (v := ?_) rfl (by kernel_rfl) (by kernel_rfl) (by kernel_rfl) (fun _ _ _ h => h) (Or.inl ⟨by first | kernel_rfl | rfl, ?_⟩) (by assumption) ?_
      rotate_left
      · (intro wq hSw; (try dsimp only at hSw); (try simp (maxSteps := 2000000) only [List.getElem_toArray, List.getElem_cons_succ, List.getElem_cons_zero]); go_simp); try with_reducible rfl
      try simp (maxSteps := 2000000) only [List.getElem_toArray, List.getElem_cons_succ, List.getElem_cons_zero, Act.put, List.setIfInBounds_toArray, List.set_cons_zero, List.set_cons_succ]
      refine wpAnyH_take (i := 2) (v := ?_) rfl (by kernel_rfl) (by kernel_rfl) (by kernel_rfl) (fun _ _ _ h => h) (Or.inl ⟨by first | kernel_rfl | rfl, ?_⟩) (by assumption) ?_
      rotate_left
      · (intro wq hSw; (try dsimp only at hSw); (try simp (maxSteps := 2000000) only [List.getElem_toArray, List.getElem_cons_succ, List.getElem_cons_zero]); go_simp); try with_reducible rfl
      try simp (maxSteps := 2000000) only [List.getElem_toArray, List.getElem_cons_succ, List.getElem_cons_zero, Act.put, List.setIfInBounds_toArray, List.set_cons_zero, List.set_cons_succ]
      refine wpAnyH_take (i := 3) (v := ?_) rfl (by kernel_rfl) (by kernel_rfl) (by kernel_rfl) (fun _ _ _ h => h) (Or.inl ⟨by first | kernel_rfl | rfl, ?_⟩) (by assumption) ?_
      rotate_left
      · (intro wq hSw; (try dsimp only at hSw); (try simp (maxSteps := 2000000) only [List.getElem_toArray, List.getElem_cons_succ, List.getElem_cons_zero]); go_simp); try with_reducible rfl
      try simp (maxSteps := 2000000) only [List.getElem_toArray, List.getElem_cons_succ, List.getElem_cons_zero, Act.put, List.setIfInBounds_toArray, List.set_cons_zero, List.set_cons_succ]
      refine wpAnyH_take (i := 4) (v := ?_) rfl (by kernel_rfl) (by kernel_rfl) (by kernel_rfl) (fun _ _ _ h => h) (Or.inl ⟨by first | kernel_rfl | rfl, ?_⟩) (by assumption) ?_
      rotate_left
      · (intro wq hSw; (try dsimp only at hSw); (try simp (maxSteps := 2000000) only [List.getElem_toArray, List.getElem_cons_succ, List.getElem_cons_zero]); go_simp); try with_reducible rfl
      try simp (maxSteps := 2000000) only [List.getElem_toArray, List.getElem_cons_succ, List.getElem_cons_zero, Act.put, List.setIfInBounds_toArray, List.set_cons_zero, List.set_cons_succ]
      refine wpAnyH_take (i := 5) (v := ?_) rfl (by kernel_rfl) (by kernel_rfl) (by kernel_rfl) (fun _ _ _ h => h) (Or.inl ⟨by first | kernel_rfl | rfl, ?_⟩) (by assumption) ?_
      rotate_left
      · (intro wq hSw; (try dsimp only at hSw); (try simp (maxSteps := 2000000) only [List.getElem_toArray, List.getElem_cons_succ, List.getElem_cons_zero]); go_simp); try with_reducible rfl
      try simp (maxSteps := 2000000) only [List.getElem_toArray, List.getElem_cons_succ, List.getElem_cons_zero, Act.put, List.setIfInBounds_toArray, List.set_cons_zero, List.set_cons_succ]
      refine wpAnyH_take (i := 6) (v := ?_) rfl (by kernel_rfl) (by kernel_rfl) (by kernel_rfl) (fun _ _ _ h => h) (Or.inl ⟨by first | kernel_rfl | rfl, ?_⟩) (by assumption) ?_
      rotate_left
      · (intro wq hSw; (try dsimp only at hSw); (try simp (maxSteps := 2000000) only [List.getElem_toArray, List.getElem_cons_succ, List.getElem_cons_zero]); go_simp); try with_reducible rfl
      try simp (maxSteps := 2000000) only [List.getElem_toArray, List.getElem_cons_succ, List.getElem_cons_zero, Act.put, List.setIfInBounds_toArray, List.set_cons_zero, List.set_cons_succ]
      refine wpAnyH_take (i := 7) (v := ?_) rfl (by kernel_rfl) (by kernel_rfl) (by kernel_rfl) (fun _ _ _ h => h) (Or.inl ⟨by first | kernel_rfl | rfl, ?_⟩) (by assumption) ?_
      rotate_left
      · (intro wq hSw; (try dsimp only at hSw); (try simp (maxSteps := 2000000) only [List.getElem_toArray, List.getElem_cons_succ, List.getElem_cons_zero]); go_simp); try with_reducible rfl
      try simp (maxSteps := 2000000) only [List.getElem_toArray, List.getElem_cons_succ, List.getElem_cons_zero, Act.put, List.setIfInBounds_toArray, List.set_cons_zero, List.set_cons_succ]
      refine wpAnyH_take (i := 8) (v := ?_) rfl (by kernel_rfl) (by kernel_rfl) (by kernel_rfl) (fun _ _ _ h => h) (Or.inl ⟨by first | kernel_rfl | rfl, ?_⟩) (by assumption) ?_
      rotate_left
      · (intro wq hSw; (try dsimp only at hSw); (try simp (maxSteps := 2000000) only [List.getElem_toArray, List.getElem_cons_succ, List.getElem_cons_zero]); go_simp); try with_reducible rfl
      try simp (maxSteps := 2000000) only [List.getElem_toArray, List.getElem_cons_succ, List.getElem_cons_zero, Act.put, List.setIfInBounds_toArray, List.set_cons_zero, List.set_cons_succ]
      refine wpAnyH_take (i := 9) (v := ?_) rfl (by kernel_rfl) (by kernel_rfl) (by kernel_rfl) (fun _ _ _ h => h) (Or.inl ⟨by first | kernel_rfl | rfl, ?_⟩) (by assumption) ?_
      rotate_left
      · (intro wq hSw; (try dsimp only at hSw); (try simp (maxSteps := 2000000) only [List.getElem_toArray, List.getElem_cons_succ, List.getElem_cons_zero]); go_simp); try with_reducible rfl
      try simp (maxSteps := 2000000) only [List.getElem_toArray, List.getElem_cons_succ, List.getElem_cons_zero, Act.put, List.setIfInBounds_toArray, List.set_cons_zero, List.set_cons_succ]
      refine wpAnyH_take (i := 10) (v := ?_) rfl (by kernel_rfl) (by kernel_rfl) (by kernel_rfl) (fun _ _ _ h => h) (Or.inl ⟨by first | kernel_rfl | rfl, ?_⟩) (by assumption) ?_
      rotate_left
      · (intro wq hSw; (try dsimp only at hSw); (try simp (maxSteps := 2000000) only [List.getElem_toArray, List.getElem_cons_succ, List.getElem_cons_zero]); go_simp); try with_reducible rfl
      try simp (maxSteps := 2000000) only [List.getElem_toArray, List.getElem_cons_succ, List.getElem_cons_zero, Act.put, List.setIfInBounds_toArray, List.set_cons_zero, List.set_cons_succ]
      refine wpAnyH_done (by kernel_rfl) ?_ _
      go_wp2_with fail
      go_ret
      exact apply_no HF.out HBw.out HIq.out
    · have q1 : decide (st ≤ last) = false := decide_eq_false hle
      rw [if_neg hle] at HF
      clear hle
      go_wp2_with fail
      refine wp_region_held_drew (S := fun w' => Below wq.heap.size wq w') (by kernel_rfl) (by first | assumption | exact Below.refl _ _ | exact (Below.refl _ _).drew) (fun hHeld => ?_)
      refine wpAnyH_take (i := 0) (v := ?_) rfl (by kernel_rfl) (by kernel_rfl) (by kernel_rfl) (fun _ _ _ h => h) (Or.inl ⟨by first | kernel_rfl | rfl, ?_⟩) (by assumption) ?_
      rotate_left
      · (intro wq hSw; (try dsimp only at hSw); (try simp (maxSteps := 2000000) only [List.getElem_toArray, List.getElem_cons_succ, List.getElem_cons_zero]); go_simp); try with_reducible rfl
      try simp (maxSteps := 2000000) only [List.getElem_toArray, List.getElem_cons_succ, List.getElem_cons_zero, Act.put, List.setIfInBounds_toArray, List.set_cons_zero, List.set_cons_succ]
      refine wpAnyH_take (i := 1) (v := ?_) rfl (by kernel_rfl) (by kernel_rfl) (by kernel_rfl) (fun _ _ _ h => h) (Or.inl ⟨by first | kernel_rfl | rfl, ?_⟩) (by assumption) ?_
      rotate_left
      · (intro wq hSw; (try dsimp only at hSw); (try simp (maxSteps := 2000000) only [List.getElem_toArray, List.getElem_cons_succ, List.getElem_cons_zero]); go_simp); try with_reducible rfl
      try simp (maxSteps := 2000000) only [List.getElem_toArray, List.getElem_cons_succ, List.getElem_cons_zero, Act.put, List.setIfInBounds_toArray, List.set_cons_zero, List.set_cons_succ]
      refine wpAnyH_take (i := 2) (v := ?_) rfl (by kernel_rfl) (by kernel_rfl) (by kernel_rfl) (fun _ _ _ h => h) (Or.inl ⟨by first | kernel_rfl | rfl, ?_⟩) (by assumption) ?_
      rotate_left
      · (intro wq hSw; (try dsimp only at hSw); (try simp (maxSteps := 2000000) only [List.getElem_toArray, List.getElem_cons_succ, List.getElem_cons_zero]); go_simp); try with_reducible rfl
      try simp (maxSteps := 2000000) only [List.getElem_toArray, List.getElem_cons_succ, List.getElem_cons_zero, Act.put, List.setIfInBounds_toArray, List.set_cons_zero, List.set_cons_succ]
      refine wpAnyH_take (i := 3) (v := ?_) rfl (by kernel_rfl) (by kernel_rfl) (by kernel_rfl) (fun _ _ _ h => h) (Or.inl ⟨by first | kernel_rfl | rfl, ?_⟩) (by assumption) ?_
      rotate_left
      · (intro wq hSw; (try dsimp only at hSw); (try simp (maxSteps := 2000000) only [List.getElem_toArray, List.getElem_cons_succ, List.getElem_cons_zero]); go_simp); try with_reducible rfl
      try simp (maxSteps := 2000000) only [List.getElem_toArray, List.getElem_cons_succ, List.getElem_cons_zero, Act.put, List.setIfInBounds_toArray, List.set_cons_zero, List.set_cons_succ]
      refine wpAnyH_take (i := 4) (v := ?_) rfl (by kernel_rfl) (by kernel_rfl) (by kernel_rfl) (fun _ _ _ h => h) (Or.inl ⟨by first | kernel_rfl | rfl, ?_⟩) (by assumption) ?_
      rotate_left
      · (intro wq hSw; (try dsimp only at hSw); (try simp (maxSteps := 2000000) only [List.getElem_toArray, List.getElem_cons_succ, List.getElem_cons_zero]); go_simp); try with_reducible rfl
      try simp (maxSteps := 2000000) only [List.getElem_toArray, List.getElem_cons_succ, List.getElem_cons_zero, Act.put, List.setIfInBounds_toArray, List.set_cons_zero, List.set_cons_succ]
      refine wpAnyH_take (i := 5) (v := ?_) rfl (by kernel_rfl) (by kernel_rfl) (by kernel_rfl) (fun _ _ _ h => h) (Or.inl ⟨by first | kernel_rfl | rfl, ?_⟩) (by assumption) ?_
      rotate_left
      · (intro wq hSw; (try dsimp only at hSw); (try simp (maxSteps := 2000000) only [List.getElem_toArray, List.getElem_cons_succ, List.getElem_cons_zero]); go_simp); try with_reducible rfl
      try simp (maxSteps := 2000000) only [List.getElem_toArray, List.getElem_cons_succ, List.getElem_cons_zero, Act.put, List.setIfInBounds_toArray, List.set_cons_zero, List.set_cons_succ]
      refine wpAnyH_take (i := 6) (v := ?_) rfl (by kernel_rfl) (by kernel_rfl) (by kernel_rfl) (fun _ _ _ h => h) (Or.inl ⟨by first | kernel_rfl | rfl, ?_⟩) (by assumption) ?_
      rotate_left
      · (intro wq hSw; (try dsimp only at hSw); (try simp (maxSteps := 2000000) only [List.getElem_toArray, List.getElem_cons_succ, List.getElem_cons_zero]); go_simp); try with_reducible rfl
      try simp (maxSteps := 2000000) only [List.getElem_toArray, List.getElem_cons_succ, List.getElem_cons_zero, Act.put, List.setIfInBounds_toArray, List.set_cons_zero, List.set_cons_succ]
      refine wpAnyH_take (i := 7) (v := ?_) rfl (by kernel_rfl) (by kernel_rfl) (by kernel_rfl) (fun _ _ _ h => h) (Or.inl ⟨by first | kernel_rfl | rfl, ?_⟩) (by assumption) ?_
      rotate_left
      · (intro wq hSw; (try dsimp only at hSw); (try simp (maxSteps := 2000000) only [List.getElem_toArray, List.getElem_cons_succ, List.getElem_cons_zero]); go_simp); try with_reducible rfl
      try simp (maxSteps := 2000000) only [List.getElem_toArray, List.getElem_cons_succ, List.getElem_cons_zero, Act.put, List.setIfInBounds_toArray, List.set_cons_zero, List.set_cons_succ]
      refine wpAnyH_take (i := 8) (v := ?_) rfl (by kernel_rfl) (by kernel_rfl) (by kernel_rfl) (fun _ _ _ h => h) (Or.inl ⟨by first | kernel_rfl | rfl, ?_⟩) (by assumption) ?_
      rotate_left
      · (intro wq hSw; (try dsimp only at hSw); (try simp (maxSteps := 2000000) only [List.getElem_toArray, List.getElem_cons_succ, List.getElem_cons_zero]); go_simp); try with_reducible rfl
      try simp (maxSteps := 2000000) only [List.getElem_toArray, List.getElem_cons_succ, List.getElem_cons_zero, Act.put, List.setIfInBounds_toArray, List.set_cons_zero, List.set_cons_succ]
      refine wpAnyH_take (i := 9) (v := ?_) rfl (by kernel_rfl) (by kernel_rfl) (by kernel_rfl) (fun _ _ _ h => h) (Or.inl ⟨by first | kernel_rfl | rfl, ?_⟩) (by assumption) ?_
      rotate_left
      · (intro wq hSw; (try dsimp only at hSw); (try simp (maxSteps := 2000000) only [List.getElem_toArray, List.getElem_cons_succ, List.getElem_cons_zero]); go_simp); try with_reducible rfl
      try simp (maxSteps := 2000000) only [List.getElem_toArray, List.getElem_cons_succ, List.getElem_cons_zero, Act.put, List.setIfInBounds_toArray, List.set_cons_zero, List.set_cons_succ]
      refine wpAnyH_take (i := 10) (v := ?_) rfl (by kernel_rfl) (by kernel_rfl) (by kernel_rfl) (fun _ _ _ h => h) (Or.inl ⟨by first | kernel_rfl | rfl, ?_⟩) (by assumption) ?_
      rotate_left
      · (intro wq hSw; (try dsimp only at hSw); (try simp (maxSteps := 2000000) only [List.getElem_toArray, List.getElem_cons_succ, List.getElem_cons_zero]); go_simp); try with_reducible rfl
      try simp (maxSteps := 2000000) only [List.getElem_toArray, List.getElem_cons_succ, List.getElem_cons_zero, Act.put, List.setIfInBounds_toArray, List.set_cons_zero, List.set_cons_succ]
      refine wpAnyH_done (by kernel_rfl) ?_ _
      go_wp2_with fail
      obtain ⟨w1, hw1⟩ : ∃ w1, wq.drew = w1 := ⟨_, rfl⟩
      have hb1 : Below wq.heap.size wq w1 := hw1 ▸ (Below.refl _ _).drew
      rw [hw1]
      have hF0 : ∀ q, F0 q → q < rb := fun q hq => hrb ▸ (HI.out.tree.lt hq).2
      have hS0 : ∀ q, S q → q < rb := fun q hq => hrb ▸ (HI.out.geS q hq).2
      have hwq1 := hb1.size
      have hrbw : base ≤ rb := by have := HI.out.ge; omega
      have I1 : MvI w1 base s L last t (fun b => S b ∨ (rb + 1 ≤ b ∧ b < w1.heap.size)) F0 := by
        have J := HIq.out.below hb1
        exact ⟨J.box, J.tree.more (fun b hb => .inl hb) (fun b hb => hb.elim (fun h => by have := hS0 b h; omega) (fun h => h.2)) (fun q hq h => h.elim (fun h => J.tree.sep hq h) (fun h => by have := hF0 q hq; omega)), J.sF, fun h => h.elim J.sS (fun h => by omega), J.ge, fun b hb => hb.elim (J.geS b) (fun h => ⟨by omega, h.2⟩)⟩
      have RL : RdL EntR 2 (fun b => S b ∨ (rb + 1 ≤ b ∧ b < w1.heap.size)) w1 A1 l.length l := by
        obtain ⟨A, c, e, _, hr⟩ := (OwnL.keep EntR.stable HO.out hb1).rd (S' := fun b => w0.heap.size ≤ b) (fun b hb => hb) (fun cs x hx => EntR.stable _ _ _ _ _ _ hx fun b hb _ => ⟨hb.1, rfl⟩)
        injection e with e1 e2 e3
        subst e1
        exact hr.stable EntR.stable (fun b hb hl => ⟨.inr ⟨HS0.out ▸ hb, hl⟩, rfl⟩)
      have HI1 := Lib.hid I1
      have HRL := Lib.hid RL
      have HBQ := Lib.hid hb1
      clear I1 RL hw1 hb1 u0 u1 k0 k1 HO q1
      go_loopw [30] (fun vi wr => ∃ (k : Nat) (F1 : Nat → Prop), k ≤ l.length ∧ vi = .int .i64 k ∧ Hid (MvI wr base s (putAll L (l.take k)) last t (fun b => S b ∨ (rb + 1 ≤ b ∧ b < w1.heap.size)) F1) ∧ Hid (Keep (fun q => F0 q ∨ w1.heap.size ≤ q) w1 wr) ∧ Hid (∀ q, F1 q → F0 q ∨ w1.heap.size ≤ q)) (fun vi _ => l.length - (intOf vi).toNat)
      case atStart => exact ⟨0, F0, Nat.zero_le _, rfl, by simpa [putAll] using HI1, Lib.hid (Keep.refl _ _), Lib.hid (fun q h => .inl h)⟩
      case round =>
        obtain ⟨k, F1, hk, rfl, HIr, HK, HF1⟩ := hrel
        have q0 : (0 : Int) ≤ (k : Int) := Int.natCast_nonneg _
        have hw1r := HK.out.size
        by_cases hlt : k < l.length
        · have q1 : (k : Int) < (l.length : Int) := by omega
          have RLr : RdL EntR 2 (fun b => S b ∨ (rb + 1 ≤ b ∧ b < w1.heap.size)) wr A1 l.length l := HRL.out.stable EntR.stable (fun b hb hl => ⟨hb, HK.out.block b hl (fun h => by
            rcases h with h | h
            · exact HI1.out.tree.sep h hb
            · omega)⟩)
          obtain ⟨b, o, rfl, _, _⟩ := RLr.addr hlt
          obtain ⟨y, VA, vm, vc, hy, hbw, hER, c0, c1'⟩ := ent2_at RLr hlt
          have bx := BoxAt.new wr #[.string y.key, .slice VA vm vc] 138
          have hal : Below wr.heap.size wr (wr.alloc (.cells #[.string y.key, .slice VA vm vc] 138)) := (Below.refl _ _).alloc (Nat.le_refl _) _
          obtain ⟨vb, hvb⟩ : ∃ vb, wr.heap.size = vb := ⟨_, rfl⟩
          obtain ⟨wx, hwx⟩ : ∃ wx, wr.alloc (.cells #[.string y.key, .slice VA vm vc] 138) = wx := ⟨_, rfl⟩
          rw [hwx] at bx hal
          have HIx := Lib.hid (HIr.out.below hal)
          have hER9 := EntR.stable _ (fun b => S b ∨ (rb + 1 ≤ b ∧ b < w1.heap.size)) _ wx.drew _ _ hER (fun b hb hl => ⟨hb, hal.block b hl⟩)
          have HE9 := Lib.hid (show EntR (fun b => S b ∨ (rb + 1 ≤ b ∧ b < w1.heap.size)) wx.drew [.string y.key, .slice VA vm vc] ⟨y.key, y.vers⟩ from hER9)
          have hvbF : ¬ F1 vb := fun h => by have := (HIr.out.tree.lt h).2; omega
          rw [hvb] at bx
          have hvbx := bx.lt
          have hsx : s < wx.heap.size := HIx.out.box.lt
          have hbasex : base ≤ wx.drew.heap.size := Nat.le_trans HIx.out.ge (Nat.le_of_lt hsx)
          have hlen9 : (putAll L (l.take k)).length ≤ 1000000 := by have h1 := putAll_len L (l.take k); rw [List.length_take] at h1; omega
          have hcs : wx.cell? ⟨s, 0, none⟩ = some (.pointer (some ⟨t, 0, none⟩)) ∧ wx.cell? ⟨vb, 0, none⟩ = some (.string y.key) ∧ wx.cell? ⟨vb, 1, none⟩ = some (.slice VA vm vc) := ⟨HIx.out.box.cell 0, bx.cell 0, bx.cell 1⟩
          have HAL := Lib.hid hal
          have HPT := Lib.hid (putAll_take (L := L) hy)
          have hsz : wr.heap.size ≤ wx.heap.size := hal.size
          clear bx hal hER hER9 RLr hy
          go_wp2_with fail
          refine wp_region_held_drew (S := fun w' => w'.cell? ⟨s, 0, none⟩ = some (.pointer (some ⟨t, 0, none⟩)) ∧ w'.cell? ⟨vb, 0, none⟩ = some (.string y.key) ∧ w'.cell? ⟨vb, 1, none⟩ = some (.slice VA vm vc)) (by kernel_rfl) (by first | assumption | exact hcs) (fun hHeld => ?_)
          refine wpAnyH_take (i := 0) (v := ?_) rfl (by kernel_rfl) (by kernel_rfl) (by kernel_rfl) (fun _ _ _ h => h) (Or.inl ⟨by first | kernel_rfl | rfl, ?_⟩) (by assumption) ?_
          rotate_left
          · (intro wq hSw; (try dsimp only at hSw); (try simp (maxSteps := 2000000) only [List.getElem_toArray, List.getElem_cons_succ, List.getElem_cons_zero]); go_simp); try with_reducible rfl
          try simp (maxSteps := 2000000) only [List.getElem_toArray, List.getElem_cons_succ, List.getElem_cons_zero, Act.put, List.setIfInBounds_toArray, List.set_cons_zero, List.set_cons_succ]
          refine wpAnyH_take (i := 1) (v := ?_) rfl (by kernel_rfl) (by kernel_rfl) (by kernel_rfl) (fun _ _ _ h => h) (Or.inl ⟨by first | kernel_rfl | rfl, ?_⟩) (by assumption) ?_
          rotate_left
          · (intro wq hSw; (try dsimp only at hSw); (try simp (maxSteps := 2000000) only [List.getElem_toArray, List.getElem_cons_succ, List.getElem_cons_zero]); go_simp); try with_reducible rfl
          try simp (maxSteps := 2000000) only [List.getElem_toArray, List.getElem_cons_succ, List.getElem_cons_zero, Act.put, List.setIfInBounds_toArray, List.set_cons_zero, List.set_cons_succ]
          refine wpAnyH_take (i := 2) (v := ?_) rfl (by kernel_rfl) (by kernel_rfl) (by kernel_rfl) (fun _ _ _ h => h) (Or.inl ⟨by first | kernel_rfl | rfl, ?_⟩) (by assumption) ?_
          rotate_left
          · (intro wq hSw; (try dsimp only at hSw); (try simp (maxSteps := 2000000) only [List.getElem_toArray, List.getElem_cons_succ, List.getElem_cons_zero]); go_simp); try with_reducible rfl
          try simp (maxSteps := 2000000) only [List.getElem_toArray, List.getElem_cons_succ, List.getElem_cons_zero, Act.put, List.setIfInBounds_toArray, List.set_cons_zero, List.set_cons_succ]
          refine wpAnyH_take (i := 3) (v := ?_) rfl (by kernel_rfl) (by kernel_rfl) (by kernel_rfl) (fun _ _ _ h => h) (Or.inl ⟨by first | kernel_rfl | rfl, ?_⟩) (by assumption) ?_
          rotate_left
          · (intro wq hSw; (try dsimp only at hSw); (try simp (maxSteps := 2000000) only [List.getElem_toArray, List.getElem_cons_succ, List.getElem_cons_zero]); go_simp); try with_reducible rfl
          try simp (maxSteps := 2000000) only [List.getElem_toArray, List.getElem_cons_succ, List.getElem_cons_zero, Act.put, List.setIfInBounds_toArray, List.set_cons_zero, List.set_cons_succ]
          refine wpAnyH_take (i := 4) (v := ?_) rfl (by kernel_rfl) (by kernel_rfl) (by kernel_rfl) (fun _ _ _ h => h) (Or.inl ⟨by first | kernel_rfl | rfl, ?_⟩) (by assumption) ?_
          rotate_left
          · (intro wq hSw; (try dsimp only at hSw); (try simp (maxSteps := 2000000) only [List.getElem_toArray, List.getElem_cons_succ, List.getElem_cons_zero]); go_simp); try with_reducible rfl
          try simp (maxSteps := 2000000) only [List.getElem_toArray, List.getElem_cons_succ, List.getElem_cons_zero, Act.put, List.setIfInBounds_toArray, List.set_cons_zero, List.set_cons_succ]
          refine wpAnyH_take (i := 5) (v := ?_) rfl (by kernel_rfl) (by kernel_rfl) (by kernel_rfl) (fun _ _ _ h => h) (Or.inl ⟨by first | kernel_rfl | rfl, ?_⟩) (by assumption) ?_
          rotate_left
          · (intro wq hSw; (try dsimp only at hSw); (try simp (maxSteps := 2000000) only [List.getElem_toArray, List.getElem_cons_succ, List.getElem_cons_zero]); go_simp); try with_reducible rfl
          try simp (maxSteps := 2000000) only [List.getElem_toArray, List.getElem_cons_succ, List.getElem_cons_zero, Act.put, List.setIfInBounds_toArray, List.set_cons_zero, List.set_cons_succ]
          refine wpAnyH_take (i := 6) (v := ?_) rfl (by kernel_rfl) (by kernel_rfl) (by kernel_rfl) (fun _ _ _ h => h) (Or.inl ⟨by first | kernel_rfl | rfl, ?_⟩) (by assumption) ?_
          rotate_left
          · (intro wq hSw; (try dsimp only at hSw); (try simp (maxSteps := 2000000) only [List.getElem_toArray, List.getElem_cons_succ, List.getElem_cons_zero]); go_simp); try with_reducible rfl
          try simp (maxSteps := 2000000) only [List.getElem_toArray, List.getElem_cons_succ, List.getElem_cons_zero, Act.put, List.setIfInBounds_toArray, List.set_cons_zero, List.set_cons_succ]
          refine wpAnyH_take (i := 7) (v := ?_) rfl (by kernel_rfl) (by kernel_rfl) (by kernel_rfl) (fun _ _ _ h => h) (Or.inl ⟨by first | kernel_rfl | rfl, ?_⟩) (by assumption) ?_
          rotate_left
          · (intro wq hSw; (try dsimp only at hSw); (try simp (maxSteps := 2000000) only [List.getElem_toArray, List.getElem_cons_succ, List.getElem_cons_zero]); go_simp); try with_reducible rfl
          try simp (maxSteps := 2000000) only [List.getElem_toArray, List.getElem_cons_succ, List.getElem_cons_zero, Act.put, List.setIfInBounds_toArray, List.set_cons_zero, List.set_cons_succ]
          refine wpAnyH_ready (rs := [8]) (by kernel_rfl) (by simp) ?_
          refine AllReadyH.cons rfl (fun K hK => ?_) AllReadyH.nil
          try simp (maxSteps := 2000000) only [List.getElem_toArray, List.getElem_cons_succ, List.getElem_cons_zero]
          go_simp
          refine (put_any (k := y.key) (v := y.vers) (Lib.hid (HIx.out.below (Below.refl _ _).drew).tree) hbasex HE9 hlen9).mono ?_
          rintro e wz ⟨pb, F9, rfl, hT9, hk9, hF9⟩
          have hcz : wz.cell? ⟨s, 0, none⟩ = some (.pointer (some ⟨t, 0, none⟩)) ∧ wz.cell? ⟨vb, 0, none⟩ = some (.string y.key) ∧ wz.cell? ⟨vb, 1, none⟩ = some (.slice VA vm vc) := ⟨(World.cell?_of_block (a := ⟨s, 0, none⟩) (hk9.block s hsx HIx.out.sF)).trans hcs.1, (World.cell?_of_block (a := ⟨vb, 0, none⟩) (hk9.block vb hvbx hvbF)).trans hcs.2.1, (World.cell?_of_block (a := ⟨vb, 1, none⟩) (hk9.block vb hvbx hvbF)).trans hcs.2.2⟩
          replace hHeld := hcz
          try (go_wp2_with fail)
          refine hK.out _ _ (by first | assumption | exact hcs) (fun hHeld => ?_)
          clear hK K
          try simp (maxSteps := 2000000) only [List.getElem_toArray, List.getElem_cons_succ, List.getElem_cons_zero, Act.put, List.setIfInBounds_toArray, List.set_cons_zero, List.set_cons_succ]
          refine wpAnyH_done (by kernel_rfl) ?_ _
          have hfin : MvI wz base s (putAll L (l.take (k + 1))) last t (fun b => S b ∨ (rb + 1 ≤ b ∧ b < w1.heap.size)) F9 := by
            rw [HPT.out]
            refine ⟨HIx.out.box.keeps (Keep.trans (Keep.of_below (F := F1) (Below.refl _ _).drew) hk9 (fun k h _ => h)) HIx.out.sF, hT9, fun h => ?_, HIx.out.sS, HIx.out.ge, fun b hb => ⟨(HIx.out.geS b hb).1, Nat.lt_of_lt_of_le (HIx.out.geS b hb).2 hk9.size⟩⟩
            rcases hF9 s h with h | h
            · exact HIx.out.sF h
            · have h2 : wx.heap.size ≤ s := h
              omega
          have hxd : wx.drew.heap.size = wx.heap.size := rfl
          have HFN := Lib.hid hfin
          have HKN := Lib.hid ((HK.out.trans (Keep.of_below (F := fun _ => False) HAL.out) (fun _ h => h.elim)).trans (Keep.trans (Keep.of_below (F := F1) (Below.refl _ _).drew) hk9 (fun k h _ => h)) (fun q h _ => HF1.out q h) : Keep (fun q => F0 q ∨ w1.heap.size ≤ q) w1 wz)
          have HF9 := Lib.hid (fun q h => (hF9 q h).elim (HF1.out q) (fun h => .inr (by omega)) : ∀ q, F9 q → F0 q ∨ w1.heap.size ≤ q)
          clear hfin hT9 hk9 hF9 hcs hcz hHeld
          go_wp2_with fail
          exact ⟨⟨k + 1, F9, by omega, by go_num, HFN, HKN, HF9⟩, by simp [intOf]; omega⟩
        · have q1 : ¬ (k : Int) < (l.length : Int) := by omega
          have hkn : k = l.length := by omega
          subst hkn
          have Xr := HXq.out.below HBQ.out
          have Xr2 := Xr.keeps HK.out (fun h => h.elim (fun h => by have := hF0 rb h; omega) (fun h => by omega))
          have c0 := Xr2.cell 0
          have s1 := HIr.out.box.cell 1
          have f1 := HIr.out.box.frozen 1
          have X5 := HIr.out.box.set 1 (.int .u64 st)
          have hkt : Keep (fun k => k = s) wr (wr.setCell ⟨s, 1, none⟩ (.int .u64 st)) := setCell_keep wr s 1 _ rfl
          have hfin : ApplyP w base s L last st chs (fun k => k = s ∨ F0 k ∨ S k) (.returned (.int .i64 0)) (wr.setCell ⟨s, 1, none⟩ (.int .u64 st)) := by
            unfold ApplyP
            rw [HF.out]
            have J := HIr.out
            rw [List.take_of_length_le (Nat.le_refl _)] at J
            refine ⟨rfl, _, ⟨t, _, F1, ⟨by simpa using X5, J.tree.keep hkt (fun k h e => J.sF (e ▸ h)) (fun b hb e => J.sS (e ▸ hb)), J.sF, J.sS, J.ge, fun b hb => ⟨(J.geS b hb).1, Nat.lt_of_lt_of_le (J.geS b hb).2 hkt.size⟩⟩, rfl⟩, ?_, ?_⟩
            · refine (((Keep.of_below HBw.out).trans (Keep.of_below (F := fun _ => False) HBQ.out) (fun _ h => h.elim)).trans HK.out (fun q h hl => ?_)).trans hkt (fun q h _ => .inl h)
              rcases h with h | h
              · exact .inr (.inl h)
              · omega
            · intro q h
              rcases h with h | h | h | h
              · exact .inl (.inl h)
              · rcases HF1.out q h with h | h
                · exact .inl (.inr (.inl h))
                · exact .inr (by omega)
              · exact .inl (.inr (.inr h))
              · exact .inr (by omega)
          have HFIN := Lib.hid hfin
          clear hfin hkt X5 Xr Xr2
          go_wp2_with fail
          go_ret
          exact HFIN.out
end Go.Proofs.Ytpibaahiboajhaa
