/-
  BufferSees, the plain part: what is seen over a base that rises. Whether keys rise; the keys as a row of the caller's own.
-/
import Derived.Test.YtpibaahiboajhaaBuf16
set_option linter.unusedSimpArgs false
set_option linter.unusedVariables false
namespace Go.Proofs.Ytpibaahiboajhaa
open Go.RowKit Go.Cib
attribute [local go_sem] cell_set Later.cell Later.frozen Grw.cell Grw.frozen

def RisesF (l : List Fd) : Prop := l.Pairwise fun x y => Op.bytesLess x.key.toList y.key.toList = true
theorem shown_mem {f t : ByteArray} {K : List Wr} {z : Fd} (h : z ∈ shownL f t K) : ∃ y ∈ K, z.key = y.key := by
  unfold shownL at h
  obtain ⟨y, hy, rfl⟩ := List.mem_map.1 h
  exact ⟨y, (List.mem_filter.1 hy).1, rfl⟩
theorem rgo_mem {L : List Wr} {f t : ByteArray} : ∀ {xs : List Fd} {K : List Wr} {z : Fd}, z ∈ rgo L f t K xs → (∃ y ∈ K, z.key = y.key) ∨ ∃ g ∈ xs, z.key = g.key
  | [], K, z, h => by unfold rgo at h; exact .inl (shown_mem h)
  | g :: r, K, z, h => by
    unfold rgo at h
    rcases List.mem_append.1 h with h | h
    · obtain ⟨y, hy, e⟩ := shown_mem h
      exact .inl ⟨y, List.mem_of_mem_take hy, e⟩
    · rcases List.mem_append.1 h with h | h
      · have := (List.mem_filter.1 h).1
        exact .inr ⟨g, by simp, by rw [List.mem_singleton.1 this]⟩
      · rcases rgo_mem h with ⟨y, hy, e⟩ | ⟨g', hg, e⟩
        · exact .inl ⟨y, List.mem_of_mem_drop hy, e⟩
        · exact .inr ⟨g', List.mem_cons_of_mem _ hg, e⟩
theorem shown_rises {f t : ByteArray} {K : List Wr} (h : RisesW K) : RisesF (shownL f t K) := by
  unfold shownL
  exact List.Pairwise.map _ (fun a b hab => hab) (h.filter _)
theorem rgo_rises {L : List Wr} {f t : ByteArray} : ∀ {xs : List Fd} {K : List Wr}, RisesW K → (∀ y ∈ K, y ∈ L) → RisesF xs → RisesF (rgo L f t K xs)
  | [], K, hK, _, _ => by unfold rgo; exact shown_rises hK
  | g :: r, K, hK, hKL, hx => by
    obtain ⟨hg, hr⟩ := List.pairwise_cons.1 hx
    unfold rgo
    have h1 : RisesF (shownL f t (K.take (posW K g.key))) := shown_rises (hK.sublist (List.take_sublist _ _))
    have h2 : RisesF (rgo L f t (K.drop (posW K g.key)) r) := rgo_rises (List.Pairwise.drop hK) (fun y hy => hKL y (List.mem_of_mem_drop hy)) hr
    have hlt : ∀ z ∈ shownL f t (K.take (posW K g.key)), Op.bytesLess z.key.toList g.key.toList = true := fun z hz => by
      obtain ⟨y, hy, e⟩ := shown_mem hz
      rw [e]; exact take_lt y hy
    have hge : ∀ z ∈ rgo L f t (K.drop (posW K g.key)) r, Op.bytesLess z.key.toList g.key.toList = false := fun z hz => by
      rcases rgo_mem hz with ⟨y, hy, e⟩ | ⟨g', hg', e⟩
      · rw [e]; exact drop_ge hK g.key y hy
      · rw [e]; exact bl_asymm (hg g' hg')
    refine List.pairwise_append.2 ⟨h1, List.pairwise_append.2 ⟨?_, h2, ?_⟩, ?_⟩
    · exact List.Pairwise.filter _ (List.pairwise_singleton _ _)
    · intro a ha b hb
      have hm := List.mem_filter.1 ha
      have hag : a = g := List.mem_singleton.1 hm.1
      subst hag
      have hnone : findW L a.key = none := by
        have := hm.2
        simp only [Bool.and_eq_true] at this
        simpa using this.1
      rcases rgo_mem hb with ⟨y, hy, e⟩ | ⟨g', hg', e⟩
      · have hyL := hKL y (List.mem_of_mem_drop hy)
        have hne := findW_none.1 hnone y hyL
        have h3 := hge b hb
        cases h4 : Op.bytesLess a.key.toList b.key.toList with
        | true => rfl
        | false => exact absurd (by rw [← e]; exact bl_tri h3 h4) hne
      · rw [e]; exact hg g' hg'
    · intro a ha b hb
      rcases List.mem_append.1 hb with hb | hb
      · have hbg : b = g := List.mem_singleton.1 (List.mem_filter.1 hb).1
        subst hbg
        exact hlt a ha
      · have h3 := hge b hb
        have h4 := hlt a ha
        cases h5 : Op.bytesLess a.key.toList b.key.toList with
        | true => rfl
        | false => have := bl_le_trans h5 h4; rw [this] at h3; cases h3
/-- Of one key. -/
def ofKey (k : ByteArray) (l : List Fd) : List Fd := l.filter fun x => decide (x.key = k)
theorem ofKey_app (k : ByteArray) (a b : List Fd) : ofKey k (a ++ b) = ofKey k a ++ ofKey k b := List.filter_append ..
theorem ofKey_none {k : ByteArray} {l : List Fd} (h : ∀ x ∈ l, x.key ≠ k) : ofKey k l = [] := by
  unfold ofKey
  exact List.filter_eq_nil_iff.2 (fun x hx => by simpa using h x hx)
theorem left_app (L : List Wr) (f t : ByteArray) (a b : List Fd) : leftL L f t (a ++ b) = leftL L f t a ++ leftL L f t b := List.filter_append ..
theorem rgo_has {L : List Wr} {f t k : ByteArray} {w : Wr} (hw : findW L k = some w) : ∀ (xs : List Fd) (K : List Wr), ofKey k (rgo L f t K xs) = ofKey k (shownL f t K)
  | [], K => by unfold rgo; rfl
  | g :: r, K => by
    have hl : ofKey k (leftL L f t [g]) = [] := ofKey_none (fun x hx e => by
      have hm := List.mem_filter.1 hx
      have := hm.2
      simp only [Bool.and_eq_true] at this
      rw [e, hw] at this
      exact absurd this.1 (by simp))
    unfold rgo
    rw [ofKey_app, ofKey_app, hl, List.nil_append, rgo_has hw r, ← ofKey_app, ← shown_app, List.take_append_drop]
theorem rgo_hasnt {L : List Wr} {f t k : ByteArray} (hw : findW L k = none) : ∀ (xs : List Fd) (K : List Wr), (∀ y ∈ K, y ∈ L) → ofKey k (rgo L f t K xs) = ofKey k (leftL L f t xs)
  | [], K, hK => by
    unfold rgo
    rw [ofKey_none (fun x hx e => by obtain ⟨y, hy, e2⟩ := shown_mem hx; exact findW_none.1 hw y (hK y hy) (e2.symm.trans e))]
    rfl
  | g :: r, K, hK => by
    have hs : ofKey k (shownL f t (K.take (posW K g.key))) = [] := ofKey_none (fun x hx e => by obtain ⟨y, hy, e2⟩ := shown_mem hx; exact findW_none.1 hw y (hK y (List.mem_of_mem_take hy)) (e2.symm.trans e))
    unfold rgo
    rw [ofKey_app, ofKey_app, hs, List.nil_append, rgo_hasnt hw r _ (fun y hy => hK y (List.mem_of_mem_drop hy)), show g :: r = [g] ++ r from rfl, left_app, ofKey_app]
/-- What must be seen of a key. -/
def wantF (L : List Wr) (f t k : ByteArray) (xs : List Fd) : List Fd :=
  match findW L k with
  | some w => if (!w.dead && inB f t k) = true then [fdOf w] else []
  | none => if inB f t k = true then ofKey k xs else []
theorem ofKey_shown {L : List Wr} (h : RisesW L) {f t k : ByteArray} {w : Wr} (hw : findW L k = some w) : ofKey k (shownL f t L) = if (!w.dead && inB f t k) = true then [fdOf w] else [] := by
  induction L with
  | nil => cases hw
  | cons y r ih =>
    obtain ⟨h1, h2⟩ := List.pairwise_cons.1 h
    rw [show y :: r = [y] ++ r from rfl, shown_app, ofKey_app]
    by_cases e : y.key = k
    · rw [findW, if_pos e] at hw
      injection hw with hw
      subst hw
      have hr : ofKey k (shownL f t r) = [] := ofKey_none (fun x hx e2 => by
        obtain ⟨z, hz, e3⟩ := shown_mem hx
        have := bl_ne (h1 z hz)
        exact this (by rw [e, ← e2, e3]))
      rw [hr, List.append_nil]
      unfold shownL
      rw [List.filter_cons, e]
      split
      · simp [ofKey, fdOf, e]
      · rfl
    · rw [findW, if_neg e] at hw
      have hy : ofKey k (shownL f t [y]) = [] := ofKey_none (fun x hx e2 => by
        obtain ⟨z, hz, e3⟩ := shown_mem hx
        rw [List.mem_singleton.1 hz] at e3
        exact e (e3.symm.trans e2))
      rw [hy, List.nil_append, ih h2 hw]
theorem ofKey_left {L : List Wr} {f t k : ByteArray} (hw : findW L k = none) (xs : List Fd) : ofKey k (leftL L f t xs) = if inB f t k = true then ofKey k xs else [] := by
  unfold ofKey leftL
  rw [List.filter_filter]
  by_cases hi : inB f t k = true
  · rw [if_pos hi]
    refine List.filter_congr (fun x _ => ?_)
    by_cases e : x.key = k
    · rw [decide_eq_true e, e, hw, hi]; rfl
    · rw [decide_eq_false e]; rfl
  · rw [if_neg hi]
    refine List.filter_eq_nil_iff.2 (fun x _ => ?_)
    by_cases e : x.key = k
    · rw [decide_eq_true e, e]; simpa using fun _ => hi
    · rw [decide_eq_false e]; simp
theorem seen_key {L : List Wr} (h : RisesW L) (f t k : ByteArray) (xs : List Fd) : ofKey k (rgo L f t L xs) = wantF L f t k xs := by
  unfold wantF
  cases hw : findW L k with
  | some w => rw [rgo_has hw, ofKey_shown h hw]
  | none => rw [rgo_hasnt hw xs L (fun y hy => hy), ofKey_left hw]
theorem seen_all {L : List Wr} (h : RisesW L) {f t : ByteArray} {xs : List Fd} (hl : L.length ≤ 16) (hx : xs.length ≤ 60) : seenL L f t xs 1000 = rgo L f t L xs := by
  rw [← seen_same h]
  unfold rseenL
  have := rgo_len L f t L xs
  rw [List.take_of_length_le]
  unfold mostN; omega

/-! ### Do keys rise? -/
theorem rises_adj {l : List Fd} (h : ∀ (j : Nat) (x y : Fd), l[j]? = some x → l[j + 1]? = some y → Op.bytesLess x.key.toList y.key.toList = true) : RisesF l := by
  induction l with
  | nil => exact List.Pairwise.nil
  | cons a r ih =>
    have hr := ih (fun j x y h1 h2 => h (j + 1) x y (by simpa using h1) (by simpa using h2))
    refine List.pairwise_cons.2 ⟨?_, hr⟩
    cases r with
    | nil => intro b hb; cases hb
    | cons c r2 =>
      have hac := h 0 a c rfl rfl
      intro b hb
      rcases List.mem_cons.1 hb with rfl | hb
      · exact hac
      · exact bl_trans hac ((List.pairwise_cons.1 hr).1 b hb)
theorem adj_rises {l : List Fd} (h : RisesF l) {j : Nat} {x y : Fd} (h1 : l[j]? = some x) (h2 : l[j + 1]? = some y) : Op.bytesLess x.key.toList y.key.toList = true := by
  obtain ⟨hj, rfl⟩ := List.getElem?_eq_some_iff.1 h1
  obtain ⟨hj2, rfl⟩ := List.getElem?_eq_some_iff.1 h2
  exact List.pairwise_iff_getElem.1 h j (j + 1) hj hj2 (by omega)
def RisesE (l : List Fd) (e : Ending) : Prop := ∃ r : Bool, e = .returned (.bool r) ∧ (r = true ↔ RisesF l)
set_option maxRecDepth 100000 in
set_option maxHeartbeats 4000000 in
theorem rises_any {S : Nat → Prop} {w : World} {A : Option Addr} {m c : Nat} {xs : List Fd} (R : Hid (RdL FdR 6 S w A m xs)) (hm : m ≤ 1000000) :
    Calls Try.prog 61 #[.slice A m c] w fun e w' => RisesE xs e ∧ Below w.heap.size w w' := by
  have hlen : xs.length = m := R.out.1
  go_enter Try.func61, Try.ntmps61
  go_wp2_with fail
  go_loopw [3] (fun vi wr => ∃ i : Nat, 1 ≤ i ∧ (i ≤ m ∨ i = 1) ∧ vi = .int .i64 i ∧ Hid (∀ (j : Nat) (x y : Fd), j + 1 < i → xs[j]? = some x → xs[j + 1]? = some y → Op.bytesLess x.key.toList y.key.toList = true) ∧ Hid (Below w.heap.size w wr)) (fun vi _ => m + 1 - (intOf vi).toNat)
  case atStart => exact ⟨1, Nat.le_refl _, .inr rfl, rfl, Lib.hid (fun j x y hj => absurd hj (by omega)), Lib.hid (Below.refl _ _)⟩
  case round =>
    obtain ⟨wq, rfl⟩ : ∃ wq, wq = wr := ⟨_, rfl⟩
    obtain ⟨i, h1, hi, rfl, HF, HT⟩ := hrel
    by_cases hlt : i < m
    · have q1 : (i : Int) < (m : Int) := by omega
      have q2 : (0 : Int) ≤ (i : Int) := Int.natCast_nonneg _
      obtain ⟨p, rfl⟩ : ∃ p, i = p + 1 := ⟨i - 1, by omega⟩
      have w1 : wrap64 (((p + 1 : Nat) : Int) - 1) = (p : Int) := by unfold wrap64; omega
      have w1b : wrap64 ((p : Int) + 1 - 1) = (p : Int) := by unfold wrap64; omega
      have w1c : IntKind.i64.wrap ((p : Int) + 1 - 1) = (p : Int) := by rw [IntKind.wrap_i64]; omega
      have w1d : IntKind.i64.wrap (p : Int) = (p : Int) := by rw [IntKind.wrap_i64]; omega
      have q3 : (0 : Int) ≤ (p : Int) := Int.natCast_nonneg _
      have q4 : (p : Int) < (m : Int) := by omega
      have q5 : (p : Int) + 1 < (m : Int) := by omega
      have q6 : (0 : Int) ≤ (p : Int) + 1 := by omega
      obtain ⟨b1, o1, x, _, _, _, _, _, _, rfl, hx, hb1, _, _, _, d0, _⟩ := fd_at (R.out.below FdR.stable HT.out) (i := p) (by omega)
      obtain ⟨b2, o2, y, _, _, _, _, _, _, he, hy, hb2, _, _, _, e0, _⟩ := fd_at (R.out.below FdR.stable HT.out) hlt
      injection he with he; injection he with he he2
      subst he; subst he2
      have u0 := fun w' (hb : Below wq.heap.size wq w') => (hb.cell (p := ⟨b1, o1 + p * 6, none⟩) hb1).trans d0
      have u1 := fun w' (hb : Below wq.heap.size wq w') => (hb.cell (p := ⟨b1, o1 + (p + 1) * 6, none⟩) hb1).trans e0
      cases hls : Op.bytesLess x.key.toList y.key.toList with
      | true =>
        have HF2 : Hid (∀ (j : Nat) (x' y' : Fd), j + 1 < p + 1 + 1 → xs[j]? = some x' → xs[j + 1]? = some y' → Op.bytesLess x'.key.toList y'.key.toList = true) := Lib.hid (fun j x' y' hj g1 g2 => by
          by_cases hjp : j = p
          · subst hjp
            rw [hx] at g1; rw [hy] at g2
            injection g1 with g1; injection g2 with g2
            rw [← g1, ← g2]; exact hls
          · exact HF.out j x' y' (by omega) g1 g2)
        have hb1 := bl_asymm hls
        have hb2 : (y.key.toList == x.key.toList) = false := by rw [str_beq]; exact decide_eq_false (fun e => bl_ne hls e.symm)
        clear hx hy d0 e0 HF
        go_wp2_with fail
        refine wp_region_held_drew (S := fun w' => Below wq.heap.size wq w') (by kernel_rfl) (by first | assumption | exact Below.refl _ _ | exact (Below.refl _ _).drew | exact (by repeat (first | (with_reducible exact Below.refl _ _) | (with_reducible assumption) | (with_reducible refine Below.drew ?_) | (with_reducible refine Below.setCell ?_ ?_ _) | (with_reducible refine Below.alloc ?_ ?_ _) | (with_reducible refine Below.later ?_ ?_ _) | (first | (with_reducible exact Nat.le_refl _) | omega | (simp only [World.size_alloc, World.size_setCell, World.size_drew] <;> omega))))) (fun hHeld => ?_)
        refine wpAnyH_take (i := 0) (v := ?_) rfl (by kernel_rfl) (by kernel_rfl) (by kernel_rfl) (fun _ _ _ h => h) (Or.inl ⟨by first | kernel_rfl | rfl, ?_⟩) (by assumption) ?_
        rotate_left
        · (intro wq hSw; (try dsimp only at hSw); (try simp (maxSteps := 2000000) only [List.getElem_toArray, List.getElem_cons_succ, List.getElem_cons_zero]); go_simp); try with_reducible rfl
        try simp (maxSteps := 2000000) only [List.getElem_toArray, List.getElem_cons_succ, List.getElem_cons_zero, Act.put, List.setIfInBounds_toArray, List.set_cons_zero, List.set_cons_succ]
        refine wpAnyH_take (i := 1) (v := ?_) rfl (by kernel_rfl) (by kernel_rfl) (by kernel_rfl) (fun _ _ _ h => h) (Or.inl ⟨by first | kernel_rfl | rfl, ?_⟩) (by assumption) ?_
        rotate_left
        · (intro wq hSw; (try dsimp only at hSw); (try simp (maxSteps := 2000000) only [List.getElem_toArray, List.getElem_cons_succ, List.getElem_cons_zero]); go_simp); try with_reducible rfl
        try simp (maxSteps := 2000000) only [List.getElem_toArray, List.getElem_cons_succ, List.getElem_cons_zero, Act.put, List.setIfInBounds_toArray, List.set_cons_zero, List.set_cons_succ]
        refine wpAnyH_take (i := 2) (v := ?_) rfl (by kernel_rfl) (by kernel_rfl) (by kernel_rfl) (fun _ _ _ h => h) (Or.inl ⟨by first | kernel_rfl | rfl, ?_⟩) (by assumption) ?_
        rotate_left
        · (intro wq hSw; (try dsimp only at hSw); (try simp (maxSteps := 2000000) only [List.getElem_toArray, List.getElem_cons_succ, List.getElem_cons_zero]); go_simp); try with_reducible rfl
        try simp (maxSteps := 2000000) only [List.getElem_toArray, List.getElem_cons_succ, List.getElem_cons_zero, Act.put, List.setIfInBounds_toArray, List.set_cons_zero, List.set_cons_succ]
        refine wpAnyH_take (i := 3) (v := ?_) rfl (by kernel_rfl) (by kernel_rfl) (by kernel_rfl) (fun _ _ _ h => h) (Or.inl ⟨by first | kernel_rfl | rfl, ?_⟩) (by assumption) ?_
        rotate_left
        · (intro wq hSw; (try dsimp only at hSw); (try simp (maxSteps := 2000000) only [List.getElem_toArray, List.getElem_cons_succ, List.getElem_cons_zero]); go_simp); try with_reducible rfl
        try simp (maxSteps := 2000000) only [List.getElem_toArray, List.getElem_cons_succ, List.getElem_cons_zero, Act.put, List.setIfInBounds_toArray, List.set_cons_zero, List.set_cons_succ]
        refine wpAnyH_take (i := 4) (v := ?_) rfl (by kernel_rfl) (by kernel_rfl) (by kernel_rfl) (fun _ _ _ h => h) (Or.inl ⟨by first | kernel_rfl | rfl, ?_⟩) (by assumption) ?_
        rotate_left
        · (intro wq hSw; (try dsimp only at hSw); (try simp (maxSteps := 2000000) only [List.getElem_toArray, List.getElem_cons_succ, List.getElem_cons_zero]); go_simp); try with_reducible rfl
        try simp (maxSteps := 2000000) only [List.getElem_toArray, List.getElem_cons_succ, List.getElem_cons_zero, Act.put, List.setIfInBounds_toArray, List.set_cons_zero, List.set_cons_succ]
        refine wpAnyH_take (i := 5) (v := ?_) rfl (by kernel_rfl) (by kernel_rfl) (by kernel_rfl) (fun _ _ _ h => h) (Or.inl ⟨by first | kernel_rfl | rfl, ?_⟩) (by assumption) ?_
        rotate_left
        · (intro wq hSw; (try dsimp only at hSw); (try simp (maxSteps := 2000000) only [List.getElem_toArray, List.getElem_cons_succ, List.getElem_cons_zero]); go_simp); try with_reducible rfl
        try simp (maxSteps := 2000000) only [List.getElem_toArray, List.getElem_cons_succ, List.getElem_cons_zero, Act.put, List.setIfInBounds_toArray, List.set_cons_zero, List.set_cons_succ]
        refine wpAnyH_take (i := 6) (v := ?_) rfl (by kernel_rfl) (by kernel_rfl) (by kernel_rfl) (fun _ _ _ h => h) (Or.inl ⟨by first | kernel_rfl | rfl, ?_⟩) (by assumption) ?_
        rotate_left
        · (intro wq hSw; (try dsimp only at hSw); (try simp (maxSteps := 2000000) only [List.getElem_toArray, List.getElem_cons_succ, List.getElem_cons_zero]); go_simp); try with_reducible rfl
        try simp (maxSteps := 2000000) only [List.getElem_toArray, List.getElem_cons_succ, List.getElem_cons_zero, Act.put, List.setIfInBounds_toArray, List.set_cons_zero, List.set_cons_succ]
        refine wpAnyH_take (i := 7) (v := ?_) rfl (by kernel_rfl) (by kernel_rfl) (by kernel_rfl) (fun _ _ _ h => h) (Or.inl ⟨by first | kernel_rfl | rfl, ?_⟩) (by assumption) ?_
        rotate_left
        · (intro wq hSw; (try dsimp only at hSw); (try simp (maxSteps := 2000000) only [List.getElem_toArray, List.getElem_cons_succ, List.getElem_cons_zero]); go_simp); try with_reducible rfl
        try simp (maxSteps := 2000000) only [List.getElem_toArray, List.getElem_cons_succ, List.getElem_cons_zero, Act.put, List.setIfInBounds_toArray, List.set_cons_zero, List.set_cons_succ]
        refine wpAnyH_take (i := 8) (v := ?_) rfl (by kernel_rfl) (by kernel_rfl) (by kernel_rfl) (fun _ _ _ h => h) (Or.inl ⟨by first | kernel_rfl | rfl, ?_⟩) (by assumption) ?_
        rotate_left
        · (intro wq hSw; (try dsimp only at hSw); (try simp (maxSteps := 2000000) only [List.getElem_toArray, List.getElem_cons_succ, List.getElem_cons_zero]); go_simp); try with_reducible rfl
        try simp (maxSteps := 2000000) only [List.getElem_toArray, List.getElem_cons_succ, List.getElem_cons_zero, Act.put, List.setIfInBounds_toArray, List.set_cons_zero, List.set_cons_succ]
        refine wpAnyH_take (i := 9) (v := ?_) rfl (by kernel_rfl) (by kernel_rfl) (by kernel_rfl) (fun _ _ _ h => h) (Or.inl ⟨by first | kernel_rfl | rfl, ?_⟩) (by assumption) ?_
        rotate_left
        · (intro wq hSw; (try dsimp only at hSw); (try simp (maxSteps := 2000000) only [List.getElem_toArray, List.getElem_cons_succ, List.getElem_cons_zero]); go_simp); try with_reducible rfl
        try simp (maxSteps := 2000000) only [List.getElem_toArray, List.getElem_cons_succ, List.getElem_cons_zero, Act.put, List.setIfInBounds_toArray, List.set_cons_zero, List.set_cons_succ]
        refine wpAnyH_take (i := 10) (v := ?_) rfl (by kernel_rfl) (by kernel_rfl) (by kernel_rfl) (fun _ _ _ h => h) (Or.inl ⟨by first | kernel_rfl | rfl, ?_⟩) (by assumption) ?_
        rotate_left
        · (intro wq hSw; (try dsimp only at hSw); (try simp (maxSteps := 2000000) only [List.getElem_toArray, List.getElem_cons_succ, List.getElem_cons_zero]); go_simp); try with_reducible rfl
        try simp (maxSteps := 2000000) only [List.getElem_toArray, List.getElem_cons_succ, List.getElem_cons_zero, Act.put, List.setIfInBounds_toArray, List.set_cons_zero, List.set_cons_succ]
        refine wpAnyH_take (i := 11) (v := ?_) rfl (by kernel_rfl) (by kernel_rfl) (by kernel_rfl) (fun _ _ _ h => h) (Or.inl ⟨by first | kernel_rfl | rfl, ?_⟩) (by assumption) ?_
        rotate_left
        · (intro wq hSw; (try dsimp only at hSw); (try simp (maxSteps := 2000000) only [List.getElem_toArray, List.getElem_cons_succ, List.getElem_cons_zero]); go_simp); try with_reducible rfl
        try simp (maxSteps := 2000000) only [List.getElem_toArray, List.getElem_cons_succ, List.getElem_cons_zero, Act.put, List.setIfInBounds_toArray, List.set_cons_zero, List.set_cons_succ]
        refine wpAnyH_done (by kernel_rfl) ?_ _
        go_wp2_with fail
        exact ⟨⟨p + 1 + 1, by omega, by omega, by go_num, HF2, Lib.hid HT.out.drew⟩, by simp [intOf]; omega⟩
      | false =>
        have HN : Hid (¬ RisesF xs) := Lib.hid (fun h => by have := adj_rises h hx hy; rw [hls] at this; cases this)
        clear hx hy d0 e0 HF
        cases hb1 : Op.bytesLess y.key.toList x.key.toList with
        | true =>
          go_wp2_with fail
          refine wp_region_held_drew (S := fun w' => Below wq.heap.size wq w') (by kernel_rfl) (by first | assumption | exact Below.refl _ _ | exact (Below.refl _ _).drew | exact (by repeat (first | (with_reducible exact Below.refl _ _) | (with_reducible assumption) | (with_reducible refine Below.drew ?_) | (with_reducible refine Below.setCell ?_ ?_ _) | (with_reducible refine Below.alloc ?_ ?_ _) | (with_reducible refine Below.later ?_ ?_ _) | (first | (with_reducible exact Nat.le_refl _) | omega | (simp only [World.size_alloc, World.size_setCell, World.size_drew] <;> omega))))) (fun hHeld => ?_)
          refine wpAnyH_take (i := 0) (v := ?_) rfl (by kernel_rfl) (by kernel_rfl) (by kernel_rfl) (fun _ _ _ h => h) (Or.inl ⟨by first | kernel_rfl | rfl, ?_⟩) (by assumption) ?_
          rotate_left
          · (intro wq hSw; (try dsimp only at hSw); (try simp (maxSteps := 2000000) only [List.getElem_toArray, List.getElem_cons_succ, List.getElem_cons_zero]); go_simp); try with_reducible rfl
          try simp (maxSteps := 2000000) only [List.getElem_toArray, List.getElem_cons_succ, List.getElem_cons_zero, Act.put, List.setIfInBounds_toArray, List.set_cons_zero, List.set_cons_succ]
          refine wpAnyH_take (i := 1) (v := ?_) rfl (by kernel_rfl) (by kernel_rfl) (by kernel_rfl) (fun _ _ _ h => h) (Or.inl ⟨by first | kernel_rfl | rfl, ?_⟩) (by assumption) ?_
          rotate_left
          · (intro wq hSw; (try dsimp only at hSw); (try simp (maxSteps := 2000000) only [List.getElem_toArray, List.getElem_cons_succ, List.getElem_cons_zero]); go_simp); try with_reducible rfl
          try simp (maxSteps := 2000000) only [List.getElem_toArray, List.getElem_cons_succ, List.getElem_cons_zero, Act.put, List.setIfInBounds_toArray, List.set_cons_zero, List.set_cons_succ]
          refine wpAnyH_take (i := 2) (v := ?_) rfl (by kernel_rfl) (by kernel_rfl) (by kernel_rfl) (fun _ _ _ h => h) (Or.inl ⟨by first | kernel_rfl | rfl, ?_⟩) (by assumption) ?_
          rotate_left
          · (intro wq hSw; (try dsimp only at hSw); (try simp (maxSteps := 2000000) only [List.getElem_toArray, List.getElem_cons_succ, List.getElem_cons_zero]); go_simp); try with_reducible rfl
          try simp (maxSteps := 2000000) only [List.getElem_toArray, List.getElem_cons_succ, List.getElem_cons_zero, Act.put, List.setIfInBounds_toArray, List.set_cons_zero, List.set_cons_succ]
          refine wpAnyH_take (i := 3) (v := ?_) rfl (by kernel_rfl) (by kernel_rfl) (by kernel_rfl) (fun _ _ _ h => h) (Or.inl ⟨by first | kernel_rfl | rfl, ?_⟩) (by assumption) ?_
          rotate_left
          · (intro wq hSw; (try dsimp only at hSw); (try simp (maxSteps := 2000000) only [List.getElem_toArray, List.getElem_cons_succ, List.getElem_cons_zero]); go_simp); try with_reducible rfl
          try simp (maxSteps := 2000000) only [List.getElem_toArray, List.getElem_cons_succ, List.getElem_cons_zero, Act.put, List.setIfInBounds_toArray, List.set_cons_zero, List.set_cons_succ]
          refine wpAnyH_take (i := 4) (v := ?_) rfl (by kernel_rfl) (by kernel_rfl) (by kernel_rfl) (fun _ _ _ h => h) (Or.inl ⟨by first | kernel_rfl | rfl, ?_⟩) (by assumption) ?_
          rotate_left
          · (intro wq hSw; (try dsimp only at hSw); (try simp (maxSteps := 2000000) only [List.getElem_toArray, List.getElem_cons_succ, List.getElem_cons_zero]); go_simp); try with_reducible rfl
          try simp (maxSteps := 2000000) only [List.getElem_toArray, List.getElem_cons_succ, List.getElem_cons_zero, Act.put, List.setIfInBounds_toArray, List.set_cons_zero, List.set_cons_succ]
          refine wpAnyH_take (i := 5) (v := ?_) rfl (by kernel_rfl) (by kernel_rfl) (by kernel_rfl) (fun _ _ _ h => h) (Or.inl ⟨by first | kernel_rfl | rfl, ?_⟩) (by assumption) ?_
          rotate_left
          · (intro wq hSw; (try dsimp only at hSw); (try simp (maxSteps := 2000000) only [List.getElem_toArray, List.getElem_cons_succ, List.getElem_cons_zero]); go_simp); try with_reducible rfl
          try simp (maxSteps := 2000000) only [List.getElem_toArray, List.getElem_cons_succ, List.getElem_cons_zero, Act.put, List.setIfInBounds_toArray, List.set_cons_zero, List.set_cons_succ]
          refine wpAnyH_take (i := 6) (v := ?_) rfl (by kernel_rfl) (by kernel_rfl) (by kernel_rfl) (fun _ _ _ h => h) (Or.inl ⟨by first | kernel_rfl | rfl, ?_⟩) (by assumption) ?_
          rotate_left
          · (intro wq hSw; (try dsimp only at hSw); (try simp (maxSteps := 2000000) only [List.getElem_toArray, List.getElem_cons_succ, List.getElem_cons_zero]); go_simp); try with_reducible rfl
          try simp (maxSteps := 2000000) only [List.getElem_toArray, List.getElem_cons_succ, List.getElem_cons_zero, Act.put, List.setIfInBounds_toArray, List.set_cons_zero, List.set_cons_succ]
          refine wpAnyH_take (i := 7) (v := ?_) rfl (by kernel_rfl) (by kernel_rfl) (by kernel_rfl) (fun _ _ _ h => h) (Or.inl ⟨by first | kernel_rfl | rfl, ?_⟩) (by assumption) ?_
          rotate_left
          · (intro wq hSw; (try dsimp only at hSw); (try simp (maxSteps := 2000000) only [List.getElem_toArray, List.getElem_cons_succ, List.getElem_cons_zero]); go_simp); try with_reducible rfl
          try simp (maxSteps := 2000000) only [List.getElem_toArray, List.getElem_cons_succ, List.getElem_cons_zero, Act.put, List.setIfInBounds_toArray, List.set_cons_zero, List.set_cons_succ]
          refine wpAnyH_take (i := 8) (v := ?_) rfl (by kernel_rfl) (by kernel_rfl) (by kernel_rfl) (fun _ _ _ h => h) (Or.inl ⟨by first | kernel_rfl | rfl, ?_⟩) (by assumption) ?_
          rotate_left
          · (intro wq hSw; (try dsimp only at hSw); (try simp (maxSteps := 2000000) only [List.getElem_toArray, List.getElem_cons_succ, List.getElem_cons_zero]); go_simp); try with_reducible rfl
          try simp (maxSteps := 2000000) only [List.getElem_toArray, List.getElem_cons_succ, List.getElem_cons_zero, Act.put, List.setIfInBounds_toArray, List.set_cons_zero, List.set_cons_succ]
          refine wpAnyH_take (i := 9) (v := ?_) rfl (by kernel_rfl) (by kernel_rfl) (by kernel_rfl) (fun _ _ _ h => h) (Or.inl ⟨by first | kernel_rfl | rfl, ?_⟩) (by assumption) ?_
          rotate_left
          · (intro wq hSw; (try dsimp only at hSw); (try simp (maxSteps := 2000000) only [List.getElem_toArray, List.getElem_cons_succ, List.getElem_cons_zero]); go_simp); try with_reducible rfl
          try simp (maxSteps := 2000000) only [List.getElem_toArray, List.getElem_cons_succ, List.getElem_cons_zero, Act.put, List.setIfInBounds_toArray, List.set_cons_zero, List.set_cons_succ]
          refine wpAnyH_take (i := 10) (v := ?_) rfl (by kernel_rfl) (by kernel_rfl) (by kernel_rfl) (fun _ _ _ h => h) (Or.inl ⟨by first | kernel_rfl | rfl, ?_⟩) (by assumption) ?_
          rotate_left
          · (intro wq hSw; (try dsimp only at hSw); (try simp (maxSteps := 2000000) only [List.getElem_toArray, List.getElem_cons_succ, List.getElem_cons_zero]); go_simp); try with_reducible rfl
          try simp (maxSteps := 2000000) only [List.getElem_toArray, List.getElem_cons_succ, List.getElem_cons_zero, Act.put, List.setIfInBounds_toArray, List.set_cons_zero, List.set_cons_succ]
          refine wpAnyH_take (i := 11) (v := ?_) rfl (by kernel_rfl) (by kernel_rfl) (by kernel_rfl) (fun _ _ _ h => h) (Or.inl ⟨by first | kernel_rfl | rfl, ?_⟩) (by assumption) ?_
          rotate_left
          · (intro wq hSw; (try dsimp only at hSw); (try simp (maxSteps := 2000000) only [List.getElem_toArray, List.getElem_cons_succ, List.getElem_cons_zero]); go_simp); try with_reducible rfl
          try simp (maxSteps := 2000000) only [List.getElem_toArray, List.getElem_cons_succ, List.getElem_cons_zero, Act.put, List.setIfInBounds_toArray, List.set_cons_zero, List.set_cons_succ]
          refine wpAnyH_done (by kernel_rfl) ?_ _
          go_wp2_with fail
          go_ret
          exact ⟨⟨false, rfl, ⟨fun h => (by cases h), fun h => absurd h HN.out⟩⟩, HT.out.drew⟩
        | false =>
          have hb2 : (y.key.toList == x.key.toList) = true := by rw [str_beq]; exact decide_eq_true (bl_tri hb1 hls)
          go_wp2_with fail
          refine wp_region_held_drew (S := fun w' => Below wq.heap.size wq w') (by kernel_rfl) (by first | assumption | exact Below.refl _ _ | exact (Below.refl _ _).drew | exact (by repeat (first | (with_reducible exact Below.refl _ _) | (with_reducible assumption) | (with_reducible refine Below.drew ?_) | (with_reducible refine Below.setCell ?_ ?_ _) | (with_reducible refine Below.alloc ?_ ?_ _) | (with_reducible refine Below.later ?_ ?_ _) | (first | (with_reducible exact Nat.le_refl _) | omega | (simp only [World.size_alloc, World.size_setCell, World.size_drew] <;> omega))))) (fun hHeld => ?_)
          refine wpAnyH_take (i := 0) (v := ?_) rfl (by kernel_rfl) (by kernel_rfl) (by kernel_rfl) (fun _ _ _ h => h) (Or.inl ⟨by first | kernel_rfl | rfl, ?_⟩) (by assumption) ?_
          rotate_left
          · (intro wq hSw; (try dsimp only at hSw); (try simp (maxSteps := 2000000) only [List.getElem_toArray, List.getElem_cons_succ, List.getElem_cons_zero]); go_simp); try with_reducible rfl
          try simp (maxSteps := 2000000) only [List.getElem_toArray, List.getElem_cons_succ, List.getElem_cons_zero, Act.put, List.setIfInBounds_toArray, List.set_cons_zero, List.set_cons_succ]
          refine wpAnyH_take (i := 1) (v := ?_) rfl (by kernel_rfl) (by kernel_rfl) (by kernel_rfl) (fun _ _ _ h => h) (Or.inl ⟨by first | kernel_rfl | rfl, ?_⟩) (by assumption) ?_
          rotate_left
          · (intro wq hSw; (try dsimp only at hSw); (try simp (maxSteps := 2000000) only [List.getElem_toArray, List.getElem_cons_succ, List.getElem_cons_zero]); go_simp); try with_reducible rfl
          try simp (maxSteps := 2000000) only [List.getElem_toArray, List.getElem_cons_succ, List.getElem_cons_zero, Act.put, List.setIfInBounds_toArray, List.set_cons_zero, List.set_cons_succ]
          refine wpAnyH_take (i := 2) (v := ?_) rfl (by kernel_rfl) (by kernel_rfl) (by kernel_rfl) (fun _ _ _ h => h) (Or.inl ⟨by first | kernel_rfl | rfl, ?_⟩) (by assumption) ?_
          rotate_left
          · (intro wq hSw; (try dsimp only at hSw); (try simp (maxSteps := 2000000) only [List.getElem_toArray, List.getElem_cons_succ, List.getElem_cons_zero]); go_simp); try with_reducible rfl
          try simp (maxSteps := 2000000) only [List.getElem_toArray, List.getElem_cons_succ, List.getElem_cons_zero, Act.put, List.setIfInBounds_toArray, List.set_cons_zero, List.set_cons_succ]
          refine wpAnyH_take (i := 3) (v := ?_) rfl (by kernel_rfl) (by kernel_rfl) (by kernel_rfl) (fun _ _ _ h => h) (Or.inl ⟨by first | kernel_rfl | rfl, ?_⟩) (by assumption) ?_
          rotate_left
          · (intro wq hSw; (try dsimp only at hSw); (try simp (maxSteps := 2000000) only [List.getElem_toArray, List.getElem_cons_succ, List.getElem_cons_zero]); go_simp); try with_reducible rfl
          try simp (maxSteps := 2000000) only [List.getElem_toArray, List.getElem_cons_succ, List.getElem_cons_zero, Act.put, List.setIfInBounds_toArray, List.set_cons_zero, List.set_cons_succ]
          refine wpAnyH_take (i := 4) (v := ?_) rfl (by kernel_rfl) (by kernel_rfl) (by kernel_rfl) (fun _ _ _ h => h) (Or.inl ⟨by first | kernel_rfl | rfl, ?_⟩) (by assumption) ?_
          rotate_left
          · (intro wq hSw; (try dsimp only at hSw); (try simp (maxSteps := 2000000) only [List.getElem_toArray, List.getElem_cons_succ, List.getElem_cons_zero]); go_simp); try with_reducible rfl
          try simp (maxSteps := 2000000) only [List.getElem_toArray, List.getElem_cons_succ, List.getElem_cons_zero, Act.put, List.setIfInBounds_toArray, List.set_cons_zero, List.set_cons_succ]
          refine wpAnyH_take (i := 5) (v := ?_) rfl (by kernel_rfl) (by kernel_rfl) (by kernel_rfl) (fun _ _ _ h => h) (Or.inl ⟨by first | kernel_rfl | rfl, ?_⟩) (by assumption) ?_
          rotate_left
          · (intro wq hSw; (try dsimp only at hSw); (try simp (maxSteps := 2000000) only [List.getElem_toArray, List.getElem_cons_succ, List.getElem_cons_zero]); go_simp); try with_reducible rfl
          try simp (maxSteps := 2000000) only [List.getElem_toArray, List.getElem_cons_succ, List.getElem_cons_zero, Act.put, List.setIfInBounds_toArray, List.set_cons_zero, List.set_cons_succ]
          refine wpAnyH_take (i := 6) (v := ?_) rfl (by kernel_rfl) (by kernel_rfl) (by kernel_rfl) (fun _ _ _ h => h) (Or.inl ⟨by first | kernel_rfl | rfl, ?_⟩) (by assumption) ?_
          rotate_left
          · (intro wq hSw; (try dsimp only at hSw); (try simp (maxSteps := 2000000) only [List.getElem_toArray, List.getElem_cons_succ, List.getElem_cons_zero]); go_simp); try with_reducible rfl
          try simp (maxSteps := 2000000) only [List.getElem_toArray, List.getElem_cons_succ, List.getElem_cons_zero, Act.put, List.setIfInBounds_toArray, List.set_cons_zero, List.set_cons_succ]
          refine wpAnyH_take (i := 7) (v := ?_) rfl (by kernel_rfl) (by kernel_rfl) (by kernel_rfl) (fun _ _ _ h => h) (Or.inl ⟨by first | kernel_rfl | rfl, ?_⟩) (by assumption) ?_
          rotate_left
          · (intro wq hSw; (try dsimp only at hSw); (try simp (maxSteps := 2000000) only [List.getElem_toArray, List.getElem_cons_succ, List.getElem_cons_zero]); go_simp); try with_reducible rfl
          try simp (maxSteps := 2000000) only [List.getElem_toArray, List.getElem_cons_succ, List.getElem_cons_zero, Act.put, List.setIfInBounds_toArray, List.set_cons_zero, List.set_cons_succ]
          refine wpAnyH_take (i := 8) (v := ?_) rfl (by kernel_rfl) (by kernel_rfl) (by kernel_rfl) (fun _ _ _ h => h) (Or.inl ⟨by first | kernel_rfl | rfl, ?_⟩) (by assumption) ?_
          rotate_left
          · (intro wq hSw; (try dsimp only at hSw); (try simp (maxSteps := 2000000) only [List.getElem_toArray, List.getElem_cons_succ, List.getElem_cons_zero]); go_simp); try with_reducible rfl
          try simp (maxSteps := 2000000) only [List.getElem_toArray, List.getElem_cons_succ, List.getElem_cons_zero, Act.put, List.setIfInBounds_toArray, List.set_cons_zero, List.set_cons_succ]
          refine wpAnyH_take (i := 9) (v := ?_) rfl (by kernel_rfl) (by kernel_rfl) (by kernel_rfl) (fun _ _ _ h => h) (Or.inl ⟨by first | kernel_rfl | rfl, ?_⟩) (by assumption) ?_
          rotate_left
          · (intro wq hSw; (try dsimp only at hSw); (try simp (maxSteps := 2000000) only [List.getElem_toArray, List.getElem_cons_succ, List.getElem_cons_zero]); go_simp); try with_reducible rfl
          try simp (maxSteps := 2000000) only [List.getElem_toArray, List.getElem_cons_succ, List.getElem_cons_zero, Act.put, List.setIfInBounds_toArray, List.set_cons_zero, List.set_cons_succ]
          refine wpAnyH_take (i := 10) (v := ?_) rfl (by kernel_rfl) (by kernel_rfl) (by kernel_rfl) (fun _ _ _ h => h) (Or.inl ⟨by first | kernel_rfl | rfl, ?_⟩) (by assumption) ?_
          rotate_left
          · (intro wq hSw; (try dsimp only at hSw); (try simp (maxSteps := 2000000) only [List.getElem_toArray, List.getElem_cons_succ, List.getElem_cons_zero]); go_simp); try with_reducible rfl
          try simp (maxSteps := 2000000) only [List.getElem_toArray, List.getElem_cons_succ, List.getElem_cons_zero, Act.put, List.setIfInBounds_toArray, List.set_cons_zero, List.set_cons_succ]
          refine wpAnyH_take (i := 11) (v := ?_) rfl (by kernel_rfl) (by kernel_rfl) (by kernel_rfl) (fun _ _ _ h => h) (Or.inl ⟨by first | kernel_rfl | rfl, ?_⟩) (by assumption) ?_
          rotate_left
          · (intro wq hSw; (try dsimp only at hSw); (try simp (maxSteps := 2000000) only [List.getElem_toArray, List.getElem_cons_succ, List.getElem_cons_zero]); go_simp); try with_reducible rfl
          try simp (maxSteps := 2000000) only [List.getElem_toArray, List.getElem_cons_succ, List.getElem_cons_zero, Act.put, List.setIfInBounds_toArray, List.set_cons_zero, List.set_cons_succ]
          refine wpAnyH_done (by kernel_rfl) ?_ _
          go_wp2_with fail
          go_ret
          exact ⟨⟨false, rfl, ⟨fun h => (by cases h), fun h => absurd h HN.out⟩⟩, HT.out.drew⟩
    · have q1 : ¬ (i : Int) < (m : Int) := by omega
      have HR : Hid (RisesF xs) := Lib.hid (rises_adj (fun j x y g1 g2 => HF.out j x y (by have := (List.getElem?_eq_some_iff.1 g2).1; omega) g1 g2))
      go_wp2_with fail
      go_ret
      exact ⟨⟨true, rfl, ⟨fun _ => HR.out, fun _ => rfl⟩⟩, HT.out⟩
end Go.Proofs.Ytpibaahiboajhaa
