/-
  A node: where a key is; whether it is a leaf, or full.
-/
import Derived.Test.YtpibaahiboajhaaTre1
import Derived.Deep.RegionHeld3
set_option linter.unusedSimpArgs false
set_option linter.unusedVariables false
namespace Go.Proofs.Ytpibaahiboajhaa
open Go.RowKit Go.Cib
attribute [local go_sem] cell_set Later.cell Later.frozen Grw.cell Grw.frozen

def posE (l : List Ent) (k : ByteArray) : Nat := (l.takeWhile fun y => Op.bytesLess y.key.toList k.toList).length
def isE (l : List Ent) (k : ByteArray) : Bool := match l[posE l k]? with
  | some e => decide (e.key = k)
  | none => false
theorem posE_le (l : List Ent) (k : ByteArray) : posE l k ≤ l.length := List.Sublist.length_le (List.takeWhile_sublist _)
theorem posE_cons (y : Ent) (l : List Ent) (k : ByteArray) : posE (y :: l) k = if Op.bytesLess y.key.toList k.toList = true then posE l k + 1 else 0 := by
  unfold posE
  rw [List.takeWhile_cons]
  split <;> rfl
theorem isE_cons (y : Ent) (l : List Ent) (k : ByteArray) : isE (y :: l) k = if Op.bytesLess y.key.toList k.toList = true then isE l k else decide (y.key = k) := by
  by_cases h : Op.bytesLess y.key.toList k.toList = true
  · rw [if_pos h, isE, posE_cons, if_pos h, List.getElem?_cons_succ]
    rfl
  · rw [if_neg h, isE, posE_cons, if_neg h]
    rfl
/-- Entry k of a row, cell by cell. -/
theorem ent_at {S : Nat → Prop} {w : World} {A : Option Addr} {n : Nat} {l : List Ent} (h : RdL EntR 2 S w A n l) {k : Nat} (hk : k < n) :
    ∃ (b o : Nat) (y : Ent) (VA : Option Addr) (vm vc : Nat), A = some ⟨b, o, none⟩ ∧ l[k]? = some y ∧ b < w.heap.size ∧ S b ∧ vm ≤ vc ∧ RdL VerR 5 S w VA vm y.vers ∧ w.cell? ⟨b, o + k * 2, none⟩ = some (.string y.key) ∧ w.cell? ⟨b, o + k * 2 + 1, none⟩ = some (.slice VA vm vc) := by
  obtain ⟨b, o, rfl, hS, hb⟩ := h.addr hk
  obtain ⟨hl, cs, h1, ⟨VA, vm, vc, rfl, h2, h3⟩, h4⟩ := h.at hk
  exact ⟨b, o, l[k], VA, vm, vc, rfl, List.getElem?_eq_getElem hl, hb, hS, h2, h3, h4 0 _ rfl, h4 1 _ rfl⟩
theorem ptr_at {S : Nat → Prop} {w : World} {A : Option Addr} {n : Nat} {l : List Nat} (h : RdL PtrR 1 S w A n l) {k : Nat} (hk : k < n) :
    ∃ (b o q : Nat), A = some ⟨b, o, none⟩ ∧ l[k]? = some q ∧ b < w.heap.size ∧ S b ∧ w.cell? ⟨b, o + k, none⟩ = some (.pointer (some ⟨q, 0, none⟩)) := by
  obtain ⟨b, o, rfl, hS, hb⟩ := h.addr hk
  obtain ⟨hl, cs, h1, h2, h4⟩ := h.at hk
  have h2 : cs = [.pointer (some ⟨l[k], 0, none⟩)] := h2
  subst h2
  have := h4 0 _ rfl
  rw [show o + k * 1 + 0 = o + k by omega] at this
  exact ⟨b, o, l[k], rfl, List.getElem?_eq_getElem hl, hb, hS, this⟩
section
variable {w : World} {base : Nat} {S : Nat → Prop} {p : Nat} {nd : ND}
theorem NodeAt.rdl (h : NodeAt w base S p nd) : ∃ A c, nd.lv = .slice A nd.l.length c ∧ nd.l.length ≤ c ∧ RdL EntR 2 (fun b => S b ∨ nd.lv.ownBlock = some b) w A nd.l.length nd.l := by
  obtain ⟨A, c, e, hc, hr⟩ := h.l.rd (S' := fun _ => True) (fun _ _ => trivial) (fun cs x hx => EntR.stable _ _ _ _ _ _ hx fun _ _ _ => ⟨trivial, rfl⟩)
  obtain ⟨css, h1, h2, h3, h4, h5⟩ := h.l
  refine ⟨A, c, e, hc, h2, fun hp => ?_⟩
  obtain ⟨b, o, hA, _, hb, hcell⟩ := hr.2 hp
  rcases h1.2 with ⟨e2, e3⟩ | ⟨g, cap, cur, e2, _, hblk, hnc, hcm, hsz, ht⟩
  · rw [e2] at e; injection e with _ e _; omega
  · have hA2 : A = some ⟨g, 0, none⟩ := by rw [e2] at e; injection e with e _ _; exact e.symm
    have hbg : b = g ∧ o = 0 := by rw [hA2] at hA; injection hA with hA; injection hA with h1 h2; exact ⟨h1.symm, h2.symm⟩
    obtain ⟨rfl, rfl⟩ := hbg
    refine ⟨b, 0, hA, .inr (by rw [e2]; rfl), hb, fun i x hx => ?_⟩
    have hi : i < css.length := by have := (List.getElem?_eq_some_iff.1 hx).1; omega
    refine ⟨css[i], h4 _ (List.getElem_mem _), EntR.stable _ _ _ _ _ _ (h5 i _ x (List.getElem?_eq_getElem hi) hx) (fun q hq _ => ⟨.inl hq.1, rfl⟩), fun j u hj => ?_⟩
    have hjs : j < 2 := by have h6 := (List.getElem?_eq_some_iff.1 hj).1; have h7 := h4 _ (List.getElem_mem hi); omega
    have hf := flatten_get css h4 i css[i] j (List.getElem?_eq_getElem hi) hjs
    have hc := h1.cells (g := b) (by rw [e2]; rfl) (i * 2 + j) u (by rw [hf]; exact hj)
    have ha : (⟨b, 0, none⟩ : Addr).add (i * 2 + j) = ⟨b, 0 + i * 2 + j, none⟩ := by unfold Addr.add; split <;> simp_all <;> omega
    rw [ha] at hc
    exact hc
theorem NodeAt.rdk (h : NodeAt w base S p nd) : ∃ A c, nd.kv = .slice A nd.ks.length c ∧ nd.ks.length ≤ c ∧ RdL PtrR 1 (fun _ => True) w A nd.ks.length nd.ks :=
  h.k.rd (S' := fun _ => True) (fun _ _ => trivial) (fun cs x hx => hx)

set_option maxRecDepth 100000 in
set_option maxHeartbeats 4000000 in
theorem find_any (h : Hid (NodeAt w base S p nd)) (k : ByteArray) (hm : nd.l.length ≤ 1000) :
    Calls Try.prog 133 #[.pointer (some ⟨p, 0, none⟩), .string k] w fun e w' => e = .returned (.tuple #[.int .i64 (posE nd.l k), .bool (isE nd.l k)]) ∧ Below w.heap.size w w' := by
  obtain ⟨A, c, hlv, hc, R⟩ := h.out.rdl
  have p00 := h.out.box.cell 0
  rw [hlv] at p00 R
  have HR := Lib.hid R
  obtain ⟨L, hL⟩ : ∃ L, nd.l = L := ⟨_, rfl⟩
  rw [hL] at p00 HR hm hc ⊢
  have hpl := h.out.box.lt
  clear R hlv hL h
  go_enter Try.func133, Try.ntmps133
  go_wp2_with fail
  go_loopw [13] (fun vi wr => ∃ i : Nat, i ≤ L.length ∧ vi = .int .i64 i ∧ Hid (posE L k = i + posE (L.drop i) k) ∧ Hid (isE L k = isE (L.drop i) k) ∧ Hid (Below w.heap.size w wr)) (fun vi _ => L.length - (intOf vi).toNat)
  case atStart => exact ⟨0, Nat.zero_le _, rfl, Lib.hid (by simp), Lib.hid rfl, Lib.hid (Below.refl _ _)⟩
  case round =>
    obtain ⟨i, hi, rfl, HP, HF, HB⟩ := hrel
    have q2 : (0 : Int) ≤ (i : Int) := Int.natCast_nonneg _
    have p0 : wr.cell? ⟨p, 0, none⟩ = some (.slice A L.length c) := (HB.out.cell (p := ⟨p, 0, none⟩) hpl).trans p00
    by_cases hlt : i < L.length
    · have q1 : (i : Int) < (L.length : Int) := by omega
      obtain ⟨g, og, y, VA, vm, vc, rfl, hy, hg, _, _, _, k0, k1⟩ := ent_at HR.out hlt
      replace k0 := (HB.out.cell (p := ⟨g, og + i * 2, none⟩) hg).trans k0
      replace k1 := (HB.out.cell (p := ⟨g, og + i * 2 + 1, none⟩) hg).trans k1
      have hdr : L.drop i = y :: L.drop (i + 1) := by rw [List.drop_eq_getElem_cons hlt, (List.getElem?_eq_some_iff.1 hy).2]
      have X := BoxAt.new wr #[.string y.key, .slice VA vm vc] 189
      have hB2 : Below w.heap.size w (wr.alloc (.cells #[.string y.key, .slice VA vm vc] 189)) := HB.out.alloc HB.out.size _
      have HB2 := Lib.hid hB2
      cases hls : Op.bytesLess y.key.toList k.toList with
      | true =>
        have HP2 : Hid (posE L k = (i + 1) + posE (L.drop (i + 1)) k) := Lib.hid (by
          rw [HP.out, hdr, posE_cons, if_pos hls]; omega)
        have HF2 : Hid (isE L k = isE (L.drop (i + 1)) k) := Lib.hid (by rw [HF.out, hdr, isE_cons, if_pos hls])
        clear hdr hy hB2 X
        go_wp2_with fail
        exact ⟨⟨i + 1, by omega, by go_num, HP2, HF2, HB2⟩, by simp [intOf]; omega⟩
      | false =>
        have hp : posE L k = i := by rw [HP.out, hdr, posE_cons, if_neg (by rw [hls]; decide)]; rfl
        have hsome : isE L k = decide (y.key = k) := by rw [HF.out, hdr, isE_cons, if_neg (by rw [hls]; decide)]
        have HP2 := Lib.hid hp
        have HS2 := Lib.hid hsome
        obtain ⟨wy, hwy⟩ : ∃ wy, wr.alloc (.cells #[.string y.key, .slice VA vm vc] 189) = wy := ⟨_, rfl⟩
        have X2 := X
        rw [hwy] at X2 HB2
        have u0 : ∀ w', Below wy.heap.size wy w' → w'.cell? ⟨wr.heap.size, 0, none⟩ = some (.string y.key) := fun w' h => (h.cell (p := ⟨wr.heap.size, 0, none⟩) X2.lt).trans (X2.cell 0)
        have z0 := X2.cell 0
        clear hdr hp hsome hy X X2 hB2
        have hbeq := str_beq y.key k
        obtain ⟨B, hB⟩ : ∃ B, decide (y.key = k) = B := ⟨_, rfl⟩
        rw [hB] at hbeq HS2
        clear hB
        go_wp2_with fail
        refine wp_region_held_drew (S := fun w' => Below wy.heap.size wy w') (by kernel_rfl) (by first | assumption | exact Below.refl _ _ | exact (Below.refl _ _).drew) (fun hHeld => ?_)
        refine wpAnyH_take (i := 0) (v := ?_) rfl (by kernel_rfl) (by kernel_rfl) (by kernel_rfl) (fun _ _ _ h => h) (Or.inl ⟨by first | kernel_rfl | rfl, ?_⟩) (by assumption) ?_
        rotate_left
        · (intro wq hSw; (try dsimp only at hSw); (try simp (maxSteps := 2000000) only [List.getElem_toArray, List.getElem_cons_succ, List.getElem_cons_zero]); go_simp); try with_reducible rfl
        try simp (maxSteps := 2000000) only [List.getElem_toArray, List.getElem_cons_succ, List.getElem_cons_zero, Act.put, List.setIfInBounds_toArray, List.set_cons_zero, List.set_cons_succ]
        refine wpAnyH_take (i := 1) (v := ?_) rfl (by kernel_rfl) (by kernel_rfl) (by kernel_rfl) (fun _ _ _ h => h) (Or.inl ⟨by first | kernel_rfl | rfl, ?_⟩) (by assumption) ?_
        rotate_left
        · (intro wq hSw; (try dsimp only at hSw); (try simp (maxSteps := 2000000) only [List.getElem_toArray, List.getElem_cons_succ, List.getElem_cons_zero]); go_simp); try with_reducible rfl
        try simp (maxSteps := 2000000) only [List.getElem_toArray, List.getElem_cons_succ, List.getElem_cons_zero, Act.put, List.setIfInBounds_toArray, List.set_cons_zero, List.set_cons_succ]
        refine wpAnyH_take (i := 2) (v := ?_) rfl (by kernel_rfl) (by kernel_rfl) (by kernel_rfl) (fun _ _ _ h => h) (Or.inl ⟨by first | kernel_rfl | rfl, ?_⟩) (by assumption) ?_
        rotate_left
        · (intro wq hSw; (try dsimp only at hSw); (try simp (maxSteps := 2000000) only [List.getElem_toArray, List.getElem_cons_succ, List.getElem_cons_zero]); go_simp); try with_reducible rfl
        try simp (maxSteps := 2000000) only [List.getElem_toArray, List.getElem_cons_succ, List.getElem_cons_zero, Act.put, List.setIfInBounds_toArray, List.set_cons_zero, List.set_cons_succ]
        refine wpAnyH_take (i := 3) (v := ?_) rfl (by kernel_rfl) (by kernel_rfl) (by kernel_rfl) (fun _ _ _ h => h) (Or.inl ⟨by first | kernel_rfl | rfl, ?_⟩) (by assumption) ?_
        rotate_left
        · (intro wq hSw; (try dsimp only at hSw); (try simp (maxSteps := 2000000) only [List.getElem_toArray, List.getElem_cons_succ, List.getElem_cons_zero]); go_simp); try with_reducible rfl
        try simp (maxSteps := 2000000) only [List.getElem_toArray, List.getElem_cons_succ, List.getElem_cons_zero, Act.put, List.setIfInBounds_toArray, List.set_cons_zero, List.set_cons_succ]
        refine wpAnyH_take (i := 4) (v := ?_) rfl (by kernel_rfl) (by kernel_rfl) (by kernel_rfl) (fun _ _ _ h => h) (Or.inl ⟨by first | kernel_rfl | rfl, ?_⟩) (by assumption) ?_
        rotate_left
        · (intro wq hSw; (try dsimp only at hSw); (try simp (maxSteps := 2000000) only [List.getElem_toArray, List.getElem_cons_succ, List.getElem_cons_zero]); go_simp); try with_reducible rfl
        try simp (maxSteps := 2000000) only [List.getElem_toArray, List.getElem_cons_succ, List.getElem_cons_zero, Act.put, List.setIfInBounds_toArray, List.set_cons_zero, List.set_cons_succ]
        refine wpAnyH_take (i := 5) (v := ?_) rfl (by kernel_rfl) (by kernel_rfl) (by kernel_rfl) (fun _ _ _ h => h) (Or.inl ⟨by first | kernel_rfl | rfl, ?_⟩) (by assumption) ?_
        rotate_left
        · (intro wq hSw; (try dsimp only at hSw); (try simp (maxSteps := 2000000) only [List.getElem_toArray, List.getElem_cons_succ, List.getElem_cons_zero]); go_simp); try with_reducible rfl
        try simp (maxSteps := 2000000) only [List.getElem_toArray, List.getElem_cons_succ, List.getElem_cons_zero, Act.put, List.setIfInBounds_toArray, List.set_cons_zero, List.set_cons_succ]
        refine wpAnyH_take (i := 6) (v := ?_) rfl (by kernel_rfl) (by kernel_rfl) (by kernel_rfl) (fun _ _ _ h => h) (Or.inl ⟨by first | kernel_rfl | rfl, ?_⟩) (by assumption) ?_
        rotate_left
        · (intro wq hSw; (try dsimp only at hSw); (try simp (maxSteps := 2000000) only [List.getElem_toArray, List.getElem_cons_succ, List.getElem_cons_zero]); go_simp); try with_reducible rfl
        try simp (maxSteps := 2000000) only [List.getElem_toArray, List.getElem_cons_succ, List.getElem_cons_zero, Act.put, List.setIfInBounds_toArray, List.set_cons_zero, List.set_cons_succ]
        refine wpAnyH_done (by kernel_rfl) ?_ _
        go_wp2_with fail
        refine bodyPost_ret (v := .tuple #[.int .i64 (i : Int), .bool B]) (by simp [results, Try.results133, go_sem, *]) rfl ?_
        rw [HP2.out, HS2.out]
        exact ⟨rfl, HB2.out.drew⟩
    · obtain rfl : i = L.length := by omega
      have q1 : ¬ (L.length : Int) < (L.length : Int) := by omega
      have hp : posE L k = L.length := by rw [HP.out, List.drop_of_length_le (Nat.le_refl _)]; rfl
      have hf : isE L k = false := by rw [HF.out, List.drop_of_length_le (Nat.le_refl _)]; rfl
      have HP2 := Lib.hid hp
      have HF2 := Lib.hid hf
      clear hp hf
      go_wp2_with fail
      refine bodyPost_ret (v := .tuple #[.int .i64 (L.length : Int), .bool false]) (by simp [results, Try.results133, go_sem, *]) rfl ?_
      rw [HP2.out, HF2.out]
      exact ⟨rfl, HB.out⟩
theorem leaf_any (h : NodeAt w base S p nd) : Calls Try.prog 134 #[.pointer (some ⟨p, 0, none⟩)] w fun e w' => e = .returned (.bool (nd.ks.length == 0)) ∧ w' = w := by
  obtain ⟨A, c, hkv, hc, R⟩ := h.rdk
  have p01 := h.box.cell 1
  rw [hkv] at p01
  obtain ⟨n, hn⟩ : ∃ n, nd.ks.length = n := ⟨_, rfl⟩
  rw [hn] at p01 ⊢
  clear R hkv h hc hn
  go_enter Try.func134, Try.ntmps134
  go_wp2_with fail
  go_ret
  have e : ((n : Int) == 0) = (n == 0) := by rw [Bool.eq_iff_iff, beq_iff_eq, beq_iff_eq]; omega
  exact ⟨by simp [e], rfl⟩
theorem full_any (h : NodeAt w base S p nd) : Calls Try.prog 113 #[.pointer (some ⟨p, 0, none⟩)] w fun e w' => e = .returned (.bool (nd.l.length == 5)) ∧ w' = w := by
  obtain ⟨A, c, hlv, hc, R⟩ := h.rdl
  have p00 := h.box.cell 0
  rw [hlv] at p00
  obtain ⟨n, hn⟩ : ∃ n, nd.l.length = n := ⟨_, rfl⟩
  rw [hn] at p00 ⊢
  clear R hlv h hc hn
  go_enter Try.func113, Try.ntmps113
  go_wp2_with fail
  go_ret
  have e : ((n : Int) == 5) = (n == 5) := by rw [Bool.eq_iff_iff, beq_iff_eq, beq_iff_eq]; omega
  exact ⟨by simp [e], rfl⟩
end
end Go.Proofs.Ytpibaahiboajhaa
