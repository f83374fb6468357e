/-
  A pool: the small questions, Free, places.
  A pool: generations; Take.
  A pool gives out places; a new pool.
  A new pool; a pool's copy.
  Blobs: how many stripes, their names, pieces.
  Places and generations for a value.
  A value is put.
  Whether a blob may be; how long its stripes should be.
  A value is got.
  A law's base: rows, and places of a pool: is it small?
  A law's base: drives, a coder and a pool are made.
  A value is put: no room, too long.
  Without drives, a coder or a pool nothing is put or got; too long a value is not put.
  What is taken of a pool is free no more; a value's stripes lie on the drives as they were put, and stay.
  A long text's stripes: how much room, how many, which part.
  A long text's stripes: what a stripe's text is, and whom it tells of.
  A value's stripes, by name.
  A long text's stripes: their names, side by side.
  blob.Put while nothing came back to the pool: the places follow each other.
  A pool of which the first places are taken, further; stripes of any kind put one behind the other.
  A long text's stripes are written.
  A long text is put, or why not.
  A long text is put, or why not: scroll.Put.
  A long text isn't put: no room, too long, nothing to put it into.
  A long text's Get, without drives or a coder.
  array.Row, byte by byte.
  super.is, ready, Ref.
  shard.Gen of too great an epoch, shard.Epoch, super.Ref.
  A long text's stripes are read one by one.
  Values that were put, and what they were: two slices that grow side by side, while drives and a pool go on.
  A long text is got: scroll.Get.
  The document's count of a long text's stripes; lists of ints that are the same.
  Law 16's page's example.
  Numbers read out of bytes, whatever is asked; by the reference, too.
  Numbers as bytes, by the reference: joined, Put, Get.
  Numbers read out of bytes, by the reference.
  A scroll's name as bytes, by the reference.
  A scroll's name read out of bytes, whatever is asked.
  scroll.GetBytes.
  ref16.GetBytes.
  What a region's operations keep may be sharpened on the way.
  ScrollBytes, walked.
-/
import Derived.Test.YtcliejdiaohamaaGreatUa12
import Derived.Test.YtcliejdiaohamaaGreatUa9
import Derived.Defers
import Derived.WalkMore
import Derived.Test.YtcliejdiaohamaaGreatUa11
import Derived.Test.YtcliejdiaohamaaGreatUa4
import Derived.Test.YtcliejdiaohamaaGreatUa8
set_option linter.unusedSimpArgs false
set_option linter.unusedVariables false
namespace Go.Proofs.YtcliejdiaohamaaGreat
open Go.RowKit Go.Cib
attribute [local go_sem] cell_set Later.cell Later.frozen Grw.cell Grw.frozen
section
/-- A pool in memory. -/
structure PoolAt (w : World) (p o l go gl ep ct fs n : Nat) (wo wl : List Nat) : Prop where
  box : BoxAt w p #[.int .u64 (ep : Int), .int .i64 (ct : Int), .int .i64 (fs : Int), .pointer (some ⟨o, 0, none⟩), .pointer (some ⟨l, 0, none⟩)]
  out : BmAt w o go n wo
  lim : BmAt w l gl n wl
  ne : p ≠ o ∧ p ≠ go ∧ p ≠ l ∧ p ≠ gl ∧ go ≠ l ∧ go ≠ gl ∧ gl ≠ o
  fsn : fs + n ≤ 600
  n1 : 1 ≤ n
def PoolB (p o l go gl : Nat) (j : Nat) : Prop := j = p ∨ j = o ∨ j = l ∨ j = go ∨ j = gl
section
variable {w w' : World} {p o l go gl ep ct fs n : Nat} {wo wl : List Nat}
theorem PoolAt.keep {F : Nat → Prop} (h : PoolAt w p o l go gl ep ct fs n wo wl) (hK : Keep F w w') (hF : ∀ j, PoolB p o l go gl j → ¬ F j) : PoolAt w' p o l go gl ep ct fs n wo wl :=
  ⟨h.box.keeps hK (hF p (.inl rfl)), h.out.keep hK (hF o (.inr (.inl rfl))) (hF go (.inr (.inr (.inr (.inl rfl))))), h.lim.keep hK (hF l (.inr (.inr (.inl rfl)))) (hF gl (.inr (.inr (.inr (.inr rfl))))), h.ne, h.fsn, h.n1⟩
theorem PoolAt.below (h : PoolAt w p o l go gl ep ct fs n wo wl) (hb : Below w.heap.size w w') : PoolAt w' p o l go gl ep ct fs n wo wl := ⟨h.box.below hb, h.out.below hb, h.lim.below hb, h.ne, h.fsn, h.n1⟩
theorem PoolAt.kp {X : Nat → Prop} (h : PoolAt w p o l go gl ep ct fs n wo wl) (hK : ∀ j, X j → w'.heap[j]? = w.heap[j]?) (hX : ∀ j, PoolB p o l go gl j → X j) : PoolAt w' p o l go gl ep ct fs n wo wl :=
  ⟨h.box.keep (hK p (hX p (.inl rfl))), h.out.kp hK (hX o (.inr (.inl rfl))) (hX go (.inr (.inr (.inr (.inl rfl))))), h.lim.kp hK (hX l (.inr (.inr (.inl rfl)))) (hX gl (.inr (.inr (.inr (.inr rfl))))), h.ne, h.fsn, h.n1⟩
theorem PoolAt.cells (h : PoolAt w p o l go gl ep ct fs n wo wl) : w.cell? ⟨p, 0, none⟩ = some (.int .u64 (ep : Int)) ∧ w.cell? ⟨p, 1, none⟩ = some (.int .i64 (ct : Int)) ∧ w.cell? ⟨p, 2, none⟩ = some (.int .i64 (fs : Int)) ∧ w.cell? ⟨p, 3, none⟩ = some (.pointer (some ⟨o, 0, none⟩)) ∧ w.cell? ⟨p, 4, none⟩ = some (.pointer (some ⟨l, 0, none⟩)) := ⟨h.box.cell 0, h.box.cell 1, h.box.cell 2, h.box.cell 3, h.box.cell 4⟩
set_option maxRecDepth 100000 in
theorem pnone_any (h : PoolAt w p o l go gl ep ct fs n wo wl) : Calls Tryz.prog 113 #[.pointer (some ⟨p, 0, none⟩)] w fun e w' => e = .returned (.bool false) ∧ w' = w := by
  obtain ⟨k0, k1, k2, k3, k4⟩ := h.cells
  clear h
  go_enter Tryz.func113, Tryz.ntmps113
  go_wp2_with fail
  go_ret
  exact ⟨rfl, rfl⟩
def freeN (wo : List Nat) (n : Nat) : Nat := n - cntT wo n
set_option maxRecDepth 100000 in
set_option maxHeartbeats 4000000 in
theorem pfree_any (h : PoolAt w p o l go gl ep ct fs n wo wl) : Calls Tryz.prog 42 #[.pointer (some ⟨p, 0, none⟩)] w fun e w' => e = .returned (.int .i64 (freeN wo n : Nat)) ∧ Below w.heap.size w w' := by
  obtain ⟨k0, k1, k2, k3, k4⟩ := h.cells
  have hno := pnone_any h
  have hln := fun (y : Later w.heap.size w) => blen_b (h.out.below y.ok)
  have hcn := fun (y : Later w.heap.size w) => bcount_b (h.out.below y.ok)
  have hct := cntT_le wo n
  have hn1 := h.out.n1
  have hpl := h.box.lt
  obtain ⟨c, hc⟩ : ∃ c, cntT wo n = c := ⟨_, rfl⟩
  have HF := Lib.hid (show (n : Int) - (c : Int) = (freeN wo n : Nat) by unfold freeN; omega)
  rw [hc] at hcn hct
  have q3 : (n : Int) ≤ 60000 := by omega
  have q4 : (c : Int) ≤ (n : Int) := by omega
  have f3 : IntKind.i64.wrap ((n : Int) - (c : Int)) = (n : Int) - (c : Int) := by rw [IntKind.wrap_i64]; omega
  clear h hc
  go_enter Tryz.func42, Tryz.ntmps42
  go_wp2_with fail
  refine hno.mono ?_
  rintro e w1 ⟨rfl, hw1⟩
  rw [hw1]
  clear hw1 hno
  go_wp2_with fail
  refine wp_region_later (by kernel_rfl) (by kernel_rfl) ?_
  repeat (go_big_quiet_step (first | (go_at_call 114; exact Later.call _ (hln _) (Nat.le_refl _)) | (go_at_call 115; exact Later.call _ (hcn _) (Nat.le_refl _))))
  refine wpQuiet_nil ?_
  rintro _ ⟨z, rfl⟩
  clear hln hcn
  go_wp2_with fail
  go_ret
  exact ⟨by rw [← HF.out]; rfl, z.ok⟩
end
end
section
theorem or_b64 {a c : Nat} (ha : a < 2 ^ 64) (hc : c < 2 ^ 64) : bits .or .u64 (a : Int) (c : Int) = ((a ||| c : Nat) : Int) := by
  unfold bits
  have h := Nat.or_lt_two_pow (n := 64) ha hc
  have e : (BitVec.ofInt 64 (a : Int) ||| BitVec.ofInt 64 (c : Int)).toNat = a ||| c := by
    rw [BitVec.toNat_or, BitVec.ofInt_natCast, BitVec.ofInt_natCast, BitVec.toNat_ofNat, BitVec.toNat_ofNat, Nat.mod_eq_of_lt ha, Nat.mod_eq_of_lt hc]
  show IntKind.u64.wrap ((BitVec.ofInt 64 (a : Int) ||| BitVec.ofInt 64 (c : Int)).toNat : Int) = _
  rw [e, IntKind.wrap_u64]
  omega
theorem or_gen {ep ct : Nat} (hc : ct < 1048576) : (ep * 1048576) ||| ct = ep * 1048576 + ct := by
  have h := Nat.shiftLeft_add_eq_or_of_lt (a := ep) (b := ct) (i := 20) hc
  rw [Nat.shiftLeft_eq] at h
  exact h.symm
set_option maxRecDepth 100000 in
theorem gen_any {w : World} {ep ct : Nat} (he : ep < 1099511627776) (hc : ct < 1048576) : Calls Tryz.prog 81 #[.int .u64 (ep : Int), .int .i64 (ct : Int)] w fun e w' => e = .returned (.tuple #[.int .u64 ((ep * 1048576 + ct : Nat) : Int), .int .i64 0]) ∧ w' = w := by
  have h1 := or_b64 (a := ep * 1048576) (c := ct) (by omega) (by omega)
  rw [or_gen hc] at h1
  have q0 : (0 : Int) ≤ (ep : Int) := Int.natCast_nonneg _
  have g1 : decide ((ep : Int) ≥ 1099511627776) = false := decide_eq_false (by omega)
  have HE := Lib.hid he
  have q2 : (0 : Int) ≤ (ct : Int) := Int.natCast_nonneg _
  have g3 : decide ((ct : Int) ≥ 1048576) = false := decide_eq_false (by omega)
  have HC := Lib.hid hc
  have f1 : IntKind.u64.wrap ((ep : Int) * 1048576) = ((ep * 1048576 : Nat) : Int) := by rw [IntKind.wrap_u64]; omega
  have f2 : IntKind.u64.wrap (ct : Int) = (ct : Int) := by rw [IntKind.wrap_u64]; omega
  have f1' : IntKind.u64.wrap ((ep : Int) * 2 ^ 20) = ((ep * 1048576 : Nat) : Int) := f1
  obtain ⟨x, hx⟩ : ∃ x, ep * 1048576 = x := ⟨_, rfl⟩
  obtain ⟨y, hy⟩ : ∃ y, ep * 1048576 + ct = y := ⟨_, rfl⟩
  rw [hy] at h1 ⊢
  rw [hx] at f1 f1' h1
  clear hx hy he hc
  go_enter Tryz.func81, Tryz.ntmps81
  go_wp2_with fail
  go_ret2
  exact ⟨rfl, rfl⟩
section
variable {w w' : World} {p o l go gl ep ct fs n : Nat} {wo wl : List Nat}
/-- The count turned. -/
theorem PoolAt.count (h : PoolAt w p o l go gl ep ct fs n wo wl) (c : Nat) : PoolAt (w.setCell ⟨p, 1, none⟩ (.int .i64 (c : Int))) p o l go gl ep c fs n wo wl := by
  obtain ⟨n1, n2, n3, n4, n5, n6, n7⟩ := h.ne
  refine ⟨h.box.set 1 _, ⟨h.out.box.set_other (p := ⟨p, 1, none⟩) (fun e => n1 e.symm) _, h.out.row.set_other (p := ⟨p, 1, none⟩) (fun e => n2 e.symm) _, h.out.ok, h.out.ne, h.out.n1⟩, ⟨h.lim.box.set_other (p := ⟨p, 1, none⟩) (fun e => n3 e.symm) _, h.lim.row.set_other (p := ⟨p, 1, none⟩) (fun e => n4 e.symm) _, h.lim.ok, h.lim.ne, h.lim.n1⟩, h.ne, h.fsn, h.n1⟩
end
end
section
section
variable {w w' : World} {p o l go gl ep ct fs n : Nat} {wo wl : List Nat}
end
end
section
section
variable {w w' : World}
section
variable {p o l go gl ep ct fs n : Nat} {wo wl : List Nat}
end
end
end
section
attribute [local go_sem ↓] run_min_b
end
section
def cntN (k size : Nat) : Nat := (size + k * 44 - 1) / (k * 44)
section
variable {w w' : World} {p o l go gl ep ct fs n cb bf k m : Nat} {wo wl : List Nat}
end
end
section
def bRef (ps : List Int) (gen : Nat) (i : Nat) : Ref := ⟨3, (ps.getD i 0).toNat, gen + i⟩
def bPc (k : Nat) (xs : List Nat) (i : Nat) : List Nat := (xs.drop (i * (k * 44))).take (k * 44)
/-- The drives behind the first i stripes. -/
def putB (n k N : Nat) (ps : List Int) (gen : Nat) (xs : List Nat) (sts : List DSt) : Nat → List DSt
  | 0 => sts
  | i + 1 => (putB n k N ps gen xs sts i).mapIdx (putQ n k N (bRef ps gen i) (bPc k xs i))
section
variable {P X S : Nat → Prop} {w0 w w' : World} {a p o l go gl ep ct fs np n cb bf k m : Nat} {wo wl : List Nat} {sts : List DSt}
end
end
section
section
variable {w w' : World} {cb bf k m : Nat}
attribute [local go_sem ↓] run_min_b
end
end
section
section
variable {w0 w w' : World} {a n cb bf k m : Nat} {sts : List DSt} {S : Nat → Prop}
end
end
section
end
section
end
section
section
variable {P X S : Nat → Prop} {w0 w w' : World} {a p o l go gl ep ct fs n np cb bf k m : Nat} {wo wl : List Nat} {sts : List DSt}
end
end
section
section
variable {w : World}
end
section
variable {P X S : Nat → Prop} {w0 w : World} {a cb bf k m n : Nat} {sts : List DSt}
end
end
section
/-- Places that follow each other. -/
def plL (a M : Nat) : List Int := (List.range M).map fun i : Nat => ((a + i : Nat) : Int)
theorem plL_at {a M i : Nat} (h : i < M) : (plL a M).getD i 0 = ((a + i : Nat) : Int) := by
  unfold plL
  simp [List.getD_eq_getElem?_getD, h]
theorem free_new (m n : Nat) : freeL (List.replicate m 0) n = (List.range n).drop 0 := by
  unfold freeL
  rw [List.drop_zero]
  exact List.filter_eq_self.2 fun i _ => by rw [tk_new]; rfl
theorem free_cnt {wo : List Nat} {np t : Nat} (h : freeL wo np = (List.range np).drop t) : freeN wo np = np - t ∧ (freeL wo np).length = np - t := by
  have h1 := freeL_len wo np
  have h2 : (freeL wo np).length = np - t := by rw [h]; simp
  unfold freeN
  exact ⟨by omega, h2⟩
/-! ### Drives that are all alive -/
def Alv (n : Nat) (sts : List DSt) : Prop := ∀ st ∈ sts, st.dead = false ∧ st.ok n
section
variable {g : Nat → Bool} {n k N a G M0 : Nat} {xs : List Nat} {sts : List DSt}
theorem Alv.live (h : Alv n sts) {d : Nat} (hd : d < sts.length) : deadL sts d = false := by
  unfold deadL
  rw [List.getElem?_eq_getElem hd]
  exact (h _ (List.getElem_mem hd)).1
theorem Alv.new (n N : Nat) : Alv n (newS n N) := fun st hst => by
  obtain ⟨d, hd, rfl⟩ := List.mem_iff_getElem.1 hst
  rw [(newS_at (List.getElem?_eq_getElem hd)).1]
  exact ⟨rfl, DSt.ok.new n⟩
theorem Alv.count (h : Alv n sts) : cnt (aliveL sts) = sts.length := by
  have e : aliveL sts = List.replicate sts.length true := by
    unfold aliveL
    apply List.ext_getElem?
    intro d
    rw [List.getElem?_map, List.getElem?_replicate]
    by_cases hd : d < sts.length
    · rw [if_pos hd, List.getElem?_eq_getElem hd]
      simp [(h _ (List.getElem_mem hd)).1]
    · rw [if_neg hd, List.getElem?_eq_none (by omega)]; rfl
  rw [e]
  unfold cnt
  simp
theorem Alv.put (h : Alv n sts) {r : Ref} (hr : r.ok n) (hx : Byt xs) : Alv n (sts.mapIdx (putQ n k N r xs)) := fun st hst => by
  obtain ⟨d, hd⟩ := List.getElem?_of_mem hst
  obtain ⟨s1, h1, rfl⟩ := mapIdx_at hd
  obtain ⟨a1, a2⟩ := h s1 (List.mem_of_getElem? h1)
  rw [putQ_live hr hx a1]
  exact ⟨a1, a2.write (wrI_len (x := putX k N r xs d) (row44 hx k _).1) ⟨Int.natCast_nonneg _, by have := hr.p; omega⟩⟩
theorem bRef_pl {M i : Nat} (h : i < M) : bRef (plL a M) G i = ⟨3, a + i, G + i⟩ := by
  unfold bRef
  rw [plL_at h, Int.toNat_natCast]
theorem bPc_byt (hx : Byt xs) (i : Nat) : Byt (bPc k xs i) := fun x h => hx x (List.mem_of_mem_drop (List.mem_of_mem_take h))
theorem ref3_in {p z : Nat} (h : p < n) : Ref.ok ⟨3, p, z⟩ n := ⟨(by decide : 1 ≤ 3), (by decide : 3 ≤ 4), h⟩
theorem putB_alv (h : Alv n sts) (hx : Byt xs) {M : Nat} (ha : a + M ≤ n) : ∀ i, i ≤ M → Alv n (putB n k N (plL a M) G xs sts i)
  | 0, _ => h
  | i + 1, hi => by
    rw [putB, bRef_pl (by omega)]
    exact (putB_alv h hx ha i (by omega)).put (ref3_in (by omega)) (bPc_byt hx i)
theorem putB_old {r : Ref} {ys : List Nat} (h : Hds g k N r ys sts) (hx : Byt xs) {M : Nat} (ha : a + M ≤ n) (hd : r.place < a ∨ a + M ≤ r.place) : ∀ i, i ≤ M → Hds g k N r ys (putB n k N (plL a M) G xs sts i)
  | 0, _ => h
  | i + 1, hi => by
    rw [putB, bRef_pl (by omega)]
    exact (putB_old h hx ha hd i (by omega)).put (n := n) (ref3_in (by omega)) (bPc_byt hx i) (by show a + i ≠ r.place; omega)
theorem putB_new (h : Alv n sts) (hx : Byt xs) {M : Nat} (ha : a + M ≤ n) : ∀ i, i ≤ M → ∀ t, t < i → Hds (fun _ => true) k N ⟨3, a + t, G + t⟩ (bPc k xs t) (putB n k N (plL a M) G xs sts i)
  | 0, _, t, ht => absurd ht (by omega)
  | i + 1, hi, t, ht => by
    have hA := putB_alv (k := k) (N := N) (G := G) h hx ha i (by omega)
    rw [putB, bRef_pl (by omega)]
    by_cases e : t = i
    · subst e
      refine (Hds.new (n := n) (ref3_in (by omega)) (bPc_byt hx t) (fun st hst hd => by rw [(hA st hst).1] at hd; cases hd)).congr fun d hd => ?_
      rw [List.length_mapIdx] at hd
      rw [hA.live hd]; rfl
    · exact (putB_new h hx ha i (by omega) t (by omega)).put (n := n) (ref3_in (by omega)) (bPc_byt hx i) (by show a + i ≠ a + t; omega)
/-- A value lies on the drives g. -/
def HdB (g : Nat → Bool) (k N a G M : Nat) (xs : List Nat) (sts : List DSt) : Prop := ∀ t, t < M → Hds g k N ⟨3, a + t, G + t⟩ (bPc k xs t) sts
theorem HdB.put (h : HdB g k N a G M0 xs sts) {ys : List Nat} (hy : Byt ys) {b H M : Nat} (hb : b + M ≤ n) (hd : a + M0 ≤ b) : HdB g k N a G M0 xs (putB n k N (plL b M) H ys sts M) := fun t ht =>
  putB_old (h t ht) hy hb (.inl (by show a + t < b; omega)) M (Nat.le_refl _)
theorem HdB.new (h : Alv n sts) (hx : Byt xs) {M : Nat} (ha : a + M ≤ n) : HdB (fun _ => true) k N a G M xs (putB n k N (plL a M) G xs sts M) := fun t ht => putB_new h hx ha M (Nat.le_refl _) t ht
theorem HdB.fail (h : HdB g k N a G M0 xs sts) (ha : a + M0 ≤ n) (x : Int) : HdB (butB g x) k N a G M0 xs (failA n sts x) := fun t ht => (h t ht).fail (ref3_in (by omega)) x
end
end
section
section
variable {w : World} {cb bf k m : Nat}
end
attribute [local go_sem ↓] run_min_b
end
section
theorem OwnL.rdT {E : TypeId} {base n c : Nat} {w : World} {A : Option Addr} {xs : List Nat} (h : OwnL ByR E 1 base (fun _ => True) w (.slice A n c) n xs) : RdL ByR 1 (fun j => base ≤ j) w A n xs ∧ n ≤ c := by
  obtain ⟨A', c', e, hc, hr⟩ := h.rd (S' := fun j => base ≤ j) (fun j hj => hj) (fun cs x hx => hx)
  injection e with e1 _ e2
  subst e1; subst e2
  exact ⟨hr, hc⟩
section
variable {w : World}
def u64N (x : Int) : Nat := (x % 18446744073709551616).toNat
theorem u64N_wrap (x : Int) : IntKind.u64.wrap x = (u64N x : Int) := by
  rw [IntKind.wrap_u64]
  unfold u64N
  rw [Int.toNat_of_nonneg (Int.emod_nonneg _ (by omega))]
theorem u64N_lt (x : Int) : u64N x < 18446744073709551616 := by
  unfold u64N
  have := Int.emod_lt_of_pos x (show (0 : Int) < 18446744073709551616 by omega)
  have := Int.emod_nonneg x (show (18446744073709551616 : Int) ≠ 0 by omega)
  omega
/-- A scroll's name as bytes. -/
def nmB (p : Int) (g : Nat) (ct sz : Int) : List Nat := leN 2 (u64N p) ++ leN 8 g ++ leN 2 (u64N ct) ++ leN 4 (u64N sz)
theorem nmB_len (p : Int) (g : Nat) (ct sz : Int) : (nmB p g ct sz).length = 16 := by unfold nmB; simp [leN_len]
def scC (p : Int) (g : Int) (ct sz : Int) : Array Value := #[.int .i64 p, .int .u64 g, .int .i64 ct, .int .i64 sz]
set_option maxRecDepth 100000 in
set_option maxHeartbeats 8000000 in
theorem spb_any {p ct sz : Int} {g : Nat} {n c : Nat} {A : Option Addr} {S : Nat → Prop} {xs : List Nat} (R : RdL ByR 1 S w A n xs) (hn : n ≤ 3900) (hg : Hid (g < 2 ^ 64)) :
    Calls Tryz.prog 48 #[.slice A n c, .agg (scC p (g : Int) ct sz)] w fun e w' => ∃ A' c', e = .returned (.slice A' (n + 16) c') ∧ n + 16 ≤ c' ∧ RdL ByR 1 (fun j => w.heap.size ≤ j) w' A' (n + 16) (xs ++ nmB p g ct sz) ∧ Below w.heap.size w w' := by
  have hb0 : Below w.heap.size w (w.alloc (.cells (scC p (g : Int) ct sz) 24)) := (Below.refl _ _).alloc (Nat.le_refl _) _
  have bB := BoxAt.new w (scC p (g : Int) ct sz) 24
  obtain ⟨w1, hw1⟩ : ∃ w1, w.alloc (.cells (scC p (g : Int) ct sz) 24) = w1 := ⟨_, rfl⟩
  obtain ⟨q, hq⟩ : ∃ q, w.heap.size = q := ⟨_, rfl⟩
  rw [hw1] at hb0 bB
  rw [hq] at bB
  have HB0 := Lib.hid hb0
  have BB := Lib.hid bB
  have HR := Lib.hid (R.below ByR.stable hb0)
  have fp := u64N_wrap p
  have fc := u64N_wrap ct
  have fs := u64N_wrap sz
  have hpl := Lib.hid (u64N_lt p)
  have hcl := Lib.hid (u64N_lt ct)
  have hsl := Lib.hid (u64N_lt sz)
  unfold nmB
  obtain ⟨P, hP⟩ : ∃ P, u64N p = P := ⟨_, rfl⟩
  obtain ⟨C, hC⟩ : ∃ C, u64N ct = C := ⟨_, rfl⟩
  obtain ⟨Z, hZ⟩ : ∃ Z, u64N sz = Z := ⟨_, rfl⟩
  rw [hP] at fp hpl ⊢
  rw [hC] at fc hcl ⊢
  rw [hZ] at fs hsl ⊢
  clear hb0 bB R hP hC hZ
  unfold scC at hw1 ⊢
  go_enter Tryz.func48, Tryz.ntmps48
  go_wp2_with fail
  have hd : Below w1.heap.size w1 w1.drew := (Below.refl _ _).drew
  have HSF : Hid (∀ w', Below w1.heap.size w1 w' → w'.cell? ⟨q, 0, none⟩ = some (.int .i64 p) ∧ w'.cell? ⟨q, 1, none⟩ = some (.int .u64 (g : Int)) ∧ w'.cell? ⟨q, 2, none⟩ = some (.int .i64 ct) ∧ w'.cell? ⟨q, 3, none⟩ = some (.int .i64 sz)) := Lib.hid fun w' hb => ⟨(BB.out.below hb).cell 0, (BB.out.below hb).cell 1, (BB.out.below hb).cell 2, (BB.out.below hb).cell 3⟩
  clear hw1 hq
  refine wp_region_held_drew (S := fun w' => w'.cell? ⟨q, 0, none⟩ = some (.int .i64 p) ∧ w'.cell? ⟨q, 1, none⟩ = some (.int .u64 (g : Int)) ∧ w'.cell? ⟨q, 2, none⟩ = some (.int .i64 ct) ∧ w'.cell? ⟨q, 3, none⟩ = some (.int .i64 sz)) (by kernel_rfl) (by first | exact HSF.out _ hd | exact HSF.out _ hb2 | exact HSF.out _ hb3) (fun hHeld => ?_)
  refine wpAnyH_take (i := 0) (v := ?_) rfl (by kernel_rfl) (by kernel_rfl) (by kernel_rfl) (fun _ _ _ h => h) (Or.inl ⟨by first | kernel_rfl | rfl, ?_⟩) (by assumption) ?_
  rotate_left
  · (intro wq hSw; (try dsimp only at hSw); (try simp (maxSteps := 2000000) only [zz1, zz2, zz3]); go_simp); try with_reducible rfl
  try simp (maxSteps := 2000000) only [zz1, zz2, zz3, Act.put, zz4, zz5, zz6]
  refine wpAnyH_take (i := 1) (v := ?_) rfl (by kernel_rfl) (by kernel_rfl) (by kernel_rfl) (fun _ _ _ h => h) (Or.inl ⟨by first | kernel_rfl | rfl, ?_⟩) (by assumption) ?_
  rotate_left
  · (intro wq hSw; (try dsimp only at hSw); (try simp (maxSteps := 2000000) only [zz1, zz2, zz3]); go_simp); try with_reducible rfl
  try simp (maxSteps := 2000000) only [zz1, zz2, zz3, Act.put, zz4, zz5, zz6]
  refine wpAnyH_take (i := 2) (v := ?_) rfl (by kernel_rfl) (by kernel_rfl) (by kernel_rfl) (fun _ _ _ h => h) (Or.inl ⟨by first | kernel_rfl | rfl, ?_⟩) (by assumption) ?_
  rotate_left
  · (intro wq hSw; (try dsimp only at hSw); (try simp (maxSteps := 2000000) only [zz1, zz2, zz3]); go_simp); try with_reducible rfl
  try simp (maxSteps := 2000000) only [zz1, zz2, zz3, Act.put, zz4, zz5, zz6]
  refine wpAnyH_take (i := 3) (v := ?_) rfl (by kernel_rfl) (by kernel_rfl) (by kernel_rfl) (fun _ _ _ h => h) (Or.inl ⟨by first | kernel_rfl | rfl, ?_⟩) (by assumption) ?_
  rotate_left
  · (intro wq hSw; (try dsimp only at hSw); (try simp (maxSteps := 2000000) only [zz1, zz2, zz3]); go_simp); try with_reducible rfl
  try simp (maxSteps := 2000000) only [zz1, zz2, zz3, Act.put, zz4, zz5, zz6]
  refine wpAnyH_take (i := 5) (v := ?_) rfl (by kernel_rfl) (by kernel_rfl) (by kernel_rfl) (fun _ _ _ h => h) (Or.inl ⟨by first | kernel_rfl | rfl, ?_⟩) (by assumption) ?_
  rotate_left
  · (intro wq hSw; (try dsimp only at hSw); (try simp (maxSteps := 2000000) only [zz1, zz2, zz3]); go_simp); try with_reducible rfl
  try simp (maxSteps := 2000000) only [zz1, zz2, zz3, Act.put, zz4, zz5, zz6]
  refine wpAnyH_take (i := 6) (v := ?_) rfl (by kernel_rfl) (by kernel_rfl) (by kernel_rfl) (fun _ _ _ h => h) (Or.inl ⟨by first | kernel_rfl | rfl, ?_⟩) (by assumption) ?_
  rotate_left
  · (intro wq hSw; (try dsimp only at hSw); (try simp (maxSteps := 2000000) only [zz1, zz2, zz3]); go_simp); try with_reducible rfl
  try simp (maxSteps := 2000000) only [zz1, zz2, zz3, Act.put, zz4, zz5, zz6]
  refine wpAnyH_ready (rs := [4]) (by kernel_rfl) (by simp) ?_
  refine AllReadyH.cons rfl (fun K hK => ?_) AllReadyH.nil
  try simp (maxSteps := 2000000) only [zz1, zz2, zz3]
  go_simp
  go_at_call 121
  have hpu := nput_any (c := c) (k := 2) (v := P) (HR.out.below ByR.stable hd) (by omega) (by omega) (by omega) hpl.out
  refine hpu.mono ?_
  clear hpu
  rintro e w2 ⟨A2, c2, rfl, hr2, hb⟩
  have hb2 : Below w1.heap.size w1 w2 := hd.trans (hb.mono hd.size)
  have HR2 := Lib.hid (OwnL.rdT hr2).1
  clear hb hr2
  try (go_wp2_with fail)
  refine hK.out _ _ (by first | exact HSF.out _ hd | exact HSF.out _ hb2 | exact HSF.out _ hb3) (fun hHeld => ?_)
  clear hK K
  try simp (maxSteps := 2000000) only [zz1, zz2, zz3, Act.put, zz4, zz5, zz6]
  refine wpAnyH_ready (rs := [7]) (by kernel_rfl) (by simp) ?_
  refine AllReadyH.cons rfl (fun K hK => ?_) AllReadyH.nil
  try simp (maxSteps := 2000000) only [zz1, zz2, zz3]
  go_simp
  go_at_call 121
  have hpu := nput_any (c := c2) (k := 8) (v := g) HR2.out (by omega) (by omega) (by omega) (by have := hg.out; omega)
  refine hpu.mono ?_
  clear hpu
  rintro e w3 ⟨A3, c3, rfl, hr3, hb⟩
  have hb3 : Below w1.heap.size w1 w3 := hb2.trans (hb.mono hb2.size)
  have HR3 := Lib.hid (OwnL.rdT hr3).1
  clear hb hr3
  try (go_wp2_with fail)
  refine hK.out _ _ (by first | exact HSF.out _ hd | exact HSF.out _ hb2 | exact HSF.out _ hb3) (fun hHeld => ?_)
  clear hK K
  try simp (maxSteps := 2000000) only [zz1, zz2, zz3, Act.put, zz4, zz5, zz6]
  refine wpAnyH_take (i := 8) (v := ?_) rfl (by kernel_rfl) (by kernel_rfl) (by kernel_rfl) (fun _ _ _ h => h) (Or.inl ⟨by first | kernel_rfl | rfl, ?_⟩) (by assumption) ?_
  rotate_left
  · (intro wq hSw; (try dsimp only at hSw); (try simp (maxSteps := 2000000) only [zz1, zz2, zz3]); go_simp); try with_reducible rfl
  try simp (maxSteps := 2000000) only [zz1, zz2, zz3, Act.put, zz4, zz5, zz6]
  refine wpAnyH_done (by kernel_rfl) ?_ _
  clear hHeld
  have hd3 : Below w1.heap.size w1 w3.drew := hb3.drew
  have HR3d := Lib.hid (HR3.out.below ByR.stable (w' := w3.drew) (Below.refl _ _).drew)
  go_wp2_with fail
  refine wp_region_held_drew (S := fun w' => w'.cell? ⟨q, 0, none⟩ = some (.int .i64 p) ∧ w'.cell? ⟨q, 1, none⟩ = some (.int .u64 (g : Int)) ∧ w'.cell? ⟨q, 2, none⟩ = some (.int .i64 ct) ∧ w'.cell? ⟨q, 3, none⟩ = some (.int .i64 sz)) (by kernel_rfl) (by first | exact HSF.out _ hd3 | exact HSF.out _ hb4 | exact HSF.out _ hb5) (fun hHeld => ?_)
  refine wpAnyH_take (i := 0) (v := ?_) rfl (by kernel_rfl) (by kernel_rfl) (by kernel_rfl) (fun _ _ _ h => h) (Or.inl ⟨by first | kernel_rfl | rfl, ?_⟩) (by assumption) ?_
  rotate_left
  · (intro wq hSw; (try dsimp only at hSw); (try simp (maxSteps := 2000000) only [zz1, zz2, zz3]); go_simp); try with_reducible rfl
  try simp (maxSteps := 2000000) only [zz1, zz2, zz3, Act.put, zz4, zz5, zz6]
  refine wpAnyH_take (i := 1) (v := ?_) rfl (by kernel_rfl) (by kernel_rfl) (by kernel_rfl) (fun _ _ _ h => h) (Or.inl ⟨by first | kernel_rfl | rfl, ?_⟩) (by assumption) ?_
  rotate_left
  · (intro wq hSw; (try dsimp only at hSw); (try simp (maxSteps := 2000000) only [zz1, zz2, zz3]); go_simp); try with_reducible rfl
  try simp (maxSteps := 2000000) only [zz1, zz2, zz3, Act.put, zz4, zz5, zz6]
  refine wpAnyH_take (i := 2) (v := ?_) rfl (by kernel_rfl) (by kernel_rfl) (by kernel_rfl) (fun _ _ _ h => h) (Or.inl ⟨by first | kernel_rfl | rfl, ?_⟩) (by assumption) ?_
  rotate_left
  · (intro wq hSw; (try dsimp only at hSw); (try simp (maxSteps := 2000000) only [zz1, zz2, zz3]); go_simp); try with_reducible rfl
  try simp (maxSteps := 2000000) only [zz1, zz2, zz3, Act.put, zz4, zz5, zz6]
  refine wpAnyH_take (i := 3) (v := ?_) rfl (by kernel_rfl) (by kernel_rfl) (by kernel_rfl) (fun _ _ _ h => h) (Or.inl ⟨by first | kernel_rfl | rfl, ?_⟩) (by assumption) ?_
  rotate_left
  · (intro wq hSw; (try dsimp only at hSw); (try simp (maxSteps := 2000000) only [zz1, zz2, zz3]); go_simp); try with_reducible rfl
  try simp (maxSteps := 2000000) only [zz1, zz2, zz3, Act.put, zz4, zz5, zz6]
  refine wpAnyH_take (i := 5) (v := ?_) rfl (by kernel_rfl) (by kernel_rfl) (by kernel_rfl) (fun _ _ _ h => h) (Or.inl ⟨by first | kernel_rfl | rfl, ?_⟩) (by assumption) ?_
  rotate_left
  · (intro wq hSw; (try dsimp only at hSw); (try simp (maxSteps := 2000000) only [zz1, zz2, zz3]); go_simp); try with_reducible rfl
  try simp (maxSteps := 2000000) only [zz1, zz2, zz3, Act.put, zz4, zz5, zz6]
  refine wpAnyH_take (i := 6) (v := ?_) rfl (by kernel_rfl) (by kernel_rfl) (by kernel_rfl) (fun _ _ _ h => h) (Or.inl ⟨by first | kernel_rfl | rfl, ?_⟩) (by assumption) ?_
  rotate_left
  · (intro wq hSw; (try dsimp only at hSw); (try simp (maxSteps := 2000000) only [zz1, zz2, zz3]); go_simp); try with_reducible rfl
  try simp (maxSteps := 2000000) only [zz1, zz2, zz3, Act.put, zz4, zz5, zz6]
  refine wpAnyH_take (i := 7) (v := ?_) rfl (by kernel_rfl) (by kernel_rfl) (by kernel_rfl) (fun _ _ _ h => h) (Or.inl ⟨by first | kernel_rfl | rfl, ?_⟩) (by assumption) ?_
  rotate_left
  · (intro wq hSw; (try dsimp only at hSw); (try simp (maxSteps := 2000000) only [zz1, zz2, zz3]); go_simp); try with_reducible rfl
  try simp (maxSteps := 2000000) only [zz1, zz2, zz3, Act.put, zz4, zz5, zz6]
  refine wpAnyH_ready (rs := [4]) (by kernel_rfl) (by simp) ?_
  refine AllReadyH.cons rfl (fun K hK => ?_) AllReadyH.nil
  try simp (maxSteps := 2000000) only [zz1, zz2, zz3]
  go_simp
  go_at_call 121
  have hpu := nput_any (c := c3) (k := 2) (v := C) HR3d.out (by omega) (by omega) (by omega) hcl.out
  refine hpu.mono ?_
  clear hpu
  rintro e w4 ⟨A4, c4, rfl, hr4, hb⟩
  have hb4 : Below w1.heap.size w1 w4 := hd3.trans (hb.mono hd3.size)
  have HR4 := Lib.hid (OwnL.rdT hr4).1
  clear hb hr4
  try (go_wp2_with fail)
  refine hK.out _ _ (by first | exact HSF.out _ hd3 | exact HSF.out _ hb4 | exact HSF.out _ hb5) (fun hHeld => ?_)
  clear hK K
  try simp (maxSteps := 2000000) only [zz1, zz2, zz3, Act.put, zz4, zz5, zz6]
  refine wpAnyH_ready (rs := [8]) (by kernel_rfl) (by simp) ?_
  refine AllReadyH.cons rfl (fun K hK => ?_) AllReadyH.nil
  try simp (maxSteps := 2000000) only [zz1, zz2, zz3]
  go_simp
  go_at_call 121
  have hpu := nput_any (c := c4) (k := 4) (v := Z) HR4.out (by omega) (by omega) (by omega) hsl.out
  refine hpu.mono ?_
  clear hpu
  rintro e w5 ⟨A5, c5, rfl, hr5, hb⟩
  have hb5 : Below w1.heap.size w1 w5 := hb4.trans (hb.mono hb4.size)
  have HS5 := Lib.hid hb4.size
  have HR5 := Lib.hid (OwnL.rdT hr5)
  clear hb hr5
  try (go_wp2_with fail)
  refine hK.out _ _ (by first | exact HSF.out _ hd3 | exact HSF.out _ hb4 | exact HSF.out _ hb5) (fun hHeld => ?_)
  clear hK K
  try simp (maxSteps := 2000000) only [zz1, zz2, zz3, Act.put, zz4, zz5, zz6]
  refine wpAnyH_take (i := 9) (v := ?_) rfl (by kernel_rfl) (by kernel_rfl) (by kernel_rfl) (fun _ _ _ h => h) (Or.inl ⟨by first | kernel_rfl | rfl, ?_⟩) (by assumption) ?_
  rotate_left
  · (intro wq hSw; (try dsimp only at hSw); (try simp (maxSteps := 2000000) only [zz1, zz2, zz3]); go_simp); try with_reducible rfl
  try simp (maxSteps := 2000000) only [zz1, zz2, zz3, Act.put, zz4, zz5, zz6]
  refine wpAnyH_done (by kernel_rfl) ?_ _
  clear hHeld
  have HB5 := Lib.hid (HB0.out.trans (hb5.mono HB0.out.size))
  go_wp2_with fail
  go_ret
  have h := HR5.out
  rw [show n + 2 + 8 + 2 + 4 = n + 16 by omega, show xs ++ leN 2 P ++ leN 8 g ++ leN 2 C ++ leN 4 Z = xs ++ (leN 2 P ++ leN 8 g ++ leN 2 C ++ leN 4 Z) by simp only [List.append_assoc]] at h
  rw [show n + 2 + 8 + 2 + 4 = n + 16 by omega]
  exact ⟨A5, c5, rfl, h.2, h.1.weaken ByR.stable (fun j hj => Nat.le_trans (Nat.le_trans HB0.out.size HS5.out) hj), HB5.out⟩
end
end
section
def RefR (_ : Nat → Prop) (_ : World) (cs : List Value) (x : Int × Int) : Prop := cs = [.int .u8 3, .int .i64 x.1, .int .u64 x.2]
theorem RefR.stable : Stable RefR := fun _ _ _ _ _ _ h _ => h
theorem RefR.one : ∀ S w cs x, RefR S w cs x → ∀ u ∈ cs, u.oneCell' = true := by
  rintro S w cs x rfl u hu
  simp only [List.mem_cons, List.not_mem_nil, or_false] at hu
  rcases hu with rfl | rfl | rfl <;> rfl
end
section
def RfR (_ : Nat → Prop) (_ : World) (cs : List Value) (x : Nat × Nat × Nat) : Prop := cs = [.int .u8 (x.1 : Int), .int .i64 (x.2.1 : Int), .int .u64 (x.2.2 : Int)]
theorem RfR.stable : Stable RfR := fun _ _ _ _ _ _ h _ => h
structure RfRow (w : World) (g : Nat) (L : List (Nat × Nat × Nat)) : Prop where
  ex : ∃ cur, BoxAt w g cur ∧ ∀ j x, L[j]? = some x → cur[j * 3]? = some (.int .u8 (x.1 : Int)) ∧ cur[j * 3 + 1]? = some (.int .i64 (x.2.1 : Int)) ∧ cur[j * 3 + 2]? = some (.int .u64 (x.2.2 : Int))
section
variable {w w' : World} {g : Nat} {L : List (Nat × Nat × Nat)}
theorem RfRow.below (h : RfRow w g L) (hb : Below w.heap.size w w') : RfRow w' g L := by
  obtain ⟨cur, h1, h2⟩ := h.ex
  exact ⟨cur, h1.below hb, h2⟩
theorem RfRow.lt (h : RfRow w g L) : g < w.heap.size := by
  obtain ⟨cur, h1, h2⟩ := h.ex
  exact h1.lt
theorem RfRow.cells (h : RfRow w g L) {j : Nat} {x : Nat × Nat × Nat} (hx : L[j]? = some x) : w.cell? ⟨g, j * 3, none⟩ = some (.int .u8 (x.1 : Int)) ∧ w.cell? ⟨g, j * 3 + 1, none⟩ = some (.int .i64 (x.2.1 : Int)) ∧ w.cell? ⟨g, j * 3 + 2, none⟩ = some (.int .u64 (x.2.2 : Int)) := by
  obtain ⟨cur, h1, h2⟩ := h.ex
  obtain ⟨a, b, c⟩ := h2 j x hx
  exact ⟨(h1.cell _).trans a, (h1.cell _).trans b, (h1.cell _).trans c⟩
theorem RfRow.frozen (h : RfRow w g L) (o : Nat) : w.frozen? ⟨g, o, none⟩ = false := by
  obtain ⟨cur, h1, h2⟩ := h.ex
  exact h1.frozen o
theorem RfRow.set (h : RfRow w g L) {i : Nat} (hi : i < L.length) (a b c : Nat) : RfRow (((w.setCell ⟨g, i * 3, none⟩ (.int .u8 (a : Int))).setCell ⟨g, i * 3 + 1, none⟩ (.int .i64 (b : Int))).setCell ⟨g, i * 3 + 2, none⟩ (.int .u64 (c : Int))) g (L.set i (a, b, c)) := by
  obtain ⟨cur, h1, h2⟩ := h.ex
  refine ⟨_, ((h1.set (i * 3) _).set (i * 3 + 1) _).set (i * 3 + 2) _, fun j x hx => ?_⟩
  have hy : L[i]? = some L[i] := List.getElem?_eq_getElem hi
  obtain ⟨s0, s1, s2⟩ := h2 i _ hy
  have l2 : i * 3 + 2 < cur.size := (Array.getElem?_eq_some_iff.1 s2).1
  rw [List.getElem?_set] at hx
  by_cases e : i = j
  · subst e
    rw [if_pos rfl, if_pos hi] at hx
    obtain rfl := Option.some.inj hx
    refine ⟨?_, ?_, ?_⟩
    · rw [Array.getElem?_setIfInBounds, if_neg (by omega), Array.getElem?_setIfInBounds, if_neg (by omega), Array.getElem?_setIfInBounds, if_pos rfl, if_pos (by omega)]
    · rw [Array.getElem?_setIfInBounds, if_neg (by omega), Array.getElem?_setIfInBounds, if_pos rfl, if_pos (by rw [Array.size_setIfInBounds]; omega)]
    · rw [Array.getElem?_setIfInBounds, if_pos rfl, if_pos (by rw [Array.size_setIfInBounds, Array.size_setIfInBounds]; omega)]
  · rw [if_neg e] at hx
    obtain ⟨t0, t1, t2⟩ := h2 j x hx
    refine ⟨?_, ?_, ?_⟩
    · rw [Array.getElem?_setIfInBounds, if_neg (by omega), Array.getElem?_setIfInBounds, if_neg (by omega), Array.getElem?_setIfInBounds, if_neg (by omega)]; exact t0
    · rw [Array.getElem?_setIfInBounds, if_neg (by omega), Array.getElem?_setIfInBounds, if_neg (by omega), Array.getElem?_setIfInBounds, if_neg (by omega)]; exact t1
    · rw [Array.getElem?_setIfInBounds, if_neg (by omega), Array.getElem?_setIfInBounds, if_neg (by omega), Array.getElem?_setIfInBounds, if_neg (by omega)]; exact t2
theorem RfRow.rd (h : RfRow w g L) {S : Nat → Prop} (hS : S g) : RdL RfR 3 S w (some ⟨g, 0, none⟩) L.length L := ⟨rfl, fun _ => ⟨g, 0, rfl, hS, h.lt, fun i x hx => by
  obtain ⟨c0, c1, c2⟩ := h.cells hx
  refine ⟨[.int .u8 (x.1 : Int), .int .i64 (x.2.1 : Int), .int .u64 (x.2.2 : Int)], rfl, rfl, fun j v hj => ?_⟩
  rw [Nat.zero_add]
  match j, hj with
  | 0, hj => simp at hj; subst hj; exact c0
  | 1, hj => simp at hj; subst hj; exact c1
  | 2, hj => simp at hj; subst hj; exact c2
  | j + 3, hj => simp at hj⟩⟩
theorem madeRefs_at {k j : Nat} (hj : j < k) : (madeCells #[.int .u8 0, .int .i64 0, .int .u64 0] (k * 3))[j * 3]? = some (.int .u8 0) ∧ (madeCells #[.int .u8 0, .int .i64 0, .int .u64 0] (k * 3))[j * 3 + 1]? = some (.int .i64 0) ∧ (madeCells #[.int .u8 0, .int .i64 0, .int .u64 0] (k * 3))[j * 3 + 2]? = some (.int .u64 0) := by
  have h0 : j * 3 % 3 = 0 := by omega
  have h1 : (j * 3 + 1) % 3 = 1 := by omega
  have h2 : (j * 3 + 2) % 3 = 2 := by omega
  unfold madeCells
  refine ⟨?_, ?_, ?_⟩
  · rw [Array.getElem?_map, Array.getElem?_range, if_pos (by omega)]
    simp [h0]
  · rw [Array.getElem?_map, Array.getElem?_range, if_pos (by omega)]
    simp [h1]
  · rw [Array.getElem?_map, Array.getElem?_range, if_pos (by omega)]
    simp [h2]
theorem RfRow.made (w : World) (k : Nat) (t : TypeId) : RfRow (w.alloc (.cells (madeCells #[.int .u8 0, .int .i64 0, .int .u64 0] (k * 3)) t)) w.heap.size (List.replicate k (0, 0, 0)) :=
  ⟨_, BoxAt.new w _ t, fun j x hx => by
    rw [List.getElem?_replicate] at hx
    split at hx
    · rename_i hj
      obtain rfl := Option.some.inj hx
      exact madeRefs_at hj
    · cases hx⟩
end
end
section
section
variable {P X S : Nat → Prop} {w0 w w' : World} {a p o l go gl ep ct fs np n cb bf k m t : Nat} {wo wl : List Nat} {sts : List DSt}
/-- The pool, of which the first t places are taken. -/
def PoolT (w : World) (p o l go gl ct fs np t : Nat) : Prop := ∃ wo wl, PoolAt w p o l go gl 0 ct fs np wo wl ∧ freeL wo np = (List.range np).drop t
theorem PoolT.below (h : PoolT w p o l go gl ct fs np t) (hb : Below w.heap.size w w') : PoolT w' p o l go gl ct fs np t := by
  obtain ⟨wo, wl, h1, h2⟩ := h
  exact ⟨wo, wl, h1.below hb, h2⟩
theorem PoolT.keep {F : Nat → Prop} (h : PoolT w p o l go gl ct fs np t) (hK : Keep F w w') (hF : ∀ j, PoolB p o l go gl j → ¬ F j) : PoolT w' p o l go gl ct fs np t := by
  obtain ⟨wo, wl, h1, h2⟩ := h
  exact ⟨wo, wl, h1.keep hK hF, h2⟩
theorem PoolT.kp {X : Nat → Prop} (h : PoolT w p o l go gl ct fs np t) (hK : KpX X w w') (hX : ∀ j, PoolB p o l go gl j → X j) : PoolT w' p o l go gl ct fs np t := by
  obtain ⟨wo, wl, h1, h2⟩ := h
  exact ⟨wo, wl, h1.kp hK.1 hX, h2⟩
theorem PoolT.free (h : PoolT w p o l go gl ct fs np t) : Calls Tryz.prog 42 #[.pointer (some ⟨p, 0, none⟩)] w fun e w' => e = .returned (.int .i64 (np - t : Nat)) ∧ Below w.heap.size w w' := by
  obtain ⟨wo, wl, h1, h2⟩ := h
  have h3 := pfree_any h1
  rw [(free_cnt h2).1] at h3
  exact h3
theorem PoolT.new {w : World} {p o l go gl f c M : Nat} (h : PoolAt w p o l go gl 0 0 f c (List.replicate M 0) (List.replicate M 0)) : PoolT w p o l go gl 0 f c 0 := ⟨_, _, h, free_new M c⟩
end
end
section
section
variable {w w' : World} {p o l go gl ct fs np t : Nat}
end
section
variable {g : Nat → Bool} {n k N M : Nat} {rf : Nat → Ref} {tx : Nat → List Nat} {sts : List DSt}
end
/-! ### A long text's stripes -/
end
section
/-- An exit that is no panic. -/
def NoP (Q : Exit → Act → World → Prop) : Exit → Act → World → Prop
  | .panic _, _, _ => False
  | e, a, w => Q e a w
theorem NoP.le {Q : Exit → Act → World → Prop} : ∀ e a w, NoP Q e a w → Q e a w
  | .panic _, _, _, h => h.elim
  | .normal, _, _, h => h
  | .ret, _, _, h => h
  | .outgrown, _, _, h => h
  | .exit _, _, _, h => h
  | .goto _, _, _, h => h
theorem NoP.normal {Q : Exit → Act → World → Prop} {a : Act} {w : World} (h : Q .normal a w) : NoP Q .normal a w := h
section
variable {P X S : Nat → Prop} {w0 w w' : World} {a p o l go gl ct fs np n cb bf k m t : Nat} {sts : List DSt}
end
end
section
section
variable {P X S : Nat → Prop} {w0 w w' : World} {a p o l go gl ct fs np n cb bf k m t : Nat} {sts : List DSt}
end
end
section
section
variable {P X S : Nat → Prop} {w0 w w' : World} {a p o l go gl ct fs np n cb bf k m t : Nat} {sts : List DSt}
end
end
section
section
variable {w : World}
end
section
variable {P X S : Nat → Prop} {w0 w w' : World} {a p o l go gl ct fs np n cb bf k m t : Nat} {sts : List DSt}
end
end
section
section
variable {P X S : Nat → Prop} {w0 w w' : World} {a p o l go gl ct fs np n cb bf k m t : Nat} {sts : List DSt}
end
end
section
def readN (z : Nat) (st : DSt) : List Nat := if st.dead = true then [] else secN st z
/-- A row of bytes of the call's own, each cell still to be set. -/
def RowN (B : Nat) (w : World) (ob k : Nat) (xs : List (List Nat)) : Prop := ∃ vs : List Value, BoxAt w ob vs.toArray ∧ vs.length = k ∧ xs.length = k ∧ ∀ (j : Nat) (v : Value) (x : List Nat), vs[j]? = some v → xs[j]? = some x → ∃ A m c, v = .slice A m c ∧ m ≤ c ∧ RdL ByR 1 (fun b => B ≤ b ∧ b ≠ ob) w A m x
theorem RowN.new (B : Nat) (w : World) (k : Nat) (T : TypeId) : RowN B (w.alloc (.cells (List.replicate k (Value.slice none 0 0)).toArray T)) w.heap.size k (List.replicate k []) := by
  refine ⟨List.replicate k (.slice none 0 0), BoxAt.new _ _ _, by simp, by simp, fun j v x hv hx => ?_⟩
  have h1 := List.eq_of_mem_replicate (List.mem_of_getElem? hv)
  have h2 := List.eq_of_mem_replicate (List.mem_of_getElem? hx)
  subst h1; subst h2
  exact ⟨none, 0, 0, rfl, Nat.le_refl _, RdL.nil⟩
theorem RowN.below {B : Nat} {w w' : World} {ob k : Nat} {xs : List (List Nat)} (h : RowN B w ob k xs) (hb : Below w.heap.size w w') : RowN B w' ob k xs := by
  obtain ⟨vs, h1, h2, h3, h4⟩ := h
  exact ⟨vs, h1.below hb, h2, h3, fun j v x hv hx => by
    obtain ⟨A, m, c, e, hmc, hr⟩ := h4 j v x hv hx
    exact ⟨A, m, c, e, hmc, hr.below ByR.stable hb⟩⟩
theorem RowN.set {B : Nat} {w : World} {ob k : Nat} {xs : List (List Nat)} (h : RowN B w ob k xs) (j : Nat) {A : Option Addr} {m c : Nat} {x : List Nat} (hmc : m ≤ c) (hr : RdL ByR 1 (fun b => B ≤ b ∧ b ≠ ob) w A m x) : RowN B (w.setCell ⟨ob, j, none⟩ (.slice A m c)) ob k (xs.set j x) := by
  obtain ⟨vs, h1, h2, h3, h4⟩ := h
  refine ⟨vs.set j (.slice A m c), ?_, by simp [h2], by simp [h3], fun i v y hv hy => ?_⟩
  · have := h1.set j (.slice A m c)
    simpa using this
  · by_cases hij : j = i
    · subst hij
      have hjl : j < vs.length := by simpa using (List.getElem?_eq_some_iff.1 hv).1
      rw [List.getElem?_set_self hjl] at hv
      rw [List.getElem?_set_self (by omega)] at hy
      injection hv with hv
      injection hy with hy
      subst hv; subst hy
      exact ⟨A, m, c, rfl, hmc, hr.setCell ByR.stable (p := ⟨ob, j, none⟩) (fun h => h.2 rfl) _⟩
    · rw [List.getElem?_set_ne hij] at hv hy
      obtain ⟨A', m', c', e, hmc', hr'⟩ := h4 i v y hv hy
      exact ⟨A', m', c', e, hmc', hr'.setCell ByR.stable (p := ⟨ob, j, none⟩) (fun h => h.2 rfl) _⟩
theorem RowN.rd {B : Nat} {w : World} {ob k : Nat} {xs : List (List Nat)} (h : RowN B w ob k xs) (hB : B ≤ ob) : RdL RowR 1 (B ≤ ·) w (some ⟨ob, 0, none⟩) k xs := by
  obtain ⟨vs, h1, h2, h3, h4⟩ := h
  refine ⟨h3, fun _ => ⟨ob, 0, rfl, hB, h1.lt, fun i x hx => ?_⟩⟩
  have hi : i < vs.length := by rw [h2, ← h3]; exact (List.getElem?_eq_some_iff.1 hx).1
  obtain ⟨A, m, c, e, hmc, hr⟩ := h4 i _ x (List.getElem?_eq_getElem hi) hx
  refine ⟨[vs[i]], rfl, ⟨A, m, c, by rw [e], hmc, hr.weaken ByR.stable (fun b hb => hb.1)⟩, fun j v hj => ?_⟩
  match j, hj with
  | 0, hj =>
    simp only [List.getElem?_cons_zero, Option.some.injEq] at hj
    subst hj
    rw [h1.cell]
    simp [hi]
def rowNTo (z : Nat) (i : Nat) (sts : List DSt) : List (List Nat) := sts.mapIdx (fun j st => if j < i then readN z st else [])
theorem rowNTo_get (z : Nat) (i : Nat) (sts : List DSt) (j : Nat) : (rowNTo z i sts)[j]? = (sts[j]?).map (fun st => if j < i then readN z st else []) := by simp [rowNTo]
theorem rowNTo_len (z : Nat) (i : Nat) (sts : List DSt) : (rowNTo z i sts).length = sts.length := by simp [rowNTo]
theorem rowNTo_zero (z : Nat) (sts : List DSt) : rowNTo z 0 sts = List.replicate sts.length [] := by
  apply List.ext_getElem?
  intro j
  rw [rowNTo_get, List.getElem?_replicate]
  by_cases h : j < sts.length
  · rw [List.getElem?_eq_getElem h]; simp [h]
  · rw [List.getElem?_eq_none (by omega)]; simp [h]
theorem rowNTo_succ (z : Nat) (i : Nat) (sts : List DSt) {st : DSt} (h : sts[i]? = some st) : (rowNTo z i sts).set i (readN z st) = rowNTo z (i + 1) sts := by
  apply List.ext_getElem?
  intro j
  rw [rowNTo_get]
  by_cases hj : i = j
  · subst hj
    rw [List.getElem?_set_self (by rw [rowNTo_len]; exact (List.getElem?_eq_some_iff.1 h).1), h]; simp
  · rw [List.getElem?_set_ne hj, rowNTo_get]
    cases sts[j]? with
    | none => rfl
    | some y =>
      simp only [Option.map_some, Option.some.injEq]
      by_cases h1 : j < i
      · rw [if_pos h1, if_pos (by omega)]
      · rw [if_neg h1, if_neg (by omega)]
theorem rowNTo_all (z : Nat) (sts : List DSt) : rowNTo z sts.length sts = sts.map (fun st => readN z st) := by
  apply List.ext_getElem?
  intro j
  rw [rowNTo_get, List.getElem?_map]
  cases h : sts[j]? with
  | none => rfl
  | some y =>
    have := (List.getElem?_eq_some_iff.1 h).1
    simp [this]
section
variable {U : Nat → Prop} {w : World} {a s : Nat} {v : Value} {Fs : Nat → Nat → Prop} {ps : List Nat} {sts : List DSt}
def RowNE (w : World) (z : Nat) (sts : List DSt) (e : Ending) (w' : World) : Prop := ∃ ob, e = .returned (.slice (some ⟨ob, 0, none⟩) sts.length sts.length) ∧ RdL RowR 1 (w.heap.size ≤ ·) w' (some ⟨ob, 0, none⟩) sts.length (sts.map (fun st => readN z st)) ∧ Below w.heap.size w w'
set_option maxRecDepth 100000 in
set_option maxHeartbeats 4000000 in
theorem arown_any (h : Hid (ArrB U w a v Fs ps s sts)) (hk : 0 < sts.length) (hk2 : sts.length ≤ 600) {z : Nat} (hz : z < s) (hR : Hid (RdOk sts z)) :
    Calls Tryz.prog 148 #[.pointer (some ⟨a, 0, none⟩), .int .i64 (z : Int)] w fun e w' => RowNE w z sts e w' := by
  go_enter Tryz.func148, Tryz.ntmps148
  go_wp2_with fail
  refine (an_any h hk).mono ?_
  rintro e w1 ⟨rfl, t1⟩
  have hmk := makeRowsA sts.length hk2 w1
  have b1 := RowN.new w.heap.size w1 sts.length 80
  have a1 : Below w1.heap.size w1 (w1.alloc (.cells (List.replicate sts.length (Value.slice none 0 0)).toArray 80)) := (Below.refl _ _).alloc (Nat.le_refl _) _
  obtain ⟨w2, hw2⟩ : ∃ w2, w1.alloc (.cells (List.replicate sts.length (Value.slice none 0 0)).toArray 80) = w2 := ⟨_, rfl⟩
  obtain ⟨ob, hob⟩ : ∃ ob, w1.heap.size = ob := ⟨_, rfl⟩
  rw [hw2] at hmk b1 a1
  have a12 := below_then a1 t1
  have hob1 : w.heap.size ≤ ob := by rw [← hob]; exact t1.size
  rw [hob] at hmk b1
  have HB : Hid (RowN w.heap.size w2 ob sts.length (rowNTo z 0 sts)) := Lib.hid (by rw [rowNTo_zero]; exact b1)
  have HK := Lib.hid a12
  clear b1 a1 a12 t1 hw2 hob
  go_wp2_with fail
  clear hmk
  go_loopw [12] (fun vi wr => ∃ i : Nat, i ≤ sts.length ∧ vi = .int .i64 i ∧ Hid (RowN w.heap.size wr ob sts.length (rowNTo z i sts)) ∧ Hid (Below w.heap.size w wr)) (fun vi _ => sts.length - (intOf vi).toNat)
  case atStart => exact ⟨0, Nat.zero_le _, rfl, HB, HK⟩
  case round =>
    clear HB HK
    obtain ⟨wo, rfl⟩ : ∃ wo, wo = wr := ⟨_, rfl⟩
    obtain ⟨i, hi, rfl, B, K⟩ := hrel
    by_cases hlt : i < sts.length
    · obtain ⟨st, hst⟩ : ∃ st, sts[i]? = some st := ⟨_, List.getElem?_eq_getElem hlt⟩
      have h1 : (i : Int) < (sts.length : Int) := by omega
      have h2 : (0 : Int) ≤ (i : Int) := Int.natCast_nonneg _
      have h3 : (i : Int) < 600 := by omega
      have HST := Lib.hid hst
      clear hst
      have hrd : Calls Tryz.prog 202 #[.pointer (some ⟨a, 0, none⟩), .int .i64 (i : Int), .int .i64 (z : Int)] wo fun e w' => ∃ A m c E, e = .returned (.tuple #[.slice A m c, .int .i64 E]) ∧ m ≤ c ∧ RdL ByR 1 (wo.heap.size ≤ ·) w' A m (readN z st) ∧ Below wo.heap.size wo w' :=
        (aread2 (Lib.hid (h.out.below K.out)) i HST.out z hz (hR.out.b st (List.mem_of_getElem? HST.out))).mono fun e w' h2 => by
          rcases h2 with ⟨hb, ⟨hd, rfl⟩ | ⟨hd, A, rfl, hr⟩⟩
          · exact ⟨none, 0, 0, 90, rfl, Nat.le_refl _, by unfold readN; rw [if_pos hd]; exact RdL.nil, hb⟩
          · exact ⟨A, 64, 64, 0, rfl, Nat.le_refl _, by unfold readN; rw [if_neg (by rw [hd]; simp)]; exact hr, hb⟩
      go_wp2_with fail
      refine hrd.mono ?_
      clear hrd
      rintro e w3 ⟨A, m, c, E, rfl, hmc, r3, t3⟩
      have hol : ob < wo.heap.size := by obtain ⟨vs, hbx, _⟩ := B.out; exact hbx.lt
      have B2 := B.out.below t3
      have r3' : RdL ByR 1 (fun b => w.heap.size ≤ b ∧ b ≠ ob) w3 A m (readN z st) := r3.weaken ByR.stable (fun b hb => ⟨Nat.le_trans K.out.size hb, by omega⟩)
      have B3 := B2.set (c := c) i hmc r3'
      rw [rowNTo_succ _ _ _ HST.out] at B3
      obtain ⟨vs, hbx, hvl, _⟩ := B2
      have z2 := hbx.frozen i
      have q2 : ∃ q, w3.cell? ⟨ob, i, none⟩ = some q := by
        rw [hbx.cell]
        exact ⟨_, Array.getElem?_eq_getElem (by simp; omega)⟩
      obtain ⟨q, q2⟩ := q2
      have HB3 := Lib.hid B3
      have K3 := Lib.hid ((below_then t3 K.out).setCell (p := ⟨ob, i, none⟩) hob1 (.slice A m c))
      clear B3 r3 r3' t3 hbx hvl
      go_wp2_with fail
      exact ⟨⟨i + 1, by omega, by go_num, HB3, K3⟩, by simp [intOf]; omega⟩
    · obtain rfl : i = sts.length := by omega
      have h1 : ¬ (sts.length : Int) < (sts.length : Int) := by omega
      go_wp2_with fail
      go_ret
      rw [rowNTo_all] at B
      exact ⟨ob, rfl, B.out.rd hob1, K.out⟩
end
end
section
theorem Later.refl0 (w : World) : ∃ y : Later w.heap.size w, y.to = w := ⟨⟨w, Below.refl _ _⟩, rfl⟩
def isS (slot : Int) : Bool := decide (0 ≤ slot ∧ slot < 2)
theorem is_any {w : World} (slot : Int) : Calls Tryz.prog 82 #[.int .i64 slot] w fun e w' => e = .returned (.bool (isS slot)) ∧ w' = w := by
  by_cases h0 : 0 ≤ slot
  · by_cases h2 : slot < 2
    · have e : isS slot = true := decide_eq_true ⟨h0, h2⟩
      have f0 : decide (slot ≥ 0) = true := decide_eq_true h0
      have f2 : decide (slot < 2) = true := decide_eq_true h2
      rw [e]
      clear e
      go_enter Tryz.func82, Tryz.ntmps82
      go_wp2_with fail
      go_ret
      exact ⟨rfl, rfl⟩
    · have e : isS slot = false := decide_eq_false (by omega)
      have f0 : decide (slot ≥ 0) = true := decide_eq_true h0
      have f2 : decide (slot < 2) = false := decide_eq_false h2
      rw [e]
      clear e
      go_enter Tryz.func82, Tryz.ntmps82
      go_wp2_with fail
      go_ret
      exact ⟨rfl, rfl⟩
  · have e : isS slot = false := decide_eq_false (by omega)
    have f0 : decide (slot ≥ 0) = false := decide_eq_false h0
    rw [e]
    clear e
    go_enter Tryz.func82, Tryz.ntmps82
    go_wp2_with fail
    go_ret
    exact ⟨rfl, rfl⟩
/-- A function that tells a number, whatever happened. -/
def Tells (B : Nat) (W : World) (f : FuncId) (v : Value) (N : Nat) : Prop := ∀ y : Later B W, Calls Tryz.prog f #[v] y.to fun e w' => e = .returned (.int .i64 (N : Int)) ∧ ∃ z : Later B W, w' = z.to
def rdyE (N1 N2 n : Nat) (slot : Int) : Int := if N1 = 0 ∨ N2 = 0 then 1 else if isS slot = false ∨ N1 ≠ N2 ∨ slot ≥ (n : Int) then 2 else 0
section
variable {B : Nat} {W : World} {va vc : Value} {N1 N2 n : Nat}
set_option maxRecDepth 100000 in
set_option maxHeartbeats 8000000 in
theorem hready_any (hN : Tells B W 86 va N1) (hC : Tells B W 107 vc N2) (hS : N1 ≠ 0 → Tells B W 78 va n) (slot : Int) (y : Later B W) :
    Calls Tryz.prog 69 #[va, vc, .int .i64 slot] y.to fun e w' => e = .returned (.int .i64 (rdyE N1 N2 n slot)) ∧ ∃ z : Later B W, w' = z.to := by
  have HN := Lib.hid hN
  have HC := Lib.hid hC
  have p1 : (0 : Int) ≤ (N1 : Int) := Int.natCast_nonneg _
  have p2 : (0 : Int) ≤ (N2 : Int) := Int.natCast_nonneg _
  by_cases h1 : N1 = 0
  · have e : rdyE N1 N2 n slot = 1 := if_pos (.inl h1)
    have HE := Lib.hid e
    have f1 : ((N1 : Int) == 0) = true := by rw [h1]; rfl
    clear hN hC hS e h1
    rw [HE.out]
    go_enter Tryz.func69, Tryz.ntmps69
    go_wp2_with (go_at_call 86; refine (HN.out _).mono ?_; rintro e w9 ⟨rfl, z, rfl⟩)
    go_ret
    exact ⟨rfl, _, rfl⟩
  have f1 : ((N1 : Int) == 0) = false := by simpa using h1
  by_cases h2 : N2 = 0
  · have e : rdyE N1 N2 n slot = 1 := if_pos (.inr h2)
    have HE := Lib.hid e
    have f2 : ((N2 : Int) == 0) = true := by rw [h2]; rfl
    clear hN hC hS e h1 h2
    rw [HE.out]
    go_enter Tryz.func69, Tryz.ntmps69
    go_wp2_with (first | (go_at_call 86; refine (HN.out _).mono ?_; rintro e w9 ⟨rfl, z, rfl⟩) | (go_at_call 107; refine (HC.out _).mono ?_; rintro e w9 ⟨rfl, z, rfl⟩))
    go_ret
    exact ⟨rfl, _, rfl⟩
  have f2 : ((N2 : Int) == 0) = false := by simpa using h2
  have HS := Lib.hid (hS h1)
  have his := fun w => is_any (w := w) slot
  cases hi : isS slot with
  | false =>
    have e : rdyE N1 N2 n slot = 2 := by unfold rdyE; rw [if_neg (by omega), if_pos (.inl hi)]
    have HE := Lib.hid e
    rw [hi] at his
    clear hN hC hS e h1 h2 hi
    rw [HE.out]
    go_enter Tryz.func69, Tryz.ntmps69
    go_wp2_with (first | (go_at_call 86; refine (HN.out _).mono ?_; rintro e w9 ⟨rfl, z, rfl⟩) | (go_at_call 107; refine (HC.out _).mono ?_; rintro e w9 ⟨rfl, z, rfl⟩) | (go_at_call 82; refine (his _).mono ?_; rintro e w9 ⟨rfl, hw9⟩; rw [hw9]; clear hw9))
    go_ret
    exact ⟨rfl, _, rfl⟩
  | true =>
    rw [hi] at his
    by_cases h3 : N1 = N2
    · subst h3
      have f3 : ((N1 : Int) != (N1 : Int)) = false := by simp
      by_cases h4 : slot ≥ (n : Int)
      · have e : rdyE N1 N1 n slot = 2 := by unfold rdyE; rw [if_neg (by omega), if_pos (.inr (.inr h4))]
        have HE := Lib.hid e
        have f4 : decide (slot ≥ (n : Int)) = true := decide_eq_true h4
        clear hN hC hS e h1 h2 hi
        rw [HE.out]
        go_enter Tryz.func69, Tryz.ntmps69
        go_wp2_with (first | (go_at_call 86; refine (HN.out _).mono ?_; rintro e w9 ⟨rfl, z, rfl⟩) | (go_at_call 107; refine (HC.out _).mono ?_; rintro e w9 ⟨rfl, z, rfl⟩) | (go_at_call 78; refine (HS.out _).mono ?_; rintro e w9 ⟨rfl, z, rfl⟩) | (go_at_call 82; refine (his _).mono ?_; rintro e w9 ⟨rfl, hw9⟩; rw [hw9]; clear hw9))
        go_ret
        exact ⟨rfl, _, rfl⟩
      · have e : rdyE N1 N1 n slot = 0 := by unfold rdyE; rw [if_neg (by omega), if_neg (by rw [hi]; simp; omega)]
        have HE := Lib.hid e
        have f4 : decide (slot ≥ (n : Int)) = false := decide_eq_false h4
        clear hN hC hS e h1 h2 hi
        rw [HE.out]
        go_enter Tryz.func69, Tryz.ntmps69
        go_wp2_with (first | (go_at_call 86; refine (HN.out _).mono ?_; rintro e w9 ⟨rfl, z, rfl⟩) | (go_at_call 107; refine (HC.out _).mono ?_; rintro e w9 ⟨rfl, z, rfl⟩) | (go_at_call 78; refine (HS.out _).mono ?_; rintro e w9 ⟨rfl, z, rfl⟩) | (go_at_call 82; refine (his _).mono ?_; rintro e w9 ⟨rfl, hw9⟩; rw [hw9]; clear hw9))
        go_ret
        exact ⟨rfl, _, rfl⟩
    · have f3 : ((N1 : Int) != (N2 : Int)) = true := by simp; omega
      have e : rdyE N1 N2 n slot = 2 := by unfold rdyE; rw [if_neg (by omega), if_pos (.inr (.inl h3))]
      have HE := Lib.hid e
      clear hN hC hS e h1 h2 hi h3
      rw [HE.out]
      go_enter Tryz.func69, Tryz.ntmps69
      go_wp2_with (first | (go_at_call 86; refine (HN.out _).mono ?_; rintro e w9 ⟨rfl, z, rfl⟩) | (go_at_call 107; refine (HC.out _).mono ?_; rintro e w9 ⟨rfl, z, rfl⟩) | (go_at_call 82; refine (his _).mono ?_; rintro e w9 ⟨rfl, hw9⟩; rw [hw9]; clear hw9))
      go_ret
      exact ⟨rfl, _, rfl⟩
end
theorem Tells.smid {X : Nat → Prop} {w0 w : World} {a cb bf k m n : Nat} {sts : List DSt} (h : SMidX X w0 w a cb bf k m n sts) : Tells w.heap.size w 86 (.pointer (some ⟨a, 0, none⟩)) (k + m) ∧ Tells w.heap.size w 107 (.pointer (some ⟨cb, 0, none⟩)) (k + m) ∧ Tells w.heap.size w 78 (.pointer (some ⟨a, 0, none⟩)) n := by
  refine ⟨fun y => ?_, fun y => ?_, fun y => ?_⟩
  · have h2 := h.below' y.ok
    have hp := h2.pos
    obtain ⟨h0, ⟨U, C, ⟨v, Fs, ps, hA⟩, hC, hU, hd, hx⟩, hl, h1, h3⟩ := h2
    have := an_any (Lib.hid hA) (by omega)
    rw [hl] at this
    exact this.mono fun e w' ⟨he, hb⟩ => ⟨he, ⟨⟨w', y.ok.trans (hb.mono y.ok.size)⟩, rfl⟩⟩
  · exact (cn_any (h.below' y.ok).cod).mono fun e w' ⟨he, hb⟩ => ⟨he, ⟨⟨w', y.ok.trans (hb.mono y.ok.size)⟩, rfl⟩⟩
  · have h2 := h.below' y.ok
    have hp := h2.pos
    obtain ⟨h0, ⟨U, C, ⟨v, Fs, ps, hA⟩, hC, hU, hd, hx⟩, hl, h1, h3⟩ := h2
    exact (asectors_any (Lib.hid hA) (by omega)).mono fun e w' ⟨he, hb⟩ => ⟨he, ⟨⟨w', y.ok.trans (hb.mono y.ok.size)⟩, rfl⟩⟩
/-- The name of a head's stripe. -/
def supC (slot : Int) (ep : Nat) : Array Value := if isS slot = true ∧ ep < 1099511627776 then #[.int .u8 1, .int .i64 slot, .int .u64 ((ep * 1048576 : Nat) : Int)] else #[.int .u8 0, .int .i64 0, .int .u64 0]
end
section
theorem gen_bad {w : World} {ep : Nat} {ct : Int} (he : ¬ ep < 1099511627776) : Calls Tryz.prog 81 #[.int .u64 (ep : Int), .int .i64 ct] w fun e w' => e = .returned (.tuple #[.int .u64 0, .int .i64 2]) ∧ w' = w := by
  have f0 : decide ((ep : Int) ≥ 1099511627776) = true := decide_eq_true (by omega)
  go_enter Tryz.func81, Tryz.ntmps81
  go_wp2_with fail
  go_ret2
  exact ⟨rfl, rfl⟩
theorem epoch_any {w : World} {g : Nat} : Calls Tryz.prog 80 #[.int .u64 (g : Int)] w fun e w' => e = .returned (.int .u64 ((g / 1048576 : Nat) : Int)) ∧ w' = w := by
  have e : ((g / 1048576 : Nat) : Int) = (g : Int) / 1048576 := by omega
  rw [e]
  clear e
  go_enter Tryz.func80, Tryz.ntmps80
  go_wp2_with fail
  go_ret
  exact ⟨rfl, rfl⟩
set_option maxRecDepth 100000 in
set_option maxHeartbeats 8000000 in
theorem href_any {w : World} {slot : Int} {ep : Nat} : Calls Tryz.prog 19 #[.int .i64 slot, .int .u64 (ep : Int)] w fun e w' => e = .returned (.agg (supC slot ep)) ∧ Below w.heap.size w w' := by
  have hb0 : Below w.heap.size w (w.alloc (.cells #[.int .u8 0, .int .i64 0, .int .u64 0] 41)) := (Below.refl _ _).alloc (Nat.le_refl _) _
  have bB := BoxAt.new w #[.int .u8 0, .int .i64 0, .int .u64 0] 41
  obtain ⟨w1, hw1⟩ : ∃ w1, w.alloc (.cells #[.int .u8 0, .int .i64 0, .int .u64 0] 41) = w1 := ⟨_, rfl⟩
  obtain ⟨q, hq⟩ : ∃ q, w.heap.size = q := ⟨_, rfl⟩
  have hq0 : w.heap.size ≤ q := by omega
  rw [hw1] at hb0 bB
  rw [hq] at bB
  have HB0 := Lib.hid hb0
  have c0 := bB.cell 0
  have c1 := bB.cell 1
  have c2 := bB.cell 2
  have z0 := bB.frozen 0
  have z1 := bB.frozen 1
  have z2 := bB.frozen 2
  clear hb0 bB
  have his := fun w => is_any (w := w) slot
  by_cases he : ep < 1099511627776
  · have hg := fun w => gen_any (w := w) (ct := 0) he (by omega)
    cases hi : isS slot with
    | true =>
      have hs : supC slot ep = #[.int .u8 1, .int .i64 slot, .int .u64 ((ep * 1048576 + 0 : Nat) : Int)] := by unfold supC; rw [if_pos ⟨hi, he⟩, Nat.add_zero]
      rw [hs]
      rw [hi] at his
      clear hs hi he
      rw [show ((0 : Nat) : Int) = 0 from rfl] at hg
      obtain ⟨G, hG⟩ : ∃ G, ep * 1048576 + 0 = G := ⟨_, rfl⟩
      rw [hG] at hg ⊢
      clear hG
      go_enter Tryz.func19, Tryz.ntmps19
      go_wp2_with (first | (go_at_call 81; refine (hg _).mono ?_; rintro e w9 ⟨rfl, hw9⟩; rw [hw9]; clear hw9) | (go_at_call 82; refine (his _).mono ?_; rintro e w9 ⟨rfl, hw9⟩; rw [hw9]; clear hw9))
      refine bodyPost_ret (v := .agg #[.int .u8 1, .int .i64 slot, .int .u64 (G : Int)]) (by simp [results, Tryz.results19, go_sem, *]) rfl ?_
      exact ⟨rfl, ((HB0.out.setCell (p := ⟨q, 0, none⟩) hq0 _).setCell (p := ⟨q, 1, none⟩) hq0 _).setCell (p := ⟨q, 2, none⟩) hq0 _⟩
    | false =>
      have hs : supC slot ep = #[.int .u8 0, .int .i64 0, .int .u64 0] := if_neg (by rw [hi]; simp)
      rw [hs]
      rw [hi] at his
      clear hs hi he
      rw [show ((0 : Nat) : Int) = 0 from rfl] at hg
      obtain ⟨G, hG⟩ : ∃ G, ep * 1048576 + 0 = G := ⟨_, rfl⟩
      rw [hG] at hg
      clear hG
      go_enter Tryz.func19, Tryz.ntmps19
      go_wp2_with (first | (go_at_call 81; refine (hg _).mono ?_; rintro e w9 ⟨rfl, hw9⟩; rw [hw9]; clear hw9) | (go_at_call 82; refine (his _).mono ?_; rintro e w9 ⟨rfl, hw9⟩; rw [hw9]; clear hw9))
      refine bodyPost_ret (v := .agg #[.int .u8 0, .int .i64 0, .int .u64 0]) (by simp [results, Tryz.results19, go_sem, *]) rfl ?_
      exact ⟨rfl, ((HB0.out.setCell (p := ⟨q, 0, none⟩) hq0 _).setCell (p := ⟨q, 1, none⟩) hq0 _).setCell (p := ⟨q, 2, none⟩) hq0 _⟩
  · have hg := fun w => gen_bad (w := w) (ct := 0) he
    have hs : supC slot ep = #[.int .u8 0, .int .i64 0, .int .u64 0] := if_neg (by simp [he])
    rw [hs]
    clear hs he
    cases hi : isS slot with
    | true =>
      rw [hi] at his
      clear hi
      go_enter Tryz.func19, Tryz.ntmps19
      go_wp2_with (first | (go_at_call 81; refine (hg _).mono ?_; rintro e w9 ⟨rfl, hw9⟩; rw [hw9]; clear hw9) | (go_at_call 82; refine (his _).mono ?_; rintro e w9 ⟨rfl, hw9⟩; rw [hw9]; clear hw9))
      refine bodyPost_ret (v := .agg #[.int .u8 0, .int .i64 0, .int .u64 0]) (by simp [results, Tryz.results19, go_sem, *]) rfl ?_
      exact ⟨rfl, ((HB0.out.setCell (p := ⟨q, 0, none⟩) hq0 _).setCell (p := ⟨q, 1, none⟩) hq0 _).setCell (p := ⟨q, 2, none⟩) hq0 _⟩
    | false =>
      rw [hi] at his
      clear hi
      go_enter Tryz.func19, Tryz.ntmps19
      go_wp2_with (first | (go_at_call 81; refine (hg _).mono ?_; rintro e w9 ⟨rfl, hw9⟩; rw [hw9]; clear hw9) | (go_at_call 82; refine (his _).mono ?_; rintro e w9 ⟨rfl, hw9⟩; rw [hw9]; clear hw9))
      refine bodyPost_ret (v := .agg #[.int .u8 0, .int .i64 0, .int .u64 0]) (by simp [results, Tryz.results19, go_sem, *]) rfl ?_
      exact ⟨rfl, ((HB0.out.setCell (p := ⟨q, 0, none⟩) hq0 _).setCell (p := ⟨q, 1, none⟩) hq0 _).setCell (p := ⟨q, 2, none⟩) hq0 _⟩
end
section
section
variable {P X S : Nat → Prop} {w0 w w' : World} {a cb bf k m n : Nat} {sts : List DSt} {r : Ref} {g : Nat → Bool} {xs : List Nat}
end
end
section
section
variable {P X Y : Nat → Prop} {w0 w w' : World} {a cb bf k m n : Nat} {sts : List DSt}
theorem _root_.Go.Cib.OwnL.kp {T : Type} {R : (Nat → Prop) → World → List Value → T → Prop} {E : TypeId} {s base n : Nat} {S S' : Nat → Prop} {v : Value} {xs : List T} (hR : Stable R) (h : OwnL R E s base S w v n xs) (hk : KpX X w w')
    (hv : ∀ g, v.ownBlock = some g → X g) (hS : ∀ b, S b → b < w.heap.size → X b ∧ S' b) : OwnL R E s base S' w' v n xs := by
  obtain ⟨css, h1, h2, h3, h4, h5⟩ := h
  refine ⟨css, ⟨h1.1, ?_⟩, h2, h3, h4, fun i cs x hc hx => ?_⟩
  · rcases h1.2 with h | ⟨g, cap, cur, rfl, g1, g2, g3⟩
    · exact .inl h
    · exact .inr ⟨g, cap, cur, rfl, g1, (hk.1 g (hv g rfl)).trans g2, g3⟩
  · exact hR _ _ _ _ _ _ (h5 i cs x hc hx) fun b hb hl => ⟨⟨(hS b hb.1 hl).2, hb.2⟩, hk.1 b (hS b hb.1 hl).1⟩
end
/-- A value that was put: the first of its places (from the pool's first), and its bytes. -/
def KbR (k f : Nat) (S : Nat → Prop) (w : World) (cs : List Value) (x : Nat × List Nat) : Prop := ∃ A c, cs = [.slice A (cntN k x.2.length) c, .int .u64 (x.1 : Int), .int .i64 (x.2.length : Int)] ∧ cntN k x.2.length ≤ c ∧ RdL IntR 1 S w A (cntN k x.2.length) (plL (f + x.1) (cntN k x.2.length))
theorem KbR.stable {k f : Nat} : Stable (KbR k f) := fun _ _ _ _ _ _ ⟨A, c, h1, h2, h3⟩ hk => ⟨A, c, h1, h2, h3.stable IntR.stable hk⟩
theorem KbR.one {k f : Nat} : ∀ S w cs x, KbR k f S w cs x → ∀ u ∈ cs, u.oneCell' = true := by
  rintro S w cs x ⟨A, c, rfl, _, _⟩ u hu
  simp at hu
  rcases hu with rfl | rfl | rfl <;> rfl
structure Bks (k f B b : Nat) (X : Nat → Prop) (w : World) (va vh : Value) (na nh : Nat) (ka : List (Nat × List Nat)) (kh : List (List Nat)) : Prop where
  oa : OwnL (KbR k f) 61 3 b (fun j => X j ∧ some j ≠ vh.ownBlock) w va na ka
  oh : OwnL RowR 80 1 b (fun j => j < B) w vh nh kh
  ne : va.ownBlock = none ∨ va.ownBlock ≠ vh.ownBlock
  xa : ∀ g, va.ownBlock = some g → X g
  xh : ∀ g, vh.ownBlock = some g → X g
  xb : ∀ j, j < B → X j
  bb : B ≤ b
section
variable {k f B b na nh : Nat} {X Y : Nat → Prop} {w w' : World} {va vh : Value} {ka : List (Nat × List Nat)} {kh : List (List Nat)}
theorem Bks.nil (hB : B ≤ b) : Bks k f B b (fun j => j < B) w (.slice none 0 0) (.slice none 0 0) 0 0 [] [] where
  oa := OwnL.nil_
  oh := OwnL.nil_
  ne := .inl rfl
  xa g hg := by cases hg
  xh g hg := by cases hg
  xb j hj := hj
  bb := hB
theorem Bks.kp (h : Bks k f B b X w va vh na nh ka kh) (hK : KpX X w w') (hY : ∀ j, X j → Y j) : Bks k f B b Y w' va vh na nh ka kh where
  oa := h.oa.kp KbR.stable hK h.xa fun j hj _ => ⟨hj.1, hY j hj.1, hj.2⟩
  oh := h.oh.kp RowR.stable hK h.xh fun j hj _ => ⟨h.xb j hj, hj⟩
  ne := h.ne
  xa g hg := hY g (h.xa g hg)
  xh g hg := hY g (h.xh g hg)
  xb j hj := hY j (h.xb j hj)
  bb := h.bb
end
end
section
attribute [local go_sem ↓] run_min_b
/-- Two slices that grow, of bytes and of ints, and a box. -/
structure Trio (b : Nat) (w : World) (vo vl : Value) (no nl : Nat) (ob : List Nat) (ll : List Int) (qr : Nat) (cs : Array Value) : Prop where
  oo : OwnL ByR 5 1 b (fun _ => True) w vo no ob
  ol : OwnL IntR 3 1 b (fun _ => True) w vl nl ll
  ne : ∀ g, vo.ownBlock = some g → vl.ownBlock ≠ some g
  n1 : vo.ownBlock ≠ some qr
  n2 : vl.ownBlock ≠ some qr
  bx : BoxAt w qr cs
section
variable {b no nl qr : Nat} {w w' : World} {vo vl vo' vl' : Value} {ob : List Nat} {ll : List Int} {cs : Array Value}
theorem Trio.below (h : Trio b w vo vl no nl ob ll qr cs) (hb : Below w.heap.size w w') : Trio b w' vo vl no nl ob ll qr cs :=
  ⟨h.oo.keep ByR.stable hb, h.ol.keep IntR.stable hb, h.ne, h.n1, h.n2, h.bx.below hb⟩
end
section
variable {w0 w w' : World} {a cb bf k m n aa G size : Nat} {sts : List DSt} {gs : Nat → Nat → Bool} {xs : List Nat}
/-- An exit at the end, and what is so there. -/
def NormP (R : Act → World → Prop) : Exit → Act → World → Prop
  | .normal, a, w => R a w
  | _, _, _ => False
theorem NormP.le {R : Act → World → Prop} {Q : Exit → Act → World → Prop} (h : ∀ a w, R a w → Q .normal a w) : ∀ e a w, NormP R e a w → Q e a w
  | .normal, a, w, hr => h a w hr
  | .panic _, _, _, hr => hr.elim
  | .ret, _, _, hr => hr.elim
  | .outgrown, _, _, hr => hr.elim
  | .exit _, _, _, hr => hr.elim
  | .goto _, _, _, hr => hr.elim
theorem NormP.normal {R : Act → World → Prop} {a : Act} {w : World} (h : R a w) : NormP R .normal a w := h
end
end
section
end
section
theorem BoxAt.ints {w : World} {b : Nat} {xs : List Int} (h : BoxAt w b (xs.map (Value.int .i64)).toArray) {S : Nat → Prop} (hS : S b) : RdL IntR 1 S w (some ⟨b, 0, none⟩) xs.length xs :=
  ⟨rfl, fun _ => ⟨b, 0, rfl, hS, h.lt, fun i x hx => ⟨[.int .i64 x], rfl, rfl, fun j v hj => by
    have hj0 : j = 0 := by
      have := (List.getElem?_eq_some_iff.1 hj).1
      simp at this; exact this
    subst hj0
    simp at hj
    subst hj
    rw [show 0 + i * 1 + 0 = i by omega, h.cell i]
    simp [hx]⟩⟩⟩
end
section
/-- The code that such a reading answers. -/
def ngE (n : Nat) (at' : Int) (k : Nat) : Int := if at' < 0 ∨ at' > n then 2 else if (k : Int) > (n : Int) - at' then 5 else 0
/-- What it reads. -/
def ngV (xs : List Nat) (at' : Int) (k : Nat) : Nat := if ngE xs.length at' k = 0 then unN ((xs.drop at'.toNat).take k) else 0
def NgR (n : Nat) (xs : List Nat) (at' : Int) (k : Nat) (e : Ending) : Prop := e = .returned (.tuple #[.int .u64 (ngV xs at' k : Int), .int .i64 (ngE n at' k)])
theorem ng_in {n : Nat} {xs : List Nat} (hl : xs.length = n) {a k : Nat} (h : a + k ≤ n) : ngE n (a : Int) k = 0 ∧ ngV xs (a : Int) k = unN ((xs.drop a).take k) := by
  have e : ngE n (a : Int) k = 0 := by
    unfold ngE
    rw [if_neg (by omega), if_neg (by omega)]
  refine ⟨e, ?_⟩
  unfold ngV
  rw [hl, if_pos e, Int.toNat_natCast]
theorem ng_out {n : Nat} {xs : List Nat} (hl : xs.length = n) {z : Int} {k : Nat} (h : z < 0 ∨ z > n) : ngE n z k = 2 ∧ ngV xs z k = 0 := by
  have e : ngE n z k = 2 := by
    unfold ngE
    rw [if_pos h]
  refine ⟨e, ?_⟩
  unfold ngV
  rw [hl, e, if_neg (by decide)]
theorem ng_short {n : Nat} {xs : List Nat} (hl : xs.length = n) {z : Int} {k : Nat} (h0 : 0 ≤ z) (h1 : z ≤ n) (h : (n : Int) - z < k) : ngE n z k = 5 ∧ ngV xs z k = 0 := by
  have e : ngE n z k = 5 := by
    unfold ngE
    rw [if_neg (by omega), if_pos (by omega)]
  refine ⟨e, ?_⟩
  unfold ngV
  rw [hl, e, if_neg (by decide)]
set_option maxRecDepth 100000 in
set_option maxHeartbeats 4000000 in
theorem nget_or {w : World} {n c k : Nat} {z : Int} {A : Option Addr} {S : Nat → Prop} {xs : List Nat} (R : RdL ByR 1 S w A n xs) (hnc : n ≤ c) (hn : n ≤ 4000) (k1 : 1 ≤ k) (k8 : k ≤ 8) :
    Calls Tryz.prog 122 #[.slice A n c, .int .i64 z, .int .i64 (k : Int)] w fun e w' => NgR n xs z k e ∧ w' = w := by
  have hl := R.1
  have q1 : ¬ (k : Int) < 1 := by omega
  have q2 : ¬ (k : Int) > 8 := by omega
  by_cases h0 : z < 0
  · obtain ⟨e1, e2⟩ := ng_out hl (k := k) (Or.inl h0)
    unfold NgR
    rw [e1, e2]
    clear R hl e1 e2
    go_enter Tryz.func122, Tryz.ntmps122
    go_wp2_with fail
    go_ret2
    exact ⟨rfl, rfl⟩
  by_cases h1 : z > (n : Int)
  · obtain ⟨e1, e2⟩ := ng_out hl (k := k) (Or.inr h1)
    unfold NgR
    rw [e1, e2]
    clear R hl e1 e2
    go_enter Tryz.func122, Tryz.ntmps122
    go_wp2_with fail
    go_ret2
    exact ⟨rfl, rfl⟩
  obtain ⟨a, rfl⟩ : ∃ a : Nat, z = a := ⟨z.toNat, by omega⟩
  by_cases h2 : (k : Int) > (n : Int) - (a : Int)
  · obtain ⟨e1, e2⟩ := ng_short hl (z := (a : Int)) (k := k) (by omega) (by omega) (by omega)
    unfold NgR
    rw [e1, e2]
    have hw : IntKind.i64.wrap ((n : Int) - (a : Int)) = (n : Int) - (a : Int) := by rw [IntKind.wrap_i64]; omega
    clear R hl e1 e2
    go_enter Tryz.func122, Tryz.ntmps122
    go_wp2_with fail
    go_ret2
    exact ⟨rfl, rfl⟩
  · refine (nget_any R hnc hn k1 k8 (a := a) (by omega)).mono ?_
    rintro e w' ⟨rfl, rfl⟩
    obtain ⟨e1, e2⟩ := ng_in hl (a := a) (k := k) (by omega)
    unfold NgR
    rw [e1, e2]
    exact ⟨rfl, rfl⟩
theorem unN_leN (k v : Nat) : unN (leN k v) = v % 2 ^ (8 * k) := by
  induction k with
  | zero => show 0 = _; rw [Nat.mul_zero, Nat.pow_zero, Nat.mod_one]
  | succ k ih =>
    rw [leN_next, unN_snoc, ih, leN_len, show 8 * (k + 1) = 8 * k + 8 by omega, Nat.pow_add]
    exact (Nat.mod_mul ..).symm
end
section
end
section
end
section
end
section
def gbO : Nat → Nat
  | 0 => 0
  | 1 => 2
  | 2 => 10
  | 3 => 12
  | _ => 16
def gbW : Nat → Nat
  | 1 => 8
  | 3 => 4
  | _ => 2
/-- A field of the name. -/
def gbF (xs : List Nat) (z : Int) (i : Nat) : Nat := unN ((xs.drop (z.toNat + gbO i)).take (gbW i))
/-- The code that it answers. -/
def gbC (n : Nat) (z : Int) : Int := if z < 0 ∨ z > n then 2 else if (16 : Int) > (n : Int) - z then 5 else 0
def gbV (xs : List Nat) (z : Int) : Array Value := if gbC xs.length z = 0 then scC (gbF xs z 0) (gbF xs z 1) (gbF xs z 2) (gbF xs z 3) else scC 0 0 0 0
def GbR (n : Nat) (xs : List Nat) (z : Int) (e : Ending) : Prop := e = .returned (.tuple #[.agg (gbV xs z), .int .i64 (gbC n z)])
def gbA (xs : List Nat) (z : Int) (i : Nat) : Array Value := #[.int .u64 ((if 0 < i then gbF xs z 0 else 0 : Nat) : Int), .int .u64 ((if 1 < i then gbF xs z 1 else 0 : Nat) : Int), .int .u64 ((if 2 < i then gbF xs z 2 else 0 : Nat) : Int), .int .u64 ((if 3 < i then gbF xs z 3 else 0 : Nat) : Int)]
section
variable {n : Nat} {xs : List Nat} {z : Int}
theorem gb_step (hl : xs.length = n) {i : Nat} (hi : i < 4) (h : 0 < i → 0 ≤ z ∧ z + gbO i ≤ n) (hok : 0 ≤ z ∧ z + gbO (i + 1) ≤ n) : ngE n (z + gbO i) (gbW i) = 0 ∧ ngV xs (z + gbO i) (gbW i) = gbF xs z i := by
  obtain ⟨a, rfl⟩ : ∃ a : Nat, z = a := ⟨z.toNat, by omega⟩
  have e : gbO (i + 1) = gbO i + gbW i := by
    have : i = 0 ∨ i = 1 ∨ i = 2 ∨ i = 3 := by omega
    rcases this with rfl | rfl | rfl | rfl <;> rfl
  have := ng_in hl (a := a + gbO i) (k := gbW i) (by omega)
  rw [show ((a : Int) + (gbO i : Int)) = ((a + gbO i : Nat) : Int) by push_cast; rfl]
  exact this
theorem gb_fail (hl : xs.length = n) {i : Nat} (hi : i < 4) (h : 0 < i → 0 ≤ z ∧ z + gbO i ≤ n) (hok : ¬ (0 ≤ z ∧ z + gbO (i + 1) ≤ n)) : ngE n (z + gbO i) (gbW i) = gbC n z ∧ gbC n z ≠ 0 ∧ gbV xs z = scC 0 0 0 0 := by
  have e : gbO (i + 1) = gbO i + gbW i ∧ gbO (i + 1) ≤ 16 ∧ (i = 0 → gbO i = 0) ∧ 1 ≤ gbW i := by
    have : i = 0 ∨ i = 1 ∨ i = 2 ∨ i = 3 := by omega
    rcases this with rfl | rfl | rfl | rfl <;> exact ⟨rfl, by decide, by decide, by decide⟩
  have hC : gbC n z ≠ 0 := by
    unfold gbC
    split
    · decide
    · rw [if_pos (by omega)]; decide
  refine ⟨?_, hC, by unfold gbV; rw [hl, if_neg hC]⟩
  unfold ngE gbC
  rcases Nat.eq_zero_or_pos i with h0 | h0
  · have := e.2.2.1 h0
    rw [this]
    by_cases hz : z < 0 ∨ z > n
    · rw [if_pos (by omega), if_pos hz]
    · rw [if_neg (by omega), if_pos (by omega), if_neg hz, if_pos (by omega)]
  · have := h h0
    rw [if_neg (by omega), if_pos (by omega), if_neg (by omega), if_pos (by omega)]
theorem gb_end (hl : xs.length = n) (h : 0 ≤ z ∧ z + 16 ≤ n) : gbC n z = 0 ∧ gbV xs z = scC (gbF xs z 0) (gbF xs z 1) (gbF xs z 2) (gbF xs z 3) := by
  have hC : gbC n z = 0 := by
    unfold gbC
    rw [if_neg (by omega), if_neg (by omega)]
  exact ⟨hC, by unfold gbV; rw [hl, if_pos hC]⟩
theorem gbF_lt (hb : Byt xs) (z : Int) (i : Nat) : gbF xs z i < 2 ^ (8 * gbW i) := by
  have h := unN_lt (l := (xs.drop (z.toNat + gbO i)).take (gbW i)) fun x hx => hb x (List.mem_of_mem_drop (List.mem_of_mem_take hx))
  have hl : ((xs.drop (z.toNat + gbO i)).take (gbW i)).length ≤ gbW i := by rw [List.length_take]; omega
  exact Nat.lt_of_lt_of_le h (Nat.pow_le_pow_right (by omega) (by omega))
end
end
section
set_option maxRecDepth 100000 in
set_option maxHeartbeats 8000000 in
theorem sgb_any {w : World} {n c : Nat} {z : Int} {A : Option Addr} {S : Nat → Prop} {xs : List Nat} (R : RdL ByR 1 S w A n xs) (hnc : n ≤ c) (hn : n ≤ 4000) :
    Calls Tryz.prog 49 #[.slice A n c, .int .i64 z] w fun e w' => GbR n xs z e ∧ Below w.heap.size w w' := by
  have HX := Lib.hid R.1
  have HBY := Lib.hid (by_byt R)
  have HR := Lib.hid R
  have hb0 : Below w.heap.size w (w.alloc (.cells #[.int .i64 0, .int .u64 0, .int .i64 0, .int .i64 0] 24)) := (Below.refl _ _).alloc (Nat.le_refl _) _
  have bB := BoxAt.new w #[.int .i64 0, .int .u64 0, .int .i64 0, .int .i64 0] 24
  have hs0 := World.size_alloc w (.cells #[.int .i64 0, .int .u64 0, .int .i64 0, .int .i64 0] 24)
  obtain ⟨w1, hw1⟩ : ∃ w1, w.alloc (.cells #[.int .i64 0, .int .u64 0, .int .i64 0, .int .i64 0] 24) = w1 := ⟨_, rfl⟩
  rw [hw1] at hb0 bB hs0
  have hb1 : Below w.heap.size w (w1.alloc (.cells #[.int .u64 0, .int .u64 0, .int .u64 0, .int .u64 0] 218)) := hb0.alloc hb0.size _
  have bA := BoxAt.new w1 #[.int .u64 0, .int .u64 0, .int .u64 0, .int .u64 0] 218
  have bB1 := bB.below ((Below.refl w1.heap.size w1).alloc (Nat.le_refl _) (.cells #[.int .u64 0, .int .u64 0, .int .u64 0, .int .u64 0] 218))
  obtain ⟨w2, hw2⟩ : ∃ w2, w1.alloc (.cells #[.int .u64 0, .int .u64 0, .int .u64 0, .int .u64 0] 218) = w2 := ⟨_, rfl⟩
  rw [hw2] at hb1 bA bB1
  obtain ⟨q, hq⟩ : ∃ q, w.heap.size = q := ⟨_, rfl⟩
  obtain ⟨q6, hq6⟩ : ∃ q6, w1.heap.size = q6 := ⟨_, rfl⟩
  have HQ := Lib.hid (show q6 = q + 1 by omega)
  have HWq := Lib.hid (show w.heap.size ≤ q by omega)
  have HW := Lib.hid (show w.heap.size = q from hq)
  rw [hq] at bB1
  rw [hq6] at bA
  have HB1 := Lib.hid hb1
  have BA := Lib.hid bA
  have BB := Lib.hid bB1
  clear hb0 hb1 bA bB bB1 hs0 R
  have ix0 : ∀ w, (Instr.index 219 (.agg #[.int .i64 2, .int .i64 8, .int .i64 2, .int .i64 4]) (.int .i64 0)).run Tryz.prog w = .ok (.int .i64 2) w := fun _ => by kernel_rfl
  have ix1 : ∀ w, (Instr.index 219 (.agg #[.int .i64 2, .int .i64 8, .int .i64 2, .int .i64 4]) (.int .i64 1)).run Tryz.prog w = .ok (.int .i64 8) w := fun _ => by kernel_rfl
  have ix2 : ∀ w, (Instr.index 219 (.agg #[.int .i64 2, .int .i64 8, .int .i64 2, .int .i64 4]) (.int .i64 2)).run Tryz.prog w = .ok (.int .i64 2) w := fun _ => by kernel_rfl
  have ix3 : ∀ w, (Instr.index 219 (.agg #[.int .i64 2, .int .i64 8, .int .i64 2, .int .i64 4]) (.int .i64 3)).run Tryz.prog w = .ok (.int .i64 4) w := fun _ => by kernel_rfl
  go_enter Tryz.func49, Tryz.ntmps49
  go_wp2_with fail
  clear hq hq6
  clear hw1 hw2
  go_loopw [1, 12] (fun vz vi wr => ∃ i : Nat, i ≤ 4 ∧ vi = .int .i64 i ∧ vz = .int .i64 (z + gbO i) ∧ (0 < i → 0 ≤ z ∧ z + gbO i ≤ n) ∧ Hid (BoxAt wr q6 (gbA xs z i)) ∧ Hid (BoxAt wr q #[.int .i64 0, .int .u64 0, .int .i64 0, .int .i64 0]) ∧ Hid (Below w.heap.size w wr)) (fun _ vi _ => 4 - (intOf vi).toNat)
  case atStart => exact ⟨0, by omega, rfl, by simp [gbO], fun h => absurd h (by omega), BA, BB, HB1⟩
  case round =>
    clear BA BB HB1
    obtain ⟨i, hi, rfl, rfl, hin, BA, BB, HB⟩ := hrel
    by_cases hlt : i < 4
    · have p1 : (i : Int) < 4 := by omega
      have p0 : (0 : Int) ≤ (i : Int) := by omega
      have hk : 1 ≤ gbW i ∧ gbW i ≤ 8 := by
        have : i = 0 ∨ i = 1 ∨ i = 2 ∨ i = 3 := by omega
        rcases this with rfl | rfl | rfl | rfl <;> exact ⟨by decide, by decide⟩
      have HG := Lib.hid (nget_or (z := z + gbO i) (HR.out.below ByR.stable HB.out) hnc hn hk.1 hk.2)
      clear hk
      have h4 : i = 0 ∨ i = 1 ∨ i = 2 ∨ i = 3 := by omega
      by_cases hok : 0 ≤ z ∧ z + gbO (i + 1) ≤ n
      · obtain ⟨e1, e2⟩ := gb_step HX.out hlt hin hok
        unfold NgR at HG
        rw [e1, e2] at HG
        clear e1 e2
        have hO : (gbO i : Int) + gbW i = gbO (i + 1) := by rcases h4 with rfl | rfl | rfl | rfl <;> rfl
        have hOl : gbO i + gbW i ≤ 16 ∧ gbW i ≤ 8 := by rcases h4 with rfl | rfl | rfl | rfl <;> exact ⟨by decide, by decide⟩
        have HA := Lib.hid (show ∀ V, gbF xs z i = V → (gbA xs z i).setIfInBounds i (.int .u64 (V : Int)) = gbA xs z (i + 1) from fun V hV => by subst hV; rcases h4 with rfl | rfl | rfl | rfl <;> rfl)
        obtain ⟨V, hV⟩ : ∃ V, gbF xs z i = V := ⟨_, rfl⟩
        have hwz : IntKind.i64.wrap (z + (gbO i : Int) + (gbW i : Int)) = z + (gbO (i + 1) : Int) := by rw [IntKind.wrap_i64]; omega
        rw [hV] at HG
        have HA2 := Lib.hid (HA.out V hV)
        have HWZ := Lib.hid hwz
        have HOK := Lib.hid hok
        clear HA hV hO hOl hwz hok hin
        obtain ⟨Z, hZ⟩ : ∃ Z, z + (gbO i : Int) = Z := ⟨_, rfl⟩
        have HZ := Lib.hid hZ
        rw [hZ] at HG HWZ ⊢
        clear hZ
        obtain ⟨old, hold⟩ : ∃ old, (gbA xs z i)[i]? = some old := by rcases h4 with rfl | rfl | rfl | rfl <;> exact ⟨_, rfl⟩
        have c6 := BA.out.cell i
        rw [hold] at c6
        have z6 := BA.out.frozen i
        have BA' := Lib.hid (BA.out.set i (.int .u64 (V : Int)))
        have hne : q ≠ q6 := by have := HQ.out; omega
        have hq6 : w.heap.size ≤ q6 := by have := HQ.out; have := HW.out; omega
        have HNE := Lib.hid hne
        have HQ6 := Lib.hid hq6
        clear hold hne hq6
        rcases h4 with rfl | rfl | rfl | rfl
        all_goals
          simp only [gbW, Int.cast_ofNat_Int] at HG HWZ
          try simp only [Int.cast_ofNat_Int]
          try simp only [Int.natCast_zero]
          try simp only [Int.natCast_one]
          have hwz := HWZ.out
          go_wp2_with fail
          refine HG.out.mono ?_
          rintro e w3 ⟨rfl, hw3⟩
          rw [hw3]
          clear hw3
          go_wp2_with fail
          refine ⟨⟨_, ?_, rfl, rfl, fun _ => HOK.out, ?_, ?_, ?_⟩, ?_⟩
          · simp
          · rw [← HA2.out]; exact BA'
          · exact Lib.hid (BB.out.set_other (p := ⟨q6, _, none⟩) HNE.out _)
          · exact Lib.hid (Below.setCell HB.out (p := ⟨q6, _, none⟩) HQ6.out _)
          · simp [intOf]
      · obtain ⟨e1, e2, e3⟩ := gb_fail HX.out hlt hin hok
        unfold NgR at HG
        rw [e1] at HG
        have hE : GbR n xs z (.returned (.tuple #[.agg (scC 0 0 0 0), .int .i64 (gbC n z)])) := by unfold GbR; rw [e3]
        clear e1 e3 hin hok
        obtain ⟨V, hV⟩ : ∃ V, ngV xs (z + gbO i) (gbW i) = V := ⟨_, rfl⟩
        obtain ⟨C, hC⟩ : ∃ C, gbC n z = C := ⟨_, rfl⟩
        obtain ⟨Z, hZ⟩ : ∃ Z, z + (gbO i : Int) = Z := ⟨_, rfl⟩
        rw [hV, hC] at HG
        rw [hZ] at HG ⊢
        rw [hC] at e2 hE
        have HE := Lib.hid hE
        clear hV hC hZ hE
        have k0 := BB.out.cell 0
        have k1 := BB.out.cell 1
        have k2 := BB.out.cell 2
        have k3 := BB.out.cell 3
        have z0 := BB.out.frozen 0
        have z1 := BB.out.frozen 1
        have z2 := BB.out.frozen 2
        have z3 := BB.out.frozen 3
        rcases h4 with rfl | rfl | rfl | rfl
        all_goals
          simp only [gbW, Int.cast_ofNat_Int] at HG
          try simp only [Int.cast_ofNat_Int]
          try simp only [Int.natCast_zero]
          try simp only [Int.natCast_one]
          go_wp2_with fail
          refine HG.out.mono ?_
          rintro e w3 ⟨rfl, hw3⟩
          rw [hw3]
          clear hw3
          go_wp2_with fail
          refine bodyPost_ret (v := .tuple #[.agg #[.int .i64 0, .int .u64 0, .int .i64 0, .int .i64 0], .int .i64 C]) (by simp [results, Tryz.results49, go_sem, *]) rfl ?_
          exact ⟨HE.out, Below.setCell (Below.setCell (Below.setCell (Below.setCell HB.out HWq.out _) HWq.out _) HWq.out _) HWq.out _⟩
    · obtain rfl : i = 4 := by omega
      have hr := hin (by omega)
      obtain ⟨e1, e2⟩ := gb_end HX.out hr
      have hE : GbR n xs z (.returned (.tuple #[.agg (scC (gbF xs z 0) (gbF xs z 1) (gbF xs z 2) (gbF xs z 3)), .int .i64 0])) := by unfold GbR; rw [e1, e2]
      have f0 := gbF_lt HBY.out z 0
      have f1 := gbF_lt HBY.out z 1
      have f2 := gbF_lt HBY.out z 2
      have f3 := gbF_lt HBY.out z 3
      simp only [gbW] at f0 f1 f2 f3
      have bA := BA.out
      unfold gbA at bA
      rw [if_pos (by decide), if_pos (by decide), if_pos (by decide), if_pos (by decide)] at bA
      obtain ⟨v0, h0⟩ : ∃ v, gbF xs z 0 = v := ⟨_, rfl⟩
      obtain ⟨v1, h1⟩ : ∃ v, gbF xs z 1 = v := ⟨_, rfl⟩
      obtain ⟨v2, h2⟩ : ∃ v, gbF xs z 2 = v := ⟨_, rfl⟩
      obtain ⟨v3, h3⟩ : ∃ v, gbF xs z 3 = v := ⟨_, rfl⟩
      rw [h0, h1, h2, h3] at hE bA
      rw [h0] at f0
      rw [h1] at f1
      rw [h2] at f2
      rw [h3] at f3
      have HE := Lib.hid hE
      have c0 := bA.cell 0
      have c1 := bA.cell 1
      have c2 := bA.cell 2
      have c3 := bA.cell 3
      have g0 : IntKind.i64.wrap (v0 : Int) = (v0 : Int) := by rw [IntKind.wrap_i64]; omega
      have g2 : IntKind.i64.wrap (v2 : Int) = (v2 : Int) := by rw [IntKind.wrap_i64]; omega
      have g3 : IntKind.i64.wrap (v3 : Int) = (v3 : Int) := by rw [IntKind.wrap_i64]; omega
      have k0 := BB.out.cell 0
      have k1 := BB.out.cell 1
      have k2 := BB.out.cell 2
      have k3 := BB.out.cell 3
      have z0 := BB.out.frozen 0
      have z1 := BB.out.frozen 1
      have z2 := BB.out.frozen 2
      have z3 := BB.out.frozen 3
      obtain ⟨Z, hZ⟩ : ∃ Z, z + (gbO 4 : Int) = Z := ⟨_, rfl⟩
      rw [hZ]
      clear hE bA e1 e2 h0 h1 h2 h3 hZ hr hin
      go_wp2_with fail
      refine bodyPost_ret (v := .tuple #[.agg #[.int .i64 (v0 : Int), .int .u64 (v1 : Int), .int .i64 (v2 : Int), .int .i64 (v3 : Int)], .int .i64 0]) (by simp [results, Tryz.results49, go_sem, *]) rfl ?_
      exact ⟨HE.out, Below.setCell (Below.setCell (Below.setCell (Below.setCell HB.out HWq.out _) HWq.out _) HWq.out _) HWq.out _⟩
end
section
end
section
end
section
def fitB (p ct sz : Int) : Bool := decide (0 ≤ p ∧ p < 65536 ∧ 0 ≤ ct ∧ ct < 65536 ∧ 0 ≤ sz ∧ sz < 4294967296)
theorem gb_nm {xs : List Nat} {n : Nat} (hl : xs.length = n) (p : Int) (g : Nat) (ct sz : Int) (hg : g < 2 ^ 64) :
    gbC (xs ++ nmB p g ct sz).length (n : Int) = 0 ∧ gbV (xs ++ nmB p g ct sz) (n : Int) = #[.int .i64 (p % 65536), .int .u64 (g : Int), .int .i64 (ct % 65536), .int .i64 (sz % 4294967296)] := by
  have hL : (xs ++ nmB p g ct sz).length = n + 16 := by rw [List.length_append, nmB_len, hl]
  obtain ⟨e1, e2⟩ := gb_end (n := n + 16) (z := (n : Int)) hL (by omega)
  refine ⟨by rw [hL]; exact e1, ?_⟩
  rw [e2]
  have hd : ∀ k, (xs ++ nmB p g ct sz).drop (n + k) = (nmB p g ct sz).drop k := fun k => by
    rw [← hl, List.drop_append]
    rw [List.drop_of_length_le (by omega), List.nil_append]
    congr 1; omega
  have f : ∀ i, gbF (xs ++ nmB p g ct sz) (n : Int) i = unN (((nmB p g ct sz).drop (gbO i)).take (gbW i)) := fun i => by
    unfold gbF
    rw [Int.toNat_natCast, hd]
  have u : ∀ x : Int, ((u64N x : Nat) : Int) = x % 18446744073709551616 := fun x => by
    unfold u64N; rw [Int.toNat_of_nonneg (Int.emod_nonneg _ (by omega))]
  rw [f 0, f 1, f 2, f 3]
  unfold scC
  have a0 : ((nmB p g ct sz).drop (gbO 0)).take (gbW 0) = leN 2 (u64N p) := by
    show ((nmB p g ct sz).drop 0).take 2 = _
    unfold nmB
    rw [List.drop_zero, List.append_assoc, List.append_assoc, List.take_append_of_le_length (by rw [leN_len]; omega), List.take_of_length_le (by rw [leN_len]; omega)]
  have a1 : ((nmB p g ct sz).drop (gbO 1)).take (gbW 1) = leN 8 g := by
    show ((nmB p g ct sz).drop 2).take 8 = _
    unfold nmB
    rw [List.append_assoc, List.append_assoc]
    exact mid_of rfl (leN_len _ _) (leN_len _ _)
  have a2 : ((nmB p g ct sz).drop (gbO 2)).take (gbW 2) = leN 2 (u64N ct) := by
    show ((nmB p g ct sz).drop 10).take 2 = _
    unfold nmB
    exact mid_of (A := leN 2 (u64N p) ++ leN 8 g) (List.append_assoc _ _ _) (by rw [List.length_append, leN_len, leN_len]) (leN_len _ _)
  have a3 : ((nmB p g ct sz).drop (gbO 3)).take (gbW 3) = leN 4 (u64N sz) := by
    show ((nmB p g ct sz).drop 12).take 4 = _
    unfold nmB
    refine mid_of (A := leN 2 (u64N p) ++ leN 8 g ++ leN 2 (u64N ct)) (C := []) (by simp) (by rw [List.length_append, List.length_append, leN_len, leN_len, leN_len]) (leN_len _ _)
  rw [a0, a1, a2, a3, unN_leN, unN_leN, unN_leN, unN_leN, Nat.mod_eq_of_lt (show g < 2 ^ (8 * 8) from hg)]
  have e : ∀ x : Int, ((u64N x % 2 ^ (8 * 2) : Nat) : Int) = x % 65536 := fun x => by
    have := u x
    show ((u64N x % 65536 : Nat) : Int) = x % 65536
    omega
  have e4 : ((u64N sz % 2 ^ (8 * 4) : Nat) : Int) = sz % 4294967296 := by
    have := u sz
    show ((u64N sz % 4294967296 : Nat) : Int) = sz % 4294967296
    omega
  rw [e, e, e4]
attribute [local go_sem ↓] run_min_b run_max_b2
end
end Go.Proofs.YtcliejdiaohamaaGreat
