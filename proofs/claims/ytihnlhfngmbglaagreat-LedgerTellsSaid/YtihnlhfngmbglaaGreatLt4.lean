/-
  Rows of bytes in memory, as lists of numbers below 256.
  The field's products and quotients.
  Readings of slices: the first elements, all but the first.
  Pieces of slices: what x[:k], x[k:] are.
  Fold: a row with a multiple of another one added: new.
  Matrices: small things, and one that a function tells.
  Matrices: nobody, Right, row, At, twice.
  The matrix of fractions.
  append(s, make([]byte, k)...) onto a slice of the call's own.
  A matrix at work: its rows in memory; how it begins.
  A matrix at work begins.
  The first row that has something in a column.
  A column is made nought in all rows but one.
  Elimination, column by column.
  The inverse.
  The product of two matrices.
  The coder: how it lies; its small functions.
  How a shard comes of the data.
  A coder is made.
  How the data comes of k shards.
  The factors by which a shard is the sum of k others.
  A shard as the sum of others; which shards there are.
  Which shards there are, and whether they are alike.
  The numbers of the shards that have bytes, or why they aren't enough.
  The first rows of shards, those that are missing made anew.
  Whether all are shards' numbers, and none stands twice.
  A list, rising.
-/
import Derived.Test.YtihnlhfngmbglaaGreatRows
import Derived.Test.YtihnlhfngmbglaaGreatLt1
import Derived.Test.YtihnlhfngmbglaaGreatLt3
import Derived.IntWalk
import Derived.Lib.SliceRun
import Derived.Lib.AppendZerosOnto
set_option linter.unusedSimpArgs false
set_option linter.unusedVariables false
namespace Go.Proofs.YtihnlhfngmbglaaGreat
open Go.RowKit Go.Cib
attribute [local go_sem] cell_set Later.cell Later.frozen Grw.cell Grw.frozen
section

def ByR (_ : Nat → Prop) (_ : World) (cs : List Value) (x : Nat) : Prop := x < 256 ∧ cs = [.int .u8 (x : Int)]
theorem ByR.stable : Stable ByR := fun _ _ _ _ _ _ h _ => h
theorem ByR.one : ∀ S w cs x, ByR S w cs x → ∀ u ∈ cs, u.oneCell' = true := by
  rintro S w cs x ⟨_, rfl⟩ u hu
  simp at hu
  subst hu; rfl
theorem sl_by : SlTy Tryz.prog 68 5 (.int .u8 0) 1 1 := ⟨by kernel_rfl, by kernel_rfl, by kernel_rfl, by omega⟩
theorem by_at {S : Nat → Prop} {w : World} {b o n : Nat} {xs : List Nat} (h : RdL ByR 1 S w (some ⟨b, o, none⟩) n xs) {k : Nat} (hk : k < n) : w.cell? ⟨b, o + k, none⟩ = some (.int .u8 (gt xs k)) ∧ gt xs k < 256 := by
  obtain ⟨hl, cs, _, ⟨h1, rfl⟩, h2⟩ := h.at hk
  have e : gt xs k = xs[k] := by unfold gt; rw [List.getD_eq_getElem?_getD, List.getElem?_eq_getElem hl]; rfl
  rw [e]
  refine ⟨?_, h1⟩
  have := h2 0 _ rfl
  rwa [Nat.mul_one, Nat.add_zero] at this
theorem by_byt {S : Nat → Prop} {w : World} {A : Option Addr} {n : Nat} {xs : List Nat} (h : RdL ByR 1 S w A n xs) : Byt xs := fun x hx => by
  obtain ⟨i, hi, rfl⟩ := List.mem_iff_getElem.1 hx
  obtain ⟨b, o, rfl, _, _⟩ := h.addr (k := i) (by rw [← h.1]; exact hi)
  obtain ⟨_, cs, _, ⟨h1, _⟩, _⟩ := h.at (k := i) (by rw [← h.1]; exact hi)
  exact h1

/-- A row of bytes at the beginning of a block. -/
structure RowIn (w : World) (g : Nat) (cur : Array Value) (xs : List Nat) : Prop where
  box : BoxAt w g cur
  len : xs.length ≤ cur.size
  cells : ∀ i, i < xs.length → cur[i]? = some (.int .u8 (gt xs i))
  byt : Byt xs
section
variable {w w' : World} {g : Nat} {cur : Array Value} {xs : List Nat}
theorem RowIn.below (h : RowIn w g cur xs) (hb : Below w.heap.size w w') : RowIn w' g cur xs := ⟨h.box.below hb, h.len, h.cells, h.byt⟩
theorem RowIn.alloc (h : RowIn w g cur xs) (o : Obj) : RowIn (w.alloc o) g cur xs := ⟨h.box.alloc o, h.len, h.cells, h.byt⟩
theorem RowIn.drew (h : RowIn w g cur xs) : RowIn w.drew g cur xs := ⟨h.box.keep rfl, h.len, h.cells, h.byt⟩
theorem RowIn.cell (h : RowIn w g cur xs) {i : Nat} (hi : i < xs.length) : w.cell? ⟨g, i, none⟩ = some (.int .u8 (gt xs i)) := (h.box.cell i).trans (h.cells i hi)
theorem RowIn.frozen (h : RowIn w g cur xs) (i : Nat) : w.frozen? ⟨g, i, none⟩ = false := h.box.frozen i
theorem gt_set (xs : List Nat) (i x : Nat) {k : Nat} (hk : k < xs.length) : gt (xs.set i x) k = if k = i then x else gt xs k := by
  unfold gt
  rw [List.getD_eq_getElem?_getD, List.getD_eq_getElem?_getD, List.getElem?_set]
  split
  · rename_i h
    subst h
    rw [if_pos rfl, if_pos hk]; rfl
  · rename_i h
    rw [if_neg (fun e => h e.symm)]
theorem byt_set {xs : List Nat} (h : Byt xs) {i x : Nat} (hx : x < 256) : Byt (xs.set i x) := fun y hy => by
  rcases List.mem_or_eq_of_mem_set hy with h1 | h1
  · exact h y h1
  · rw [h1]; exact hx
theorem RowIn.set (h : RowIn w g cur xs) {i x : Nat} (hi : i < xs.length) (hx : x < 256) : RowIn (w.setCell ⟨g, i, none⟩ (.int .u8 (x : Int))) g (cur.setIfInBounds i (.int .u8 (x : Int))) (xs.set i x) where
  box := h.box.set i _
  len := by rw [List.length_set, Array.size_setIfInBounds]; exact h.len
  cells k hk := by
    rw [List.length_set] at hk
    have hl := h.len
    rw [gt_set _ _ _ hk, Array.getElem?_setIfInBounds]
    by_cases e : k = i
    · subst e
      rw [if_pos rfl, if_pos (by omega), if_pos rfl]
    · rw [if_neg (fun h => e h.symm), if_neg e]; exact h.cells k hk
  byt := byt_set h.byt hx
theorem RowIn.rd (h : RowIn w g cur xs) {S : Nat → Prop} (hS : S g) : RdL ByR 1 S w (some ⟨g, 0, none⟩) xs.length xs := ⟨rfl, fun _ => ⟨g, 0, rfl, hS, h.box.lt, fun i x hx => by
  have hi := (List.getElem?_eq_some_iff.1 hx).1
  refine ⟨[.int .u8 (x : Int)], rfl, ⟨h.byt x (List.mem_of_getElem? hx), rfl⟩, fun j v hj => ?_⟩
  have hj0 : j = 0 := by
    have := (List.getElem?_eq_some_iff.1 hj).1
    simp at this; exact this
  subst hj0
  simp at hj
  subst hj
  rw [show 0 + i * 1 + 0 = i by omega, h.cell hi, (Option.some.inj ((gt_of_lt hi).symm.trans hx))]⟩⟩
theorem RowIn.of_own {E : TypeId} {base n : Nat} {S : Nat → Prop} {v : Value} (h : OwnL ByR E 1 base S w v n xs) (hn : 0 < n) : ∃ g cap cur, v = .slice (some ⟨g, 0, none⟩) n cap ∧ base ≤ g ∧ n ≤ cap ∧ xs.length = n ∧ RowIn w g cur xs := by
  obtain ⟨A, cap, rfl, hc, hr⟩ := h.rd (S' := fun k => base ≤ k) (fun _ hk => hk) (fun cs x hx => hx)
  obtain ⟨css, h1, h2, h3, h4, h5⟩ := h
  rcases h1.2 with ⟨_, e⟩ | ⟨g, cap', cur, e, hg, hblk, hnc, hcm, hsz, ht⟩
  · omega
  · injection e with e1 e2 e3
    subst e1; subst e3
    refine ⟨g, cap, cur, rfl, hg, hc, h2, ⟨_, hblk⟩, ?_, fun i hi => ?_, by_byt hr⟩
    · rw [hsz]; omega
    · have h7 := (by_at hr (k := i) (by omega)).1
      rw [Nat.zero_add] at h7
      rw [← h7]
      exact (BoxAt.cell (w := w) (b := g) (cs := cur) ⟨_, hblk⟩ i).symm
theorem madeCells_r (k : Nat) (v : Value) : madeCells #[v] k = Array.replicate k v := by
  apply Array.ext
  · simp [madeCells]
  · intro i h1 h2
    simp [madeCells, Nat.mod_one]
end
theorem byInfo : (Tryz.prog.info? 5).map (fun i => (i.zero, i.size, i.bytes)) = some (some (.int .u8 0), 1, 1) := by kernel_rfl
theorem makeBy (k : Nat) (hk : k ≤ 17592186043904) (w : World) : (Instr.makeSlice 68 (.int .i64 (k : Int)) (.int .i64 (k : Int))).run Tryz.prog w = .ok (.slice (some ⟨w.heap.size, 0, none⟩) k k) (w.alloc (.cells (Array.replicate k (.int .u8 0)) 5)) := by
  obtain ⟨i, hi, hz, hs, hb⟩ := info_parts byInfo
  have h := run_make (P := Tryz.prog) w 68 5 i (.int .u8 0) (by kernel_rfl) hi hz .i64 .i64 k k (by omega) (by omega) (by rw [hb]; omega) (by omega)
  simp only [Int.toNat_natCast, hs, Nat.mul_one] at h
  rw [h, show (Value.int .u8 0).cells = #[.int .u8 0] from rfl, madeCells_r]
theorem RowIn.made (w : World) (k : Nat) (t : TypeId) : RowIn (w.alloc (.cells (Array.replicate k (.int .u8 0)) t)) w.heap.size (Array.replicate k (.int .u8 0)) (List.replicate k 0) where
  box := BoxAt.new _ _ _
  len := by simp
  cells i hi := by
    rw [List.length_replicate] at hi
    rw [Array.getElem?_replicate, if_pos hi]
    unfold gt
    rw [List.getD_eq_getElem?_getD, List.getElem?_replicate, if_pos hi]; rfl
  byt x hx := by rw [(List.mem_replicate.1 hx).2]; omega
end
section

/-- A quotient. -/
def dv (a c : Nat) : Nat := gm a (inv c)
theorem xor_bits {a c : Nat} (ha : a < 256) (hc : c < 256) : bits .xor .u8 (a : Int) (c : Int) = ((a ^^^ c : Nat) : Int) := by
  unfold bits
  have h := xor_lt ha hc
  have e : (BitVec.ofInt 8 (a : Int) ^^^ BitVec.ofInt 8 (c : Int)).toNat = a ^^^ c := by
    rw [BitVec.toNat_xor, BitVec.ofInt_natCast, BitVec.ofInt_natCast, BitVec.toNat_ofNat, BitVec.toNat_ofNat, show a % 2 ^ 8 = a by omega, show c % 2 ^ 8 = c by omega]
  show IntKind.u8.wrap ((BitVec.ofInt 8 (a : Int) ^^^ BitVec.ofInt 8 (c : Int)).toNat : Int) = _
  rw [e, IntKind.wrap_u8]
  omega
theorem lg_lt {a : Nat} (h0 : a ≠ 0) (h : a < 256) : lg a < 255 := (ex_lg h0 h).2
theorem dv_eq {a c : Nat} (h0 : a ≠ 0) (ha : a < 256) (hc0 : c ≠ 0) (hc : c < 256) : ex (lg a + 255 - lg c) = dv a c := by
  have h1 := lg_lt h0 ha
  have h2 := lg_lt hc0 hc
  unfold dv gm
  rw [if_neg (fun h => h.elim h0 (inv_ne hc0 hc))]
  unfold inv
  rw [lg_ex]
  exact ex_congr (by omega)
set_option maxRecDepth 100000 in
set_option maxHeartbeats 1600000 in
theorem mul_any {w : World} {b a c : Nat} (F : Fld w b) (ha : a < 256) (hc : c < 256) :
    Calls Tryz.prog 239 #[.pointer (some ⟨b, 4, none⟩), .int .u8 (a : Int), .int .u8 (c : Int)] w fun e w' => e = .returned (.int .u8 (gm a c : Int)) ∧ Below w.heap.size w w' := by
  go_enter Tryz.func239, Tryz.ntmps239
  by_cases a0 : a = 0
  · subst a0
    rw [zero_gm]
    go_wp2_with fail
    go_ret
    exact ⟨rfl, Below.refl _ _⟩
  · have e1 : ((a : Int) == 0) = false := by simpa using (by omega : ¬ a = 0)
    by_cases c0 : c = 0
    · subst c0
      rw [gm_zero]
      go_wp2_with fail
      go_ret
      exact ⟨rfl, Below.refl _ _⟩
    · have e2 : ((c : Int) == 0) = false := by simpa using (by omega : ¬ c = 0)
      have h1 := lg_lt a0 ha
      have h2 := lg_lt c0 hc
      have l1 := F.log a a0 ha
      have l2 := F.log c c0 hc
      have x1 := F.exp (lg a + lg c) (by omega)
      have hg : gm a c = ex (lg a + lg c) := by unfold gm; rw [if_neg (fun h => h.elim a0 c0)]
      rw [← hg] at x1
      have hb := F.lt
      clear F hg
      have q1 : (a : Int) < 256 := by omega
      have q2 : (c : Int) < 256 := by omega
      have q3 : IntKind.i64.wrap ((lg a : Int) + (lg c : Int)) = ((lg a + lg c : Nat) : Int) := by rw [IntKind.wrap_i64]; omega
      have q4 : (0 : Int) ≤ ((lg a + lg c : Nat) : Int) := Int.natCast_nonneg _
      have q5 : ((lg a + lg c : Nat) : Int) < 510 := by omega
      have q6 : (0 : Int) ≤ (a : Int) := Int.natCast_nonneg _
      have q7 : (0 : Int) ≤ (c : Int) := Int.natCast_nonneg _
      go_wp2_with fail
      refine wp_region_later (by kernel_rfl) (by kernel_rfl) ?_
      repeat (go_big_quiet_step (fail))
      refine wpQuiet_nil ?_
      rintro _ ⟨z, rfl⟩
      go_wp2_with fail
      go_ret
      exact ⟨rfl, z.ok⟩

set_option maxRecDepth 100000 in
set_option maxHeartbeats 1600000 in
theorem div_any {w : World} {b a c : Nat} (F : Fld w b) (ha : a < 256) (hc0 : c ≠ 0) (hc : c < 256) :
    Calls Tryz.prog 166 #[.pointer (some ⟨b, 0, none⟩), .int .u8 (a : Int), .int .u8 (c : Int)] w fun e w' => e = .returned (.tuple #[.int .u8 (dv a c : Int), .int .i64 0]) ∧ Below w.heap.size w w' := by
  have hR := ready_any F
  have e2 : ((c : Int) == 0) = false := by simpa using hc0
  go_enter Tryz.func166, Tryz.ntmps166
  by_cases a0 : a = 0
  · subst a0
    have hz : dv 0 c = 0 := zero_gm _
    rw [hz]
    go_wp2_with (go_at_call 199; refine hR.mono ?_; rintro e w' ⟨rfl, rfl⟩)
    go_ret2
    exact ⟨rfl, Below.refl _ _⟩
  · have e1 : ((a : Int) == 0) = false := by simpa using (by omega : ¬ a = 0)
    have h1 := lg_lt a0 ha
    have h2 := lg_lt hc0 hc
    have l1 := F.log a a0 ha
    have l2 := F.log c hc0 hc
    have x1 := F.exp (lg a + 255 - lg c) (by omega)
    rw [dv_eq a0 ha hc0 hc] at x1
    have hb := F.lt
    clear F
    have q1 : (a : Int) < 256 := by omega
    have q2 : (c : Int) < 256 := by omega
    have q3 : IntKind.i64.wrap ((lg a : Int) - (lg c : Int)) = (lg a : Int) - (lg c : Int) := by rw [IntKind.wrap_i64]; omega
    have q8 : IntKind.i64.wrap ((lg a : Int) - (lg c : Int) + 255) = ((lg a + 255 - lg c : Nat) : Int) := by rw [IntKind.wrap_i64]; omega
    have q4 : (0 : Int) ≤ ((lg a + 255 - lg c : Nat) : Int) := Int.natCast_nonneg _
    have q5 : ((lg a + 255 - lg c : Nat) : Int) < 510 := by omega
    have q6 : (0 : Int) ≤ (a : Int) := Int.natCast_nonneg _
    have q7 : (0 : Int) ≤ (c : Int) := Int.natCast_nonneg _
    go_wp2_with (go_at_call 199; refine hR.mono ?_; rintro e w' ⟨rfl, rfl⟩)
    refine wp_region_later (by kernel_rfl) (by kernel_rfl) ?_
    repeat (go_big_quiet_step (fail))
    refine wpQuiet_nil ?_
    rintro _ ⟨z, rfl⟩
    go_wp2_with fail
    go_ret2
    exact ⟨rfl, z.ok⟩
end
section

theorem RdL.take {X : Type} {R : (Nat → Prop) → World → List Value → X → Prop} {s : Nat} {S : Nat → Prop} {w : World} {A : Option Addr} {n : Nat} {xs : List X}
    (h : RdL R s S w A n xs) {k : Nat} (hk : k ≤ n) : RdL R s S w A k (xs.take k) := by
  refine ⟨by rw [List.length_take, h.1]; omega, fun hp => ?_⟩
  obtain ⟨b, o, h1, h2, h3, h4⟩ := h.2 (by omega)
  exact ⟨b, o, h1, h2, h3, fun i x hx => by
    rw [List.getElem?_take] at hx
    split at hx
    · exact h4 i x hx
    · cases hx⟩
theorem RdL.drop {X : Type} {R : (Nat → Prop) → World → List Value → X → Prop} {s : Nat} {S : Nat → Prop} {w : World} {b o : Nat} {n : Nat} {xs : List X}
    (h : RdL R s S w (some ⟨b, o, none⟩) n xs) {k : Nat} (hk : k ≤ n) : RdL R s S w (some ⟨b, o + k * s, none⟩) (n - k) (xs.drop k) := by
  refine ⟨by rw [List.length_drop, h.1], fun hp => ?_⟩
  obtain ⟨b', o', h1, h2, h3, h4⟩ := h.2 (by omega)
  cases h1
  refine ⟨b, o + k * s, rfl, h2, h3, fun i x hx => ?_⟩
  rw [List.getElem?_drop] at hx
  obtain ⟨cs, e1, e2, e3⟩ := h4 (k + i) x hx
  refine ⟨cs, e1, e2, fun j v hj => ?_⟩
  have := e3 j v hj
  rwa [show o + (k + i) * s + j = o + k * s + i * s + j by rw [Nat.add_mul]; omega] at this
end
section
theorem piece_pre {T E : TypeId} {z : Value} {s b : Nat} (st : SlTy Tryz.prog T E z s b) {A : Option Addr} {N c k : Nat} (hk : k ≤ c) (w : World) : (Instr.slice T (.slice A N c) none (some (.int .i64 (k : Int))) none).run Tryz.prog w = .ok (.slice A k c) w := by
  obtain ⟨i, hi, hz, hsz, hby⟩ := info_parts st.info
  have hel : Tryz.prog.elem T = E := by simp [Program.elem, st.und]
  have ht : Tryz.prog.underlying T = some (.slice (Tryz.prog.elem T)) := by rw [hel]; exact st.und
  rw [run_slice_h (t := T) (ht := ht) (h0 := Int.natCast_nonneg _) (h2 := by omega)]
  have hs : (sizeOf (Tryz.prog.elem T)).run Tryz.prog w = .ok s w := by
    rw [hel]; simp [sizeOf, typeInfo, hi, hsz]
  rw [hs]
  simp only [Result.andThen, sliced, Int.toNat_natCast, Nat.sub_zero, Nat.zero_mul]
  have e : (if c = 0 then A else Option.map (fun x : Addr => x.add 0) A) = A := by
    split
    · rfl
    · cases A <;> simp [Addr.add]
  rw [e]
theorem piece_suf {T E : TypeId} {z : Value} {s b : Nat} (st : SlTy Tryz.prog T E z s b) {A : Option Addr} {N c k : Nat} (hk : k ≤ N) (w : World) : (Instr.slice T (.slice A N c) (some (.int .i64 (k : Int))) none none).run Tryz.prog w = .ok (.slice (if c = k then A else A.map (fun x : Addr => x.add (k * s))) (N - k) (c - k)) w := by
  obtain ⟨i, hi, hz, hsz, hby⟩ := info_parts st.info
  have hel : Tryz.prog.elem T = E := by simp [Program.elem, st.und]
  have ht : Tryz.prog.underlying T = some (.slice (Tryz.prog.elem T)) := by rw [hel]; exact st.und
  rw [run_slice_l (t := T) (ht := ht) (h0 := Int.natCast_nonneg _) (h1 := by omega)]
  have hs : (sizeOf (Tryz.prog.elem T)).run Tryz.prog w = .ok s w := by
    rw [hel]; simp [sizeOf, typeInfo, hi, hsz]
  rw [hs]
  simp only [Result.andThen, sliced, Int.toNat_natCast]
theorem piece_rd {X : Type} {R : (Nat → Prop) → World → List Value → X → Prop} {s : Nat} {S : Nat → Prop} {w : World} {A : Option Addr} {n c : Nat} {xs : List X} (h : RdL R s S w A n xs) (hn : n ≤ c) {k : Nat} (hk : k ≤ n) : RdL R s S w (if c = k then A else A.map (fun x : Addr => x.add (k * s))) (n - k) (xs.drop k) := by
  by_cases hkn : k = n
  · subst hkn
    rw [Nat.sub_self, List.drop_of_length_le (by rw [h.1]; exact Nat.le_refl _)]
    exact RdL.nil
  · rw [if_neg (by omega)]
    obtain ⟨b, o, rfl, _⟩ := h.addr (k := k) (by omega)
    have e : Option.map (fun x : Addr => x.add (k * s)) (some ⟨b, o, none⟩) = some ⟨b, o + k * s, none⟩ := by
      simp only [Option.map_some, Addr.add]
      split
      · rename_i e; rw [e]; rfl
      · rfl
    rw [e]
    exact RdL.drop h hk
/-- A builtin's law at a list of operations, as a step of a region that draws its order. -/
theorem step_law {P : Program} {ops : Array Oper} {o : Oper} {a : Act} {w : World} {K : Act → World → Prop} {Q : Exit → Act → World → Prop} {X : Prop} (hgd : o.guard = none)
    (h : wpList P ops (fun e a w => e = .normal ∧ K a w) [o] a w) : if Region.wanted o (yielded ops a.tmps) = true then Oper.wp P o a w K Q else X := by
  have hw : Region.wanted o (yielded ops a.tmps) = true := by simp [Region.wanted, hgd]
  rw [if_pos hw]
  unfold wpList at h
  rw [if_pos hw] at h
  rcases h with h | ⟨_, a', w', h, _⟩
  · unfold Oper.wp at h ⊢
    generalize (execOp a.eval o).run P w = r at *
    cases r with
    | ok n w' =>
      cases n <;> simp only [Oper.upon, wpList] at h ⊢
      case value v => exact h.2
      case skip => exact h.2
      case defer d => exact h.2
      case enter f args =>
        refine Calls.mono h fun e w'' he => ?_
        cases e with
        | returned u => exact he.2
        | panicked c => cases he.1
        | outgrown => obtain ⟨_, _, he, _⟩ := he; cases he
      case row row args => exact Rows.mono h fun u w'' he => he.2
    | halt x w' =>
      cases x <;> simp only [Oper.upon] at h ⊢
      case panic v => cases h.1
  · cases h
end
section
theorem run_min_b (ts : Array TypeId) (t : TypeId) (x y : Int) (w : World) : (Builtin.min_ ts t #[.int .i64 x, .int .i64 y]).run Tryz.prog w = .ok (.int .i64 (min x y)) w := by
  rw [run_min_int2, show (if y < x then y else x) = min x y by omega]
attribute [local go_sem ↓] run_min_b

/-- A row of bytes of the call's own. -/
structure RowV (w : World) (base : Nat) (A : Option Addr) (n : Nat) (xs : List Nat) : Prop where
  len : xs.length = n
  byt : Byt xs
  row : 0 < n → ∃ g cur, A = some ⟨g, 0, none⟩ ∧ base ≤ g ∧ RowIn w g cur xs
theorem RowV.below {w w' : World} {base n : Nat} {A : Option Addr} {xs : List Nat} (h : RowV w base A n xs) (hb : Below w.heap.size w w') : RowV w' base A n xs := ⟨h.len, h.byt, fun hn => by
  obtain ⟨g, cur, h1, h2, h3⟩ := h.row hn
  exact ⟨g, cur, h1, h2, h3.below hb⟩⟩
theorem RowV.rd {w : World} {base n : Nat} {A : Option Addr} {xs : List Nat} (h : RowV w base A n xs) {S : Nat → Prop} (hS : ∀ k, base ≤ k → S k) : RdL ByR 1 S w A n xs := by
  rcases Nat.eq_zero_or_pos n with hn | hn
  · subst hn
    rw [List.length_eq_zero_iff.1 h.len]; exact RdL.nil
  · obtain ⟨g, cur, rfl, h2, h3⟩ := h.row hn
    have := h3.rd (S := S) (hS g h2)
    rwa [h.len] at this
theorem RowV.of_own {w : World} {E : TypeId} {base n c : Nat} {S : Nat → Prop} {A : Option Addr} {xs : List Nat} (h : OwnL ByR E 1 base S w (.slice A n c) n xs) : RowV w base A n xs where
  len := h.len
  byt := by
    obtain ⟨A', c', e, _, hr⟩ := h.rd (S' := fun k => base ≤ k) (fun _ hk => hk) (fun cs x hx => hx)
    exact by_byt hr
  row hn := by
    obtain ⟨g, cap, cur, e, h1, _, _, h2⟩ := RowIn.of_own h hn
    injection e with e1
    exact ⟨g, cur, e1, h1, h2⟩
theorem fd_take {c k : Nat} {xs ys : List Nat} (hk : k < xs.length) (hk2 : k < ys.length) :
    fd c (xs.take (k + 1)) ys = (fd c (xs.take k) ys).set k (gt ys k ^^^ gm c (gt xs k)) ∧ gt (fd c (xs.take k) ys) k = gt ys k := by
  have ht : ∀ j i, gt (xs.take j) i = if i < j then gt xs i else 0 := fun j i => by
    unfold gt
    rw [List.getD_eq_getElem?_getD, List.getElem?_take]
    split
    · rw [List.getD_eq_getElem?_getD]
    · rfl
  have hl : ∀ j, j ≤ k + 1 → (xs.take j).length ≤ ys.length := fun j hj => by rw [List.length_take]; omega
  refine ⟨gt_ext (by rw [fd_len, List.length_set, fd_len]) fun i hi => ?_, ?_⟩
  · rw [fd_len] at hi
    rw [fd_gt _ _ _ _ (hl _ (Nat.le_refl _)), gt_set _ _ _ (by rw [fd_len]; exact hi), ht]
    by_cases e : i = k
    · subst e
      rw [if_pos (by omega), if_pos rfl]
    · rw [if_neg e, fd_gt _ _ _ _ (hl _ (by omega)), ht]
      by_cases h : i < k
      · rw [if_pos (by omega), if_pos h]
      · rw [if_neg (by omega), if_neg h]
  · rw [fd_gt _ _ _ _ (hl _ (by omega)), ht, if_neg (by omega), gm_zero, Nat.xor_zero]
theorem fd_min {c : Nat} : ∀ (xs ys : List Nat), fd c (xs.take (min xs.length ys.length)) ys = fd c xs ys
  | [], _ => rfl
  | _ :: _, [] => rfl
  | x :: xs, y :: ys => by
    have := fd_min (c := c) xs ys
    simp only [List.length_cons, Nat.add_min_add_right, List.take_succ_cons]
    show _ :: fd c _ ys = _ :: fd c xs ys
    rw [this]

set_option maxRecDepth 100000 in
set_option maxHeartbeats 1600000 in
theorem fold_any {w : World} {b c n cp n2 cp2 : Nat} {S S2 : Nat → Prop} {A A2 : Option Addr} {xs ys : List Nat} (F : Fld w b) (hc : c < 256) (R : RdL ByR 1 S w A n xs) (hn : n ≤ 1000000) (hcp : n ≤ cp)
    (R2 : RdL ByR 1 S2 w A2 n2 ys) (hn2 : n2 ≤ 1000000) :
    Calls Tryz.prog 210 #[.pointer (some ⟨b, 0, none⟩), .int .u8 (c : Int), .slice A n cp, .slice A2 n2 cp2] w fun e w' => ∃ A' c', e = .returned (.slice A' n2 c') ∧ n2 ≤ c' ∧ RdL ByR 1 (fun k => w.heap.size ≤ k) w' A' n2 (fd c xs ys) ∧ Below w.heap.size w w' := by
  have hR := ready_any F
  have hlen := R.1
  have hlen2 := R2.1
  have HR := Lib.hid R
  have HR2 := Lib.hid R2
  have HF := Lib.hid F
  have q0 : (0 : Int) ≤ (n : Int) := Int.natCast_nonneg _
  have q1 : (n : Int) ≤ 1000000 := by omega
  have q2 : (0 : Int) ≤ (n2 : Int) := Int.natCast_nonneg _
  have q3 : (n2 : Int) ≤ 1000000 := by omega
  obtain ⟨m, hm⟩ : ∃ m, m = min n n2 := ⟨_, rfl⟩
  have e1 : min (n : Int) (n2 : Int) = (m : Int) := by omega
  have hpc := fun w => piece_pre sl_by (A := A) (N := n) (c := cp) (k := m) (by omega) w
  clear R F R2
  go_enter Tryz.func210, Tryz.ntmps210
  go_wp2_with (first | (go_at_call 199; refine hR.mono ?_; rintro e w' ⟨rfl, rfl⟩) | (at_builtin; refine wpList_appL ByR.stable ByR.one sl_by rfl (by exact rfl) (base := w'.heap.size) (S := fun _ => True) (n := 0) (v := .slice none 0 0) (xs := []) (by exact rfl) OwnL.nil_ (by exact rfl) HR2.out (fun _ _ h => h) (by unfold maxLen; omega) (by omega) (Nat.le_refl _) ?_; intro A3 c3 w3 hc3 hown3 hg3 hat; simp only [Nat.zero_add, List.nil_append] at hc3 hown3 ⊢))
  have V0 := Lib.hid (RowV.of_own hown3)
  have B0 := Lib.hid (show Below w'.heap.size w' w3 from ⟨hg3.os, hg3.tape, hg3.output, hg3.size, fun k hk => hg3.block k hk (by intro h; cases h)⟩)
  clear hown3 hg3 hat hR
  go_loopw [27] (fun vi wr => ∃ (k : Nat), k ≤ m ∧ vi = .int .i64 k ∧ Hid (RowV wr w'.heap.size A3 n2 (fd c (xs.take k) ys)) ∧ Hid (Below w'.heap.size w' wr)) (fun vi _ => m - (intOf vi).toNat)
  case atStart => exact ⟨0, Nat.zero_le _, rfl, by rw [List.take_zero]; exact V0, B0⟩
  case round =>
    obtain ⟨k, hk, rfl, RW, HB⟩ := hrel
    have p0 : (0 : Int) ≤ (k : Int) := Int.natCast_nonneg _
    by_cases hlt : k < m
    · have p1 : (k : Int) < (m : Int) := by omega
      have p2 : (k : Int) < (n2 : Int) := by omega
      have p9 : k < min n n2 := by omega
      have hkn : k < n := by omega
      have hkn2 : k < n2 := by omega
      obtain ⟨bb, o, rfl, _, hbb⟩ := HR.out.addr hkn
      obtain ⟨c1, x1⟩ := by_at HR.out hkn
      replace c1 := (HB.out.cell (p := ⟨bb, o + k, none⟩) hbb).trans c1
      obtain ⟨g, cur, rfl, hgb, RI⟩ := RW.out.row (by omega)
      obtain ⟨t1, t2⟩ := fd_take (c := c) (xs := xs) (ys := ys) (k := k) (by omega) (by omega)
      have hfl : (fd c (xs.take k) ys).length = n2 := by rw [fd_len, hlen2]
      have c0 := RI.cell (i := k) (by rw [hfl]; exact hkn2)
      rw [t2] at c0
      have f0 := RI.frozen k
      have y1 : gt ys k < 256 := gt_lt (by_byt HR2.out) k
      have HRI := Lib.hid RI
      have HT := Lib.hid t1
      have HL := Lib.hid hfl
      have HGB := Lib.hid hgb
      have hxb := xor_bits y1 (gm_lt (a := c) (b := gt xs k))
      have hmul := mul_any ((HF.out.below HB.out).keep (w' := wr.drew) rfl) hc x1
      clear t1 t2 hfl RI hgb hm e1 hkn
      go_wp2_with fail
      refine wp_region_L (S := fun w' => w'.cell? ⟨g, k, none⟩ = some (.int .u8 (gt ys k : Int)) ∧ w'.frozen? ⟨g, k, none⟩ = false) [12] (by kernel_rfl) (by first | exact ⟨c0, f0⟩ | exact ⟨c2, f2⟩) (fun hHeld => ?_)
      refine tkL 0 rfl ?_
      refine tkL 1 rfl ?_
      refine tkL 2 rfl ?_
      refine tkL 3 rfl ?_
      refine tkL 4 rfl ?_
      refine tkL 5 rfl ?_
      refine tkL 6 rfl ?_
      refine tkL 7 rfl ?_
      refine tkL 8 rfl ?_
      refine rdL 9 rfl fun K hK => ?_
      try simp (maxSteps := 2000000) only [zz1, zz2, zz3]
      go_simp
      go_at_call 239
      refine hmul.mono ?_
      rintro e w2 ⟨rfl, hb2⟩
      have c2 := (hb2.cell (p := ⟨g, k, none⟩) HRI.out.box.lt).trans c0
      have f2 := (HRI.out.drew.below hb2).frozen k
      have HB2 := Lib.hid hb2
      clear hmul hb2
      try (go_wp2_with fail)
      refine hK.out _ _ (by first | exact ⟨c0, f0⟩ | exact ⟨c2, f2⟩) (fun hHeld => ?_)
      clear hK K
      try simp (maxSteps := 2000000) only [zz1, zz2, zz3, Act.put, zz4, zz5, zz6]
      refine tkL 10 rfl ?_
      refine tkL 11 rfl ?_
      refine lsL 12 rfl fun K hK => ?_
      try simp (maxSteps := 2000000) only [zz1, zz2, zz3]
      go_simp
      refine hK.out _ _ ?_
      clear hK K
      try simp (maxSteps := 2000000) only [zz1, zz2, zz3, Act.put, zz4, zz5, zz6]
      refine wpAnyL_done (by kernel_rfl) ?_ _
      have r5 := (HRI.out.drew.below HB2.out).set (i := k) (x := gt ys k ^^^ gm c (gt xs k)) (by rw [HL.out]; exact hkn2) (xor_lt y1 gm_lt)
      rw [← HT.out] at r5
      have hb3 : Below w'.heap.size w' w2 := HB.out.drew.trans (HB2.out.mono HB.out.size)
      have b5 : Below w'.heap.size w' (w2.setCell ⟨g, k, none⟩ (.int .u8 ((gt ys k ^^^ gm c (gt xs k) : Nat) : Int))) := Below.setCell hb3 HGB.out _
      have hv : RowV (w2.setCell ⟨g, k, none⟩ (.int .u8 ((gt ys k ^^^ gm c (gt xs k) : Nat) : Int))) w'.heap.size (some ⟨g, 0, none⟩) n2 (fd c (xs.take (k + 1)) ys) := ⟨by rw [fd_len, hlen2], r5.byt, fun _ => ⟨g, _, rfl, HGB.out, r5⟩⟩
      have V5 := Lib.hid hv
      have B5 := Lib.hid b5
      clear hv b5 r5 hb3 c2 f2 c0 f0 hHeld
      go_wp2_with fail
      exact ⟨⟨k + 1, by omega, by go_num, V5, B5⟩, by simp [intOf]; omega⟩
    · have p9 : ¬ k < min n n2 := by omega
      have p1 : ¬ (k : Int) < (m : Int) := by omega
      obtain rfl : k = m := by omega
      rw [hm, ← hlen, ← hlen2, fd_min, hlen2] at RW
      clear hpc e1 hm
      go_wp2_with fail
      go_ret
      exact ⟨A3, c3, rfl, hc3, RW.out.rd (fun _ h => h), HB.out⟩
end
section

theorem within_any {w : World} (n : Int) : Calls Tryz.prog 162 #[.int .i64 n] w fun e w' => e = .returned (.bool (decide (1 ≤ n ∧ n ≤ 255))) ∧ w' = w := by
  go_enter Tryz.func162, Tryz.ntmps162
  by_cases h1 : 1 ≤ n
  · by_cases h2 : n ≤ 255
    · have e : decide (1 ≤ n ∧ n ≤ 255) = true := by simp; omega
      rw [e]
      have h3 : n ≥ 1 := h1
      go_wp2_with fail
      go_ret
      exact ⟨rfl, rfl⟩
    · have e : decide (1 ≤ n ∧ n ≤ 255) = false := by simp; omega
      rw [e]
      have h3 : n ≥ 1 := h1
      go_wp2_with fail
      go_ret
      exact ⟨rfl, rfl⟩
  · have e : decide (1 ≤ n ∧ n ≤ 255) = false := by simp; omega
    rw [e]
    have h3 : ¬ n ≥ 1 := h1
    go_wp2_with fail
    go_ret
    exact ⟨rfl, rfl⟩

/-- Row by row. -/
def flatU (f : Nat → Nat → Nat) (cols i j : Nat) : List Nat := ((List.range i).flatMap fun a => (List.range cols).map (f a)) ++ (List.range j).map (f i)
def flatF (f : Nat → Nat → Nat) (rows cols : Nat) : List Nat := (List.range rows).flatMap fun a => (List.range cols).map (f a)
theorem flatU_zero (f : Nat → Nat → Nat) (cols i : Nat) : flatU f cols i 0 = flatF f i cols := by unfold flatU flatF; simp
theorem flatU_next (f : Nat → Nat → Nat) (cols i j : Nat) : flatU f cols i (j + 1) = flatU f cols i j ++ [f i j] := by unfold flatU; rw [List.range_succ, List.map_append, List.append_assoc]; rfl
theorem flatU_row (f : Nat → Nat → Nat) (cols i : Nat) : flatU f cols i cols = flatF f (i + 1) cols := by unfold flatU flatF; rw [List.range_succ, List.flatMap_append]; simp

structure FilI (w0 wr : World) (rb q rows cols n : Nat) (A : Option Addr) (c : Nat) (xs : List Nat) : Prop where
  own : OwnL ByR 5 1 (rb + 1) (fun _ => True) wr (.slice A n c) n xs
  bq : BoxAt wr q #[.int .i64 rows, .int .i64 cols, .slice A n c]
  br : BoxAt wr rb #[.int .i64 0, .int .i64 0, .slice none 0 0]
  nq : some q ≠ (Value.slice A n c).ownBlock
  nr : some rb ≠ (Value.slice A n c).ownBlock
  qr : rb ≠ q
  hr : w0.heap.size ≤ rb
  hq : w0.heap.size ≤ q
  bel : Below w0.heap.size w0 wr
theorem FilI.below {w0 wr w2 : World} {rb q rows cols n : Nat} {A : Option Addr} {c : Nat} {xs : List Nat} (h : FilI w0 wr rb q rows cols n A c xs) (hb : Below wr.heap.size wr w2) : FilI w0 w2 rb q rows cols n A c xs :=
  ⟨h.own.keep ByR.stable hb, h.bq.below hb, h.br.below hb, h.nq, h.nr, h.qr, h.hr, h.hq, h.bel.trans (hb.mono h.bel.size)⟩
theorem FilI.pushed {w0 w2 : World} {rb q rows cols n : Nat} {A A' : Option Addr} {c c' : Nat} {xs : List Nat} {y : Nat} (h : FilI w0 w2 rb q rows cols n A c xs) (u : Grw (Value.slice A n c).ownBlock w2)
    (hown : OwnL ByR 5 1 (rb + 1) (fun _ => True) u.to (.slice A' (n + 1) c') (n + 1) (xs ++ [y])) (hb : Below (rb + 1) w2 u.to)
    (hat : Value.ownBlock (.slice A' (n + 1) c') = (Value.slice A n c).ownBlock ∨ Value.ownBlock (.slice A' (n + 1) c') = some (w2.heap.size + 1)) :
    FilI w0 (u.to.setCell ⟨q, 2, none⟩ (.slice A' (n + 1) c')) rb q rows cols (n + 1) A' c' (xs ++ [y]) := by
  have hl := h.bq.lt
  have hl2 := h.br.lt
  have hne : ∀ k, k < w2.heap.size → some k ≠ (Value.slice A n c).ownBlock → some k ≠ Value.ownBlock (.slice A' (n + 1) c') := fun k hk h1 => by
    rcases hat with e | e
    · rw [e]; exact h1
    · rw [e]; intro h2; injection h2 with h2; omega
  refine ⟨?_, ?_, ?_, hne q hl h.nq, hne rb hl2 h.nr, h.qr, h.hr, h.hq, (h.bel.trans (hb.mono (by have := h.hr; omega))).setCell h.hq _⟩
  · obtain ⟨css, h1, h2, h3, h4, h5⟩ := hown
    refine ⟨css, h1.kept (row := some q) ⟨rfl, rfl, rfl, by simp, fun k _ hk => Below.heap_setCell _ _ _ _ (fun e => hk (by rw [e]))⟩ ?_, h2, h3, h4, fun i cs x hc hx => h5 i cs x hc hx⟩
    exact .inr fun e => hne q hl h.nq e.symm
  · have := (h.bq.grw u.ok h.nq).set 2 (.slice A' (n + 1) c')
    simpa using this
  · exact (h.br.grw u.ok h.nr).set_other (by exact h.qr) _

set_option maxRecDepth 100000 in
set_option maxHeartbeats 4000000 in
theorem filled_any {w : World} {rows cols : Nat} (hrows : rows ≤ 255) (hcols : cols ≤ 255) {g : FuncId} {cap : Array Value} {f : Nat → Nat → Nat} (hg : Hid (∀ args w, (callFunc g args).run Tryz.prog w = .ok (.enter g args) w))
    (hstep : Hid (∀ i j W, i < rows → j < cols → Below w.heap.size w W → Calls Tryz.prog g (#[.int .i64 (i : Int), .int .i64 (j : Int)] ++ cap) W fun e W' => e = .returned (.int .u8 (f i j : Int)) ∧ f i j < 256 ∧ Below W.heap.size W W')) :
    Calls Tryz.prog 164 #[.int .i64 (rows : Int), .int .i64 (cols : Int), .func (.func g) #[] cap] w fun e w' => ∃ A c, e = .returned (.agg #[.int .i64 (rows : Int), .int .i64 (cols : Int), .slice A (rows * cols) c]) ∧ rows * cols ≤ c ∧
      RdL ByR 1 (fun k => w.heap.size ≤ k) w' A (rows * cols) (flatF f rows cols) ∧ Below w.heap.size w w' := by
  have hgg := hg.out
  have q0 : (0 : Int) ≤ (rows : Int) := Int.natCast_nonneg _
  have q1 : (0 : Int) ≤ (cols : Int) := Int.natCast_nonneg _
  have q2 : (rows : Int) ≤ 255 := by omega
  have q3 : (cols : Int) ≤ 255 := by omega
  have hmx : rows * cols ≤ 65025 := Nat.mul_le_mul hrows hcols
  have q4 : IntKind.i64.wrap ((rows : Int) * (cols : Int)) = ((rows * cols : Nat) : Int) := by
    rw [IntKind.wrap_i64, ← Int.natCast_mul]; omega
  go_enter Tryz.func164, Tryz.ntmps164
  go_wp2_with (at_make; refine wpList_make0 ByR (fun _ => True) sl_by rfl rfl (base := w.heap.size + 1) rfl rfl (rows * cols) (by omega) (by omega) (by unfold maxLen; omega) (by (first | (with_reducible exact Nat.le_refl _) | omega | (simp only [World.size_alloc, World.size_setCell, World.size_drew] <;> omega))) ?_; intro y hys hown; have hyb : Below w.heap.size w y.to := ((Below.refl _ _).alloc (Nat.le_refl _) _).trans (y.ok.mono (by rw [World.size_alloc]; omega)))
  obtain ⟨q, hq⟩ : ∃ q, y.to.heap.size = q := ⟨_, rfl⟩
  obtain ⟨rb, hrb⟩ : ∃ rb, w.heap.size = rb := ⟨_, rfl⟩
  have hF0 : FilI w (y.to.alloc (.cells #[.int .i64 (rows : Int), .int .i64 (cols : Int), .slice (some ⟨w.heap.size + 1, 0, none⟩) 0 (rows * cols)] 181)) rb q rows cols 0 (some ⟨w.heap.size + 1, 0, none⟩) (rows * cols) [] := by
    have hyl := y.ok.size
    simp only [World.size_alloc] at hown hys hyl
    refine ⟨OwnL.alloc ByR.stable (hrb ▸ hown) _, hq ▸ BoxAt.new _ _ _, hrb ▸ ((BoxAt.new w _ _).below y.ok).alloc _, ?_, ?_, by omega, by omega, by omega, hyb.alloc hyb.size _⟩
    · intro e; injection e with e; dsimp only at e; omega
    · intro e; injection e with e; dsimp only at e; omega
  rw [hrb, hq]
  rw [hrb] at hF0
  have HF0 := Lib.hid hF0
  have HRB := Lib.hid hrb
  clear hF0 hown hys hyb hq hrb
  generalize hwB : (y.to.alloc _) = wB at *
  clear hwB
  go_loopw [18] (fun vi wr => ∃ (i : Nat) (A : Option Addr) (c : Nat), i ≤ rows ∧ vi = .int .i64 i ∧ Hid (FilI w wr rb q rows cols (i * cols) A c (flatF f i cols))) (fun vi _ => rows - (intOf vi).toNat)
  case atStart => exact ⟨0, _, _, Nat.zero_le _, rfl, by rw [Nat.zero_mul]; exact HF0⟩
  case round =>
    obtain ⟨wo, rfl⟩ : ∃ wo, wo = wr := ⟨_, rfl⟩
    clear HF0
    obtain ⟨i, A, c, hi, rfl, HI⟩ := hrel
    have p0 : (0 : Int) ≤ (i : Int) := Int.natCast_nonneg _
    by_cases hlt : i < rows
    · have p1 : (i : Int) < (rows : Int) := by omega
      go_wp2_with fail
      go_loopw [22] (fun vi wr => ∃ (j : Nat) (A : Option Addr) (c : Nat), j ≤ cols ∧ vi = .int .i64 j ∧ Hid (FilI w wr rb q rows cols (i * cols + j) A c (flatU f cols i j))) (fun vi _ => cols - (intOf vi).toNat)
      case atStart => exact ⟨0, A, c, Nat.zero_le _, rfl, by rw [flatU_zero]; exact HI⟩
      case round =>
        clear HI A c
        obtain ⟨j, A, c, hj, rfl, HI⟩ := hrel
        have p2 : (0 : Int) ≤ (j : Int) := Int.natCast_nonneg _
        by_cases hlj : j < cols
        · have p3 : (j : Int) < (cols : Int) := by omega
          have hnx : i * cols + j < 65025 := by
            have := Nat.mul_le_mul (show i + 1 ≤ rows from hlt) (Nat.le_refl cols)
            rw [Nat.succ_mul] at this
            omega
          have c0 := HI.out.bq.cell 2
          have s0 : wr.drew.cell? ⟨q, 2, none⟩ = some (.slice A (i * cols + j) c) ∧ q < wr.drew.heap.size := ⟨c0, HI.out.bq.lt⟩
          have HD := Lib.hid (HI.out.below (w2 := wr.drew) (Below.refl _ _).drew)
          have hst := hstep.out i j wr.drew hlt hlj HD.out.bel
          clear c0
          go_wp2_with fail
          refine wp_region_L (S := fun w' => w'.cell? ⟨q, 2, none⟩ = some (.slice A (i * cols + j) c) ∧ q < w'.heap.size) [9] (by kernel_rfl) (by first | exact s0 | exact s2 | exact s9 | exact ⟨(World.cell?_alloc_past _ _ _ s2.2).trans s2.1, by rw [World.size_alloc]; exact Nat.lt_succ_of_lt s2.2⟩) (fun hHeld => ?_)
          refine tkL 0 rfl ?_
          refine tkL 1 rfl ?_
          refine tkL 2 rfl ?_
          refine tkL 3 rfl ?_
          refine tkL 4 rfl ?_
          refine rdL 5 rfl fun K hK => ?_
          try simp (maxSteps := 2000000) only [zz1, zz2, zz3]
          go_simp
          refine hst.mono ?_
          rintro e w2 ⟨rfl, hv, hb2⟩
          have HI2 := Lib.hid (HD.out.below hb2)
          have s2 : w2.cell? ⟨q, 2, none⟩ = some (.slice A (i * cols + j) c) ∧ q < w2.heap.size := ⟨HI2.out.bq.cell 2, HI2.out.bq.lt⟩
          have HV := Lib.hid hv
          clear hst hb2 hv
          try (go_wp2_with fail)
          refine hK.out _ _ (by first | exact s0 | exact s2 | exact s9 | exact ⟨(World.cell?_alloc_past _ _ _ s2.2).trans s2.1, by rw [World.size_alloc]; exact Nat.lt_succ_of_lt s2.2⟩) (fun hHeld => ?_)
          clear hK K
          try simp (maxSteps := 2000000) only [zz1, zz2, zz3, Act.put, zz4, zz5, zz6]
          refine rdL 6 rfl fun K hK => ?_
          try simp (maxSteps := 2000000) only [zz1, zz2, zz3]
          go_simp
          refine hK.out _ _ (by first | exact s0 | exact s2 | exact s9 | exact ⟨(World.cell?_alloc_past _ _ _ s2.2).trans s2.1, by rw [World.size_alloc]; exact Nat.lt_succ_of_lt s2.2⟩) (fun hHeld => ?_)
          clear hK K
          try simp (maxSteps := 2000000) only [zz1, zz2, zz3, Act.put, zz4, zz5, zz6]
          refine rdL 7 rfl fun K hK => ?_
          refine step_law (by rfl) (wpList_push1 ByR.stable ByR.one sl_by (by rfl) (by rfl) (base := rb + 1) (S := fun _ => True) (cs := #[.int .u8 (f i j : Int)]) (y := f i j) (by rfl) (by rfl) HI2.out.own (by rfl) ⟨HV.out, rfl⟩ (by unfold maxLen; omega) (by omega) HI2.out.br.lt ?_)
          intro A8 c8 u8 hc8 own9 hlt8 hb8 hat8
          refine And.intro rfl ?_
          have B9 := HI2.out.bq.grw u8.ok HI2.out.nq
          have s9 : u8.to.cell? ⟨q, 2, none⟩ = some (.slice A (i * cols + j) c) ∧ q < u8.to.heap.size := ⟨B9.cell 2, B9.lt⟩
          have f9 := B9.frozen 2
          have HP := Lib.hid (HI2.out.pushed u8 own9 hb8 hat8)
          clear own9 hb8 hat8 B9
          refine hK.out _ _ (by first | exact s0 | exact s2 | exact s9 | exact ⟨(World.cell?_alloc_past _ _ _ s2.2).trans s2.1, by rw [World.size_alloc]; exact Nat.lt_succ_of_lt s2.2⟩) (fun hHeld => ?_)
          clear hK K
          try simp (maxSteps := 2000000) only [zz1, zz2, zz3, Act.put, zz4, zz5, zz6]
          refine tkL 8 rfl ?_
          refine lsL 9 rfl fun K hK => ?_
          try simp (maxSteps := 2000000) only [zz1, zz2, zz3]
          go_simp
          refine hK.out _ _ ?_
          clear hK K
          try simp (maxSteps := 2000000) only [zz1, zz2, zz3, Act.put, zz4, zz5, zz6]
          refine wpAnyL_done (by kernel_rfl) ?_ _
          clear f9 s9 s2 hHeld
          rw [← flatU_next] at HP
          go_wp2_with fail
          exact ⟨⟨j + 1, A8, c8, by omega, by go_num, HP⟩, by simp [intOf]; omega⟩
        · have p3 : ¬ (j : Int) < (cols : Int) := by omega
          obtain rfl : j = cols := by omega
          rw [flatU_row, ← Nat.succ_mul] at HI
          go_wp2_with fail
          exact ⟨⟨i + 1, A, c, by omega, by go_num, HI⟩, by simp [intOf]; omega⟩
    · have p1 : ¬ (i : Int) < (rows : Int) := by omega
      obtain rfl : i = rows := by omega
      have b0 := HI.out.bq.cell 0
      have b1 := HI.out.bq.cell 1
      have b2 := HI.out.bq.cell 2
      have r0 := HI.out.br.cell 0
      have r1 := HI.out.br.cell 1
      have r2 := HI.out.br.cell 2
      have f0 := HI.out.br.frozen 0
      have f1 := HI.out.br.frozen 1
      have f2 := HI.out.br.frozen 2
      go_wp2_with fail
      refine bodyPost_ret (v := .agg #[.int .i64 (i : Int), .int .i64 (cols : Int), .slice A (i * cols) c]) (by simp [results, Tryz.results164, go_sem, *]) rfl ?_
      obtain ⟨A', c', e1, hc, hr⟩ := HI.out.own.rd (S' := fun k => rb < k) (fun _ hk => hk) (fun cs x hx => hx)
      injection e1 with e1 _ e2
      subst e1; subst e2
      have hrl : ∀ {w' : World} {p : Addr} {v : Value}, p.block = rb → RdL ByR 1 (fun k => rb < k) w' A (i * cols) (flatF f i cols) → RdL ByR 1 (fun k => rb < k) (w'.setCell p v) A (i * cols) (flatF f i cols) := fun hp h => h.setCell ByR.stable (by rw [hp]; exact Nat.lt_irrefl _) _
      have hbl : ∀ {w' : World} {p : Addr} {v : Value}, p.block = rb → Below w.heap.size w w' → Below w.heap.size w (w'.setCell p v) := fun hp h => h.setCell (by rw [hp]; exact HI.out.hr) _
      refine ⟨A, c, rfl, hc, RdL.weaken ByR.stable (S := fun k => rb < k) ?_ (fun k hk => Nat.le_trans HI.out.hr (Nat.le_of_lt hk)), ?_⟩
      · repeat (first | exact hr | refine hrl rfl ?_)
      · repeat (first | exact HI.out.bel | refine hbl rfl ?_)
end
section

set_option maxRecDepth 100000 in
set_option maxHeartbeats 1600000 in
/-- The first quotient: the tables are made. -/
theorem div_new {w : World} {b : Nat} (F : FldNew w b) :
    Calls Tryz.prog 166 #[.pointer (some ⟨b, 0, none⟩), .int .u8 1, .int .u8 1] w fun e w' => e = .returned (.tuple #[.int .u8 1, .int .i64 0]) ∧ Fld w' b ∧ Keep (· = b) w w' := by
  have hR := ready_new F
  clear F
  go_enter Tryz.func166, Tryz.ntmps166
  go_wp2_with (go_at_call 199; refine hR.mono ?_; rintro e w2 ⟨rfl, F, K⟩; have HK := Lib.hid K; have HF := Lib.hid F; clear K hR; have l1 : w2.cell? ⟨b, 515, none⟩ = some (.int .i64 0) := F.log 1 (by decide) (by decide); have x1 : w2.cell? ⟨b, 259, none⟩ = some (.int .u8 1) := (F.exp 255 (by decide)).trans (by rw [ex_255]; rfl); have hbl := F.lt; clear F)
  refine wp_region_later (by kernel_rfl) (by kernel_rfl) ?_
  repeat (go_big_quiet_step (fail))
  refine wpQuiet_nil ?_
  rintro _ ⟨z, rfl⟩
  go_wp2_with fail
  go_ret2
  exact ⟨rfl, HF.out.below z.ok, HK.out.trans (Keep.of_below (F := fun _ => False) z.ok) (fun _ h => h.elim)⟩
set_option maxRecDepth 100000 in
theorem nobody_new {w : World} {b : Nat} (F : FldNew w b) :
    Calls Tryz.prog 161 #[.pointer (some ⟨b, 0, none⟩)] w fun e w' => e = .returned (.bool false) ∧ Fld w' b ∧ Keep (· = b) w w' := by
  have hD := div_new F
  clear F
  go_enter Tryz.func161, Tryz.ntmps161
  go_wp2_with (go_at_call 166; refine hD.mono ?_; rintro e w2 ⟨rfl, F, K⟩; have HF := Lib.hid F; have HK := Lib.hid K; clear F K hD)
  go_ret
  exact ⟨rfl, HF.out, HK.out⟩
set_option maxRecDepth 100000 in
theorem right_ok {w : World} {rows cols c : Nat} {A : Option Addr} (h1 : 1 ≤ rows) (h2 : rows ≤ 255) (h3 : 1 ≤ cols) (h4 : cols ≤ 255) :
    Calls Tryz.prog 237 #[.agg #[.int .i64 (rows : Int), .int .i64 (cols : Int), .slice A (rows * cols) c]] w fun e w' => e = .returned (.bool true) ∧ Below w.heap.size w w' := by
  have hmx : rows * cols ≤ 65025 := Nat.mul_le_mul h2 h4
  have q4 : IntKind.i64.wrap ((rows : Int) * (cols : Int)) = ((rows * cols : Nat) : Int) := by
    rw [IntKind.wrap_i64, ← Int.natCast_mul]; omega
  have d1 : decide (1 ≤ (rows : Int) ∧ (rows : Int) ≤ 255) = true := by simp; omega
  have d2 : decide (1 ≤ (cols : Int) ∧ (cols : Int) ≤ 255) = true := by simp; omega
  go_enter Tryz.func237, Tryz.ntmps237
  go_wp2_with (go_at_call 162; refine (within_any _).mono ?_; rintro e w' ⟨rfl, rfl⟩; try rw [d1]; try rw [d2])
  go_ret
  exact ⟨by simp, (by repeat (first | (with_reducible exact Below.refl _ _) | (with_reducible assumption) | (with_reducible refine Below.drew ?_) | (with_reducible refine Below.setCell ?_ ?_ _) | (with_reducible refine Below.alloc ?_ ?_ _) | (with_reducible refine Below.later ?_ ?_ _) | (first | (with_reducible exact Nat.le_refl _) | omega | (simp only [World.size_alloc, World.size_setCell, World.size_drew] <;> omega))))⟩
theorem piece3 {T E : TypeId} {z : Value} {s b : Nat} (st : SlTy Tryz.prog T E z s b) {A : Option Addr} {N c l h : Nat} (h1 : l < h) (h2 : h ≤ c) (w : World) : (Instr.slice T (.slice A N c) (some (.int .i64 (l : Int))) (some (.int .i64 (h : Int))) (some (.int .i64 (h : Int)))).run Tryz.prog w = .ok (.slice (A.map (fun x : Addr => x.add (l * s))) (h - l) (h - l)) w := by
  obtain ⟨i, hi, hz, hsz, hby⟩ := info_parts st.info
  have hel : Tryz.prog.elem T = E := by simp [Program.elem, st.und]
  have ht : Tryz.prog.underlying T = some (.slice (Tryz.prog.elem T)) := by rw [hel]; exact st.und
  have e1 : ((h : Int)).toNat = h := Int.toNat_natCast _
  simp only [Instr.slice, Sem.run_bind, run_underlying ht, Result.andThen, Instr.sliceBounds]
  have hs : (sizeOf E).run Tryz.prog w = .ok s w := by
    simp [sizeOf, typeInfo, hi, hsz]
  have a1 : (l : Int) ≤ (h : Int) := by omega
  have a2 : (h : Int) ≤ (c : Int) := by omega
  have a3 : (0 : Int) ≤ (l : Int) := Int.natCast_nonneg _
  have a4 : (0 : Int) ≤ (h : Int) := Int.natCast_nonneg _
  have a5 : ¬ h = l := by omega
  simp [run_sliceBound, hs, Result.andThen, *]
theorem row_any {w : World} {cols i n c : Nat} {A : Option Addr} (hn : (i + 1) * cols ≤ n) (hc : n ≤ c) (hi : i ≤ 255) (hcols : cols ≤ 255) (h0 : 1 ≤ cols) :
    Calls Tryz.prog 238 #[.slice A n c, .int .i64 (cols : Int), .int .i64 (i : Int)] w fun e w' => e = .returned (.slice (A.map fun x : Addr => x.add (i * cols)) cols cols) ∧ w' = w := by
  have hmx : i * cols ≤ 65025 := Nat.mul_le_mul hi hcols
  have hsm : (i + 1) * cols = i * cols + cols := Nat.succ_mul _ _
  have q1 : IntKind.i64.wrap ((i : Int) * (cols : Int)) = ((i * cols : Nat) : Int) := by
    rw [IntKind.wrap_i64, ← Int.natCast_mul]; omega
  have q2 : IntKind.i64.wrap (((i : Int) + 1) * (cols : Int)) = (((i + 1) * cols : Nat) : Int) := by
    rw [IntKind.wrap_i64, show ((i : Int) + 1) = ((i + 1 : Nat) : Int) by omega, ← Int.natCast_mul]; omega
  have q3 : (i : Int) ≤ 255 := by omega
  have q4 : (0 : Int) ≤ (i : Int) := Int.natCast_nonneg _
  have hp := fun w => piece3 sl_by (A := A) (N := n) (c := c) (l := i * cols) (h := (i + 1) * cols) (by omega) (by omega) w
  rw [show (i + 1) * cols - i * cols = cols by omega, Nat.mul_one, Int.natCast_mul, Int.natCast_mul, show ((i + 1 : Nat) : Int) = (i : Int) + 1 by omega] at hp
  rw [Int.natCast_mul] at q1
  rw [Int.natCast_mul, show ((i + 1 : Nat) : Int) = (i : Int) + 1 by omega] at q2
  clear hmx hsm
  go_enter Tryz.func238, Tryz.ntmps238
  go_wp2_with fail
  go_ret
  exact ⟨rfl, rfl⟩

set_option maxRecDepth 100000 in
set_option maxHeartbeats 1600000 in
theorem at_any {w : World} {rows cols c : Nat} {A : Option Addr} {S : Nat → Prop} {xs : List Nat} (h1 : 1 ≤ rows) (h2 : rows ≤ 255) (h3 : 1 ≤ cols) (h4 : cols ≤ 255) (R : RdL ByR 1 S w A (rows * cols) xs) (hc : rows * cols ≤ c) {i j : Nat} (hi : i < rows) (hj : j < cols) :
    Calls Tryz.prog 212 #[.agg #[.int .i64 (rows : Int), .int .i64 (cols : Int), .slice A (rows * cols) c], .int .i64 (i : Int), .int .i64 (j : Int)] w fun e w' => e = .returned (.int .u8 (gt xs (i * cols + j) : Int)) ∧ Below w.heap.size w w' := by
  have hmul : (i + 1) * cols ≤ rows * cols := Nat.mul_le_mul hi (Nat.le_refl _)
  have hsm : (i + 1) * cols = i * cols + cols := Nat.succ_mul _ _
  obtain ⟨bb, o, rfl, _, hbb⟩ := R.addr (k := i * cols + j) (by omega)
  have hv := (by_at R (k := i * cols + j) (by omega)).1
  have hR := fun w' => right_ok (w := w') (A := some ⟨bb, o, none⟩) (c := c) h1 h2 h3 h4
  have hrow := fun w' => row_any (w := w') (n := rows * cols) (c := c) (A := some ⟨bb, o, none⟩) hmul hc (by omega : i ≤ 255) h4 h3
  have ha : Option.map (fun x : Addr => x.add (i * cols)) (some ⟨bb, o, none⟩) = some ⟨bb, o + i * cols, none⟩ := by
    simp only [Option.map_some, Addr.add]
    split
    · rename_i e; rw [e]; rfl
    · rfl
  rw [ha] at hrow
  have hv2 : w.cell? ⟨bb, o + i * cols + j, none⟩ = some (.int .u8 (gt xs (i * cols + j) : Int)) := by rw [Nat.add_assoc]; exact hv
  have HV := Lib.hid hv2
  have q1 : (i : Int) < (rows : Int) := by omega
  have q2 : (j : Int) < (cols : Int) := by omega
  have q3 : (0 : Int) ≤ (i : Int) := Int.natCast_nonneg _
  have q4 : (0 : Int) ≤ (j : Int) := Int.natCast_nonneg _
  obtain ⟨wA, hwA⟩ : ∃ wA, w.alloc (.cells #[.int .i64 (rows : Int), .int .i64 (cols : Int), .slice (some ⟨bb, o, none⟩) (rows * cols) c] 181) = wA := ⟨_, rfl⟩
  have bx := BoxAt.new w #[.int .i64 (rows : Int), .int .i64 (cols : Int), .slice (some ⟨bb, o, none⟩) (rows * cols) c] 181
  have b0 : Below w.heap.size w (w.alloc (.cells #[.int .i64 (rows : Int), .int .i64 (cols : Int), .slice (some ⟨bb, o, none⟩) (rows * cols) c] 181)) := (Below.refl _ _).alloc (Nat.le_refl _) _
  rw [hwA] at bx b0
  have k0 := bx.cell 0
  have k1 := bx.cell 1
  have k2 := bx.cell 2
  have BX := Lib.hid bx
  have B0 := Lib.hid b0
  clear hmul hsm hv ha hv2 bx b0 R
  go_enter Tryz.func212, Tryz.ntmps212
  go_wp2_with (first | (go_at_call 237; refine (hR _).mono ?_; rintro e w2 ⟨rfl, hb2⟩; have BX2 := BX.out.below hb2; replace k0 := BX2.cell 0; replace k1 := BX2.cell 1; replace k2 := BX2.cell 2; have hx := (((B0.out.trans (hb2.mono B0.out.size)).cell (p := ⟨bb, o + i * cols + j, none⟩) hbb).trans HV.out); have HB2 := Lib.hid (B0.out.trans (hb2.mono B0.out.size)); clear hb2) | (go_at_call 238; refine (hrow _).mono ?_; rintro e w3 ⟨rfl, rfl⟩))
  go_ret
  exact ⟨rfl, HB2.out⟩

/-- A row of bytes. -/
def RowR (S : Nat → Prop) (w : World) (cs : List Value) (x : List Nat) : Prop := ∃ A n c, cs = [.slice A n c] ∧ n ≤ c ∧ RdL ByR 1 S w A n x
theorem RowR.stable : Stable RowR := fun S S' w w' cs x h hk => by
  obtain ⟨A, n, c, rfl, h1, h2⟩ := h
  exact ⟨A, n, c, rfl, h1, h2.stable ByR.stable hk⟩
theorem RowR.one : ∀ S w cs x, RowR S w cs x → ∀ u ∈ cs, u.oneCell' = true := by
  rintro S w cs x ⟨A, n, c, rfl, _, _⟩ u hu
  simp at hu
  subst hu; rfl
theorem row_at {S : Nat → Prop} {w : World} {b o n : Nat} {l : Rws} (h : RdL RowR 1 S w (some ⟨b, o, none⟩) n l) {k : Nat} (hk : k < n) :
    ∃ A m c, w.cell? ⟨b, o + k, none⟩ = some (.slice A m c) ∧ m ≤ c ∧ RdL ByR 1 S w A m (ra l k) := by
  obtain ⟨hl, cs, _, ⟨A, m, c, rfl, h1, h2⟩, h3⟩ := h.at hk
  refine ⟨A, m, c, ?_, h1, ?_⟩
  · have := h3 0 _ rfl
    rwa [Nat.mul_one, Nat.add_zero] at this
  · rwa [ra_some (List.getElem?_eq_getElem hl)]
/-- Which bytes were met. -/
def MetI (w : World) (b : Nat) (seen : List Nat) : Prop := ∃ cur : Array Value, BoxAt w b cur ∧ ∀ c, c < 256 → cur[c]? = some (.bool (decide (c ∈ seen)))
theorem MetI.new (w : World) (t : TypeId) (cur : Array Value) (h : ∀ c, c < 256 → cur[c]? = some (.bool false)) : MetI (w.alloc (.cells cur t)) w.heap.size [] := ⟨cur, BoxAt.new _ _ _, fun c hc => by rw [h c hc]; simp⟩
theorem MetI.below {w w' : World} {b : Nat} {seen : List Nat} (h : MetI w b seen) (hb : Below w.heap.size w w') : MetI w' b seen := by
  obtain ⟨cur, h1, h2⟩ := h
  exact ⟨cur, h1.below hb, h2⟩
theorem MetI.set {w : World} {b c : Nat} {seen : List Nat} (h : MetI w b seen) (hc : c < 256) : MetI (w.setCell ⟨b, c, none⟩ (.bool true)) b (seen ++ [c]) := by
  obtain ⟨cur, h1, h2⟩ := h
  have hl : c < cur.size := by
    have := h2 c hc
    exact (Array.getElem?_eq_some_iff.1 this).1
  refine ⟨_, h1.set c (.bool true), fun d hd => ?_⟩
  by_cases e : d = c
  · subst e
    rw [set_eq hl]; simp
  · rw [set_ne (fun h => e h.symm), h2 d hd]
    simp [e]
theorem zero256 : Tryz.zeroCells278 = Array.replicate 256 (.bool false) := by kernel_rfl
theorem flatten_take {ls : Rws} {k : Nat} (hk : k < ls.length) : (ls.take (k + 1)).flatten = (ls.take k).flatten ++ ra ls k := by
  rw [List.take_add_one, ra_of_lt hk, List.flatten_append]; simp
theorem take_gt {l : List Nat} {j : Nat} (hj : j < l.length) : l.take (j + 1) = l.take j ++ [gt l j] := by
  rw [List.take_add_one, gt_of_lt hj]; rfl
theorem nodup_at {ls : Rws} {k j : Nat} (hk : k < ls.length) (hj : j < (ra ls k).length) (h : ls.flatten.Nodup) : gt (ra ls k) j ∉ (ls.take k).flatten ++ (ra ls k).take j := by
  have h1 : ls.flatten = (ls.take (k + 1)).flatten ++ (ls.drop (k + 1)).flatten := by rw [← List.flatten_append, List.take_append_drop]
  rw [h1, flatten_take hk, List.nodup_append] at h
  have h2 := h.1
  rw [← List.take_append_drop (j + 1) (ra ls k), take_gt hj, ← List.append_assoc, ← List.append_assoc] at h2
  have h3 := (List.nodup_append.1 h2).1
  have h4 := List.nodup_append.1 h3
  intro hm
  exact h4.2.2 _ hm _ (List.mem_singleton.2 rfl) rfl
set_option maxRecDepth 100000 in
set_option maxHeartbeats 4000000 in
theorem twice_any {w : World} {n c : Nat} {A : Option Addr} {S : Nat → Prop} {ls : Rws} (R : RdL RowR 1 S w A n ls) (hn : n ≤ 1000000) (hlen : ∀ l ∈ ls, l.length ≤ 1000000) (hnd : ls.flatten.Nodup) :
    Calls Tryz.prog 163 #[.slice A n c] w fun e w' => e = .returned (.bool false) ∧ Below w.heap.size w w' := by
  have HR := Lib.hid R
  have hl := R.1
  have q0 : (n : Int) ≤ 1000000 := by omega
  clear R
  go_enter Tryz.func163, Tryz.ntmps163
  go_wp2_with fail
  have hm0 := MetI.new w 278 Tryz.zeroCells278 (fun c hc => by rw [zero256, Array.getElem?_replicate, if_pos hc])
  have hb0 : Below w.heap.size w (w.alloc (.cells Tryz.zeroCells278 278)) := (Below.refl _ _).alloc (Nat.le_refl _) _
  generalize w.alloc (.cells Tryz.zeroCells278 278) = wA at *
  have M0 := Lib.hid hm0
  have B0 := Lib.hid hb0
  clear hm0 hb0
  go_loopw [10] (fun vi wr => ∃ k : Nat, k ≤ n ∧ vi = .int .i64 k ∧ Hid (MetI wr w.heap.size (ls.take k).flatten) ∧ Hid (Below w.heap.size w wr)) (fun vi _ => n - (intOf vi).toNat)
  case atStart => exact ⟨0, Nat.zero_le _, rfl, M0, B0⟩
  case round =>
    obtain ⟨wo, rfl⟩ : ∃ wo, wo = wr := ⟨_, rfl⟩
    clear M0 B0
    obtain ⟨k, hk, rfl, HM, HB⟩ := hrel
    have p0 : (0 : Int) ≤ (k : Int) := Int.natCast_nonneg _
    by_cases hlt : k < n
    · have p1 : (k : Int) < (n : Int) := by omega
      obtain ⟨bb, o, rfl, _, hbb⟩ := HR.out.addr hlt
      obtain ⟨A1, m1, c1, hv, hmc, hr⟩ := row_at HR.out hlt
      replace hv := (HB.out.cell (p := ⟨bb, o + k, none⟩) hbb).trans hv
      have HR1 := Lib.hid hr
      have hrl := hr.1
      have hkl : k < ls.length := by omega
      have p2 : (m1 : Int) ≤ 1000000 := by have := hlen _ (ra_mem hkl); omega
      have HLT := Lib.hid hlt
      clear hr hlt
      go_wp2_with fail
      go_loopw [16] (fun vi wr => ∃ j : Nat, j ≤ m1 ∧ vi = .int .i64 j ∧ Hid (MetI wr w.heap.size ((ls.take k).flatten ++ (ra ls k).take j)) ∧ Hid (Below w.heap.size w wr)) (fun vi _ => m1 - (intOf vi).toNat)
      case atStart => exact ⟨0, Nat.zero_le _, rfl, by rw [List.take_zero, List.append_nil]; exact HM, HB⟩
      case round =>
        clear HM HB hv
        obtain ⟨j, hj, rfl, HM, HB⟩ := hrel
        have p3 : (0 : Int) ≤ (j : Int) := Int.natCast_nonneg _
        by_cases hlj : j < m1
        · have p4 : (j : Int) < (m1 : Int) := by omega
          obtain ⟨b2, o2, rfl, _, hb2⟩ := HR1.out.addr hlj
          obtain ⟨c2, x2⟩ := by_at HR1.out hlj
          replace c2 := (HB.out.cell (p := ⟨b2, o2 + j, none⟩) hb2).trans c2
          have hni := nodup_at hkl (j := j) (by omega) hnd
          have hset := HM.out.set x2
          obtain ⟨cur, h1, h2⟩ := HM.out
          have m2 := (h1.cell (gt (ra ls k) j)).trans (h2 _ x2)
          rw [decide_eq_false hni] at m2
          have f2 := h1.frozen (gt (ra ls k) j)
          rw [List.append_assoc, ← take_gt (by omega)] at hset
          have p5 : ((gt (ra ls k) j : Nat) : Int) < 256 := by omega
          have p6 : (0 : Int) ≤ ((gt (ra ls k) j : Nat) : Int) := Int.natCast_nonneg _
          have HS := Lib.hid hset
          have HB3 := Lib.hid (HB.out.setCell (p := ⟨w.heap.size, gt (ra ls k) j, none⟩) (Nat.le_refl _) (.bool true))
          clear hset h1 h2 hni
          go_wp2_with fail
          exact ⟨⟨j + 1, by omega, by go_num, HS, HB3⟩, by simp [intOf]; omega⟩
        · have p4 : ¬ (j : Int) < (m1 : Int) := by omega
          obtain rfl : j = m1 := by omega
          rw [← hrl, List.take_length, ← flatten_take hkl] at HM
          have hlt2 := HLT.out
          go_wp2_with fail
          exact ⟨⟨k + 1, by omega, by go_num, HM, HB⟩, by simp [intOf]; omega⟩
    · have p1 : ¬ (k : Int) < (n : Int) := by omega
      go_wp2_with fail
      go_ret
      exact ⟨rfl, HB.out⟩
end
section

theorem call_cauchy (args : Array Value) (w : World) : (callFunc 165 args).run Tryz.prog w = .ok (.enter 165 args) w := by go_simp
set_option maxRecDepth 100000 in
set_option maxHeartbeats 1600000 in
theorem cauchy1_any {w : World} {b fb xb yb n1 n2 c1 c2 : Nat} {A1 A2 : Option Addr} {S1 S2 : Nat → Prop} {xs ys : List Nat} (F : Fld w b) (hf : BoxAt w fb #[.pointer (some ⟨b, 0, none⟩)]) (hx : BoxAt w xb #[.slice A1 n1 c1]) (hy : BoxAt w yb #[.slice A2 n2 c2])
    (R1 : RdL ByR 1 S1 w A1 n1 xs) (R2 : RdL ByR 1 S2 w A2 n2 ys) {i j : Nat} (hi : i < n1) (hj : j < n2) (hne : gt xs i ≠ gt ys j) :
    Calls Tryz.prog 165 #[.int .i64 (i : Int), .int .i64 (j : Int), .pointer (some ⟨fb, 0, none⟩), .pointer (some ⟨xb, 0, none⟩), .pointer (some ⟨yb, 0, none⟩)] w fun e w' => e = .returned (.int .u8 (dv 1 (gt xs i ^^^ gt ys j) : Int)) ∧ Below w.heap.size w w' := by
  obtain ⟨b1, o1, rfl, _, l1⟩ := R1.addr hi
  obtain ⟨b2, o2, rfl, _, l2⟩ := R2.addr hj
  obtain ⟨v1, x1⟩ := by_at R1 hi
  obtain ⟨v2, x2⟩ := by_at R2 hj
  have k1 := hf.cell 0
  have k2 := hx.cell 0
  have k3 := hy.cell 0
  have g1 := hf.lt
  have g2 := hx.lt
  have g3 := hy.lt
  have q1 : (i : Int) < (n1 : Int) := by omega
  have q2 : (j : Int) < (n2 : Int) := by omega
  have q3 : (0 : Int) ≤ (i : Int) := Int.natCast_nonneg _
  have q4 : (0 : Int) ≤ (j : Int) := Int.natCast_nonneg _
  have hxb := xor_bits x1 x2
  have hdv := fun (y : Later w.heap.size w) => div_any (F.below y.ok) (a := 1) (c := gt xs i ^^^ gt ys j) (by decide) (xor_ne hne) (xor_lt x1 x2)
  clear hf hx hy R1 R2 F hi hj
  go_enter Tryz.func165, Tryz.ntmps165
  go_wp2_with fail
  refine wp_region_later (by kernel_rfl) (by kernel_rfl) ?_
  repeat (go_big_quiet_step ((go_at_call 166; exact Later.call _ (hdv _) (Nat.le_refl _))))
  refine wpQuiet_nil ?_
  rintro _ ⟨z, rfl⟩
  go_wp2_with fail
  go_ret
  exact ⟨rfl, z.ok⟩

theorem gt_mem {l : List Nat} {i : Nat} (h : i < l.length) : gt l i ∈ l := List.mem_of_getElem? (gt_of_lt h)
/-- The factors of parity. -/
def cauF (xs ys : List Nat) (i j : Nat) : Nat := dv 1 (gt xs i ^^^ gt ys j)
set_option maxRecDepth 100000 in
set_option maxHeartbeats 4000000 in
theorem cauchy_new {w : World} {b n1 n2 c1 c2 : Nat} {A1 A2 : Option Addr} {S : Nat → Prop} {xs ys : List Nat} (F : FldNew w b) (R1 : RdL ByR 1 S w A1 n1 xs) (R2 : RdL ByR 1 S w A2 n2 ys) (hS : ¬ S b)
    (h1 : 1 ≤ n1) (h2 : n1 ≤ 255) (h3 : 1 ≤ n2) (h4 : n2 ≤ 255) (hcc1 : n1 ≤ c1) (hcc2 : n2 ≤ c2) (hnd : (xs ++ ys).Nodup) :
    Calls Tryz.prog 133 #[.pointer (some ⟨b, 0, none⟩), .slice A1 n1 c1, .slice A2 n2 c2] w fun e w' => ∃ A c, e = .returned (.tuple #[.agg #[.int .i64 (n1 : Int), .int .i64 (n2 : Int), .slice A (n1 * n2) c], .int .i64 0]) ∧ n1 * n2 ≤ c ∧
      RdL ByR 1 (fun k => w.heap.size ≤ k) w' A (n1 * n2) (flatF (cauF xs ys) n1 n2) ∧ Fld w' b ∧ Keep (· = b) w w' := by
  have hl1 := R1.1
  have hl2 := R2.1
  have HR1 := Lib.hid R1
  have HR2 := Lib.hid R2
  have HF := Lib.hid F
  have d1 : decide (1 ≤ (n1 : Int) ∧ (n1 : Int) ≤ 255) = true := by simp; omega
  have d2 : decide (1 ≤ (n2 : Int) ∧ (n2 : Int) ≤ 255) = true := by simp; omega
  have hbl : b < w.heap.size := by obtain ⟨cs, hb, _⟩ := F.ex; exact hb.lt
  clear F R1 R2
  go_enter Tryz.func133, Tryz.ntmps133
  go_wp2_with fail
  have hb1 := (((BoxAt.new w #[.pointer (some ⟨b, 0, none⟩)] 139).alloc (.cells #[.slice A1 n1 c1] 68)).alloc (.cells #[.slice A2 n2 c2] 68)).alloc (.cells #[.int .i64 0, .int .i64 0, .slice none 0 0] 181)
  have hb2 := ((BoxAt.new (w.alloc (.cells #[.pointer (some ⟨b, 0, none⟩)] 139)) #[.slice A1 n1 c1] 68).alloc (.cells #[.slice A2 n2 c2] 68)).alloc (.cells #[.int .i64 0, .int .i64 0, .slice none 0 0] 181)
  have hb3 := (BoxAt.new ((w.alloc (.cells #[.pointer (some ⟨b, 0, none⟩)] 139)).alloc (.cells #[.slice A1 n1 c1] 68)) #[.slice A2 n2 c2] 68).alloc (.cells #[.int .i64 0, .int .i64 0, .slice none 0 0] 181)
  have hb4 := BoxAt.new (((w.alloc (.cells #[.pointer (some ⟨b, 0, none⟩)] 139)).alloc (.cells #[.slice A1 n1 c1] 68)).alloc (.cells #[.slice A2 n2 c2] 68)) #[.int .i64 0, .int .i64 0, .slice none 0 0] 181
  have hbA : Below w.heap.size w ((((w.alloc (.cells #[.pointer (some ⟨b, 0, none⟩)] 139)).alloc (.cells #[.slice A1 n1 c1] 68)).alloc (.cells #[.slice A2 n2 c2] 68)).alloc (.cells #[.int .i64 0, .int .i64 0, .slice none 0 0] 181)) := (by repeat (first | (with_reducible exact Below.refl _ _) | (with_reducible assumption) | (with_reducible refine Below.drew ?_) | (with_reducible refine Below.setCell ?_ ?_ _) | (with_reducible refine Below.alloc ?_ ?_ _) | (with_reducible refine Below.later ?_ ?_ _) | (first | (with_reducible exact Nat.le_refl _) | omega | (simp only [World.size_alloc, World.size_setCell, World.size_drew] <;> omega))))
  simp only [World.size_alloc] at hb1 hb2 hb3 hb4
  generalize ((((w.alloc (.cells #[.pointer (some ⟨b, 0, none⟩)] 139)).alloc (.cells #[.slice A1 n1 c1] 68)).alloc (.cells #[.slice A2 n2 c2] 68)).alloc (.cells #[.int .i64 0, .int .i64 0, .slice none 0 0] 181)) = wA at *
  have HA := Lib.hid hbA
  refine (nobody_new (w := wA) (b := b) ?_).mono ?_
  · obtain ⟨cs, h5, h6⟩ := HF.out.ex
    exact ⟨cs, h5.below hbA, h6⟩
  rintro e w2 ⟨rfl, F2, K2⟩
  replace hb1 := hb1.keeps K2 (by omega)
  replace hb2 := hb2.keeps K2 (by omega)
  replace hb3 := hb3.keeps K2 (by omega)
  replace hb4 := hb4.keeps K2 (by omega)
  have HK2 := Lib.hid K2
  have HF2 := Lib.hid F2
  have hk2 : Keep (· = b) w w2 := (Keep.of_below (F := fun k => k = b) hbA).trans K2 (fun k h _ => h)
  have r1 := RdL.keep ByR.stable HR1.out hk2 (fun k hk e => hS (e ▸ hk))
  have r2 := RdL.keep ByR.stable HR2.out hk2 (fun k hk e => hS (e ▸ hk))
  have HB1 := Lib.hid hb1
  have HB2 := Lib.hid hb2
  have HB3 := Lib.hid hb3
  have HB4 := Lib.hid hb4
  have HR1 := Lib.hid r1
  have HR2 := Lib.hid r2
  have HKK := Lib.hid hk2
  have k1 := hb1.cell 0
  have k2 := hb2.cell 0
  have k3 := hb3.cell 0
  have l4 := hb4.lt
  have l3 := hb3.lt
  have l2 := hb2.lt
  have l1 := hb1.lt
  clear hb1 hb2 hb3 hb4 r1 r2 hk2 K2 F2 hbA
  go_wp2_with (go_at_call 162; refine (within_any _).mono ?_; rintro e w9 ⟨rfl, hw9⟩; rw [hw9]; clear hw9; try rw [d1]; try rw [d2])
  have hal : Below w2.heap.size w2 (w2.alloc (.cells #[.slice A1 n1 c1, .slice A2 n2 c2] 68)) := (Below.refl _ _).alloc (Nat.le_refl _) _
  have hbx := BoxAt.new w2 #[.slice A1 n1 c1, .slice A2 n2 c2] 68
  obtain ⟨wB, hwB⟩ : ∃ wB, w2.alloc (.cells #[.slice A1 n1 c1, .slice A2 n2 c2] 68) = wB := ⟨_, rfl⟩
  rw [hwB] at hal hbx ⊢
  have hls : RdL RowR 1 (fun _ => True) wB (some ⟨w2.heap.size, 0, none⟩) 2 [xs, ys] := ⟨rfl, fun _ => ⟨_, 0, rfl, trivial, hbx.lt, fun i x hx => by
    rcases i with _ | _ | i
    · simp at hx; subst hx
      refine ⟨[.slice A1 n1 c1], rfl, ⟨A1, n1, c1, rfl, hcc1, (HR1.out.below ByR.stable hal).weaken ByR.stable (fun _ _ => trivial)⟩, fun j v hj => ?_⟩
      rcases j with _ | j
      · simp at hj; subst hj
        exact hbx.cell 0
      · simp at hj
    · simp at hx; subst hx
      refine ⟨[.slice A2 n2 c2], rfl, ⟨A2, n2, c2, rfl, hcc2, (HR2.out.below ByR.stable hal).weaken ByR.stable (fun _ _ => trivial)⟩, fun j v hj => ?_⟩
      rcases j with _ | j
      · simp at hj; subst hj
        exact hbx.cell 1
      · simp at hj
    · simp at hx⟩⟩
  refine (twice_any hls (by omega) (by intro l hl; simp at hl; rcases hl with rfl | rfl <;> omega) (by simpa using hnd)).mono ?_
  rintro e w4 ⟨rfl, hb4⟩
  have hb24 : Below w2.heap.size w2 w4 := hal.trans (hb4.mono hal.size)
  have HB24 := Lib.hid hb24
  replace k1 := ((HB1.out.below hb24)).cell 0
  replace k2 := ((HB2.out.below hb24)).cell 0
  replace k3 := ((HB3.out.below hb24)).cell 0
  clear hls hbx hal hwB hb4
  have hs24 := hb24.size
  go_wp2_with fail
  refine (filled_any h2 h4 (g := 165) (f := cauF xs ys) (Lib.hid call_cauchy) (Lib.hid fun i j W hi hj hW => ?_)).mono ?_
  · have hb2W : Below w2.heap.size w2 W := HB24.out.trans (hW.mono hs24)
    have hne : gt xs i ≠ gt ys j := fun e => (List.nodup_append.1 hnd).2.2 _ (gt_mem (by omega)) _ (gt_mem (by omega)) e
    exact (cauchy1_any (HF2.out.below hb2W) (HB1.out.below hb2W) (HB2.out.below hb2W) (HB3.out.below hb2W) (HR1.out.below ByR.stable hb2W) (HR2.out.below ByR.stable hb2W) hi hj hne).mono fun e W' h => ⟨h.1, gm_lt, h.2⟩
  rintro e w5 ⟨A, c, rfl, hc, hr, hb5⟩
  have hb25 : Below w2.heap.size w2 w5 := HB24.out.trans (hb5.mono hs24)
  have g0 := (HB4.out.below hb25).cell 0
  have g1 := (HB4.out.below hb25).cell 1
  have g2 := (HB4.out.below hb25).cell 2
  have f0 := (HB4.out.below hb25).frozen 0
  have f1 := (HB4.out.below hb25).frozen 1
  have f2 := (HB4.out.below hb25).frozen 2
  have HB25 := Lib.hid hb25
  have HRR := Lib.hid hr
  have hs25 := hb25.size
  clear hr hb5 hb25 k1 k2 k3 hnd
  go_wp2_with fail
  refine bodyPost_ret (v := .tuple #[.agg #[.int .i64 (n1 : Int), .int .i64 (n2 : Int), .slice A (n1 * n2) c], .int .i64 0]) (by simp [results, Tryz.results133, go_sem, *]) rfl ?_
  refine ⟨A, c, rfl, hc, ?_, ?_, ?_⟩
  · refine RdL.weaken ByR.stable (S := fun k => w4.heap.size ≤ k) ?_ (fun k hk => by have h5 : w4.heap.size ≤ k := hk; show _ ≤ k; omega)
    repeat (first | exact HRR.out | refine RdL.setCell ByR.stable ?_ (show ¬ w4.heap.size ≤ _ by dsimp only; omega) _)
  · refine HF2.out.keep ?_
    have hbk := HB25.out.block b (by omega)
    repeat (first | exact hbk | refine (Below.heap_setCell _ _ _ _ (by dsimp only; omega)).trans ?_)
  · have hkk : Keep (· = b) w w5 := HKK.out.trans (Keep.of_below (F := fun _ => False) HB25.out) (fun _ h => h.elim)
    repeat (first | exact hkk | refine Keep.setCell ?_ (fun h5 => absurd h5 (by dsimp only; omega)) _)
end
section
open Go.Lib
section
variable {P : Program} (w : World)
end
section
variable {ops : Array Oper} {rest : List Oper} {o : Oper} {a : Act} {Q : Exit → Act → World → Prop} {w : World}
end
end
section

theorem sl_rows : SlTy Tryz.prog 151 68 (.slice none 0 0) 1 24 := ⟨by kernel_rfl, by kernel_rfl, by kernel_rfl, by omega⟩
theorem flat_get : ∀ {V : Rws} {n m : Nat}, Shp n m V → ∀ {i j : Nat}, i < n → j < m → gt V.flatten (i * m + j) = gt (ra V i) j
  | V, n, m, h, i, j, hi, hj => by
    have h1 := flatten_get V (fun r hr => (h.2 r hr).1) i (ra V i) j (ra_of_lt (by rw [h.1]; exact hi)) hj
    unfold gt
    rw [List.getD_eq_getElem?_getD, List.getD_eq_getElem?_getD, h1]
/-- A matrix at work. -/
structure WorkAt (w : World) (p b m base g n c : Nat) (a : Rws) : Prop where
  box : BoxAt w p #[.pointer (some ⟨b, 0, none⟩), .slice (some ⟨g, 0, none⟩) n c]
  cur : ∃ cur : Array Value, BoxAt w g cur ∧ n ≤ cur.size ∧ ∀ i, i < n → ∃ A c', cur[i]? = some (.slice A m c') ∧ m ≤ c' ∧ RdL ByR 1 (fun k => base ≤ k ∧ k ≠ g ∧ k ≠ p) w A m (ra a i)
  shp : Shp n m a
  pg : p ≠ g
  hp : base ≤ p
  hg : base ≤ g
  nc : n ≤ c
section
variable {w w' : World} {p b m base g n c : Nat} {a : Rws}
theorem WorkAt.below (h : WorkAt w p b m base g n c a) (hb : Below w.heap.size w w') : WorkAt w' p b m base g n c a := by
  obtain ⟨cur, h1, h2, h3⟩ := h.cur
  refine ⟨h.box.below hb, ⟨cur, h1.below hb, h2, fun i hi => ?_⟩, h.shp, h.pg, h.hp, h.hg, h.nc⟩
  obtain ⟨A, c', e1, e2, e3⟩ := h3 i hi
  exact ⟨A, c', e1, e2, e3.below ByR.stable hb⟩
theorem WorkAt.row (h : WorkAt w p b m base g n c a) {i : Nat} (hi : i < n) : ∃ A c', w.cell? ⟨g, i, none⟩ = some (.slice A m c') ∧ w.frozen? ⟨g, i, none⟩ = false ∧ m ≤ c' ∧ RdL ByR 1 (fun k => base ≤ k ∧ k ≠ g ∧ k ≠ p) w A m (ra a i) := by
  obtain ⟨cur, h1, h2, h3⟩ := h.cur
  obtain ⟨A, c', e1, e2, e3⟩ := h3 i hi
  exact ⟨A, c', (h1.cell i).trans e1, h1.frozen i, e2, e3⟩
/-- A row is laid. -/
theorem WorkAt.set (h : WorkAt w p b m base g n c a) {i c' : Nat} {A : Option Addr} {r : List Nat} (hi : i < n) (hc : m ≤ c') (hr : RdL ByR 1 (fun k => base ≤ k ∧ k ≠ g ∧ k ≠ p) w A m r) :
    WorkAt (w.setCell ⟨g, i, none⟩ (.slice A m c')) p b m base g n c (a.set i r) := by
  obtain ⟨cur, h1, h2, h3⟩ := h.cur
  have hst : ∀ {A : Option Addr} {x : List Nat}, RdL ByR 1 (fun k => base ≤ k ∧ k ≠ g ∧ k ≠ p) w A m x → RdL ByR 1 (fun k => base ≤ k ∧ k ≠ g ∧ k ≠ p) (w.setCell ⟨g, i, none⟩ (.slice A m c')) A m x → True := fun _ _ => trivial
  refine ⟨h.box.set_other (by exact h.pg) _, ⟨_, h1.set i _, by rw [Array.size_setIfInBounds]; exact h2, fun k hk => ?_⟩, .of (by rw [List.length_set, h.shp.1]) fun k hk => ?_, h.pg, h.hp, h.hg, h.nc⟩
  · rw [ra_set _ _ _ (by rw [h.shp.1]; exact hk)]
    by_cases e : k = i
    · subst e
      rw [if_pos rfl, set_eq (by omega)]
      exact ⟨A, c', rfl, hc, hr.setCell ByR.stable (fun h => h.2.1 rfl) _⟩
    · rw [if_neg e, set_ne (fun h => e h.symm)]
      obtain ⟨A1, c1, e1, e2, e3⟩ := h3 k hk
      exact ⟨A1, c1, e1, e2, e3.setCell ByR.stable (fun h => h.2.1 rfl) _⟩
  · rw [ra_set _ _ _ (by rw [h.shp.1]; exact hk)]
    split
    · exact ⟨hr.1, by_byt hr⟩
    · exact h.shp.row hk
/-- Out of rows of the call's own. -/
theorem WorkAt.of_own {v : Value} (hbx : BoxAt w p #[.pointer (some ⟨b, 0, none⟩), v]) (ho : OwnL RowR 68 1 (p + 1) (fun k => p < k) w v n a) (hn : 0 < n) (hbase : base ≤ p) (hs : Shp n m a) :
    ∃ g c, v = .slice (some ⟨g, 0, none⟩) n c ∧ WorkAt w p b m base g n c a := by
  obtain ⟨css, h1, h2, h3, h4, h5⟩ := ho
  rcases h1.2 with ⟨_, e⟩ | ⟨g, cap, cur, rfl, hg, hblk, hnc, hcm, hsz, ht⟩
  · omega
  · refine ⟨g, cap, rfl, hbx, ⟨cur, ⟨_, hblk⟩, by omega, fun i hi => ?_⟩, hs, by omega, hbase, by omega, hnc⟩
    obtain ⟨A, n', c', e1, e2, e3⟩ := h5 i css[i] (ra a i) (List.getElem?_eq_getElem (by omega)) (ra_of_lt (by omega))
    have hm : n' = m := by rw [← e3.1]; exact (hs.row hi).1
    subst hm
    refine ⟨A, c', ?_, e2, e3.stable ByR.stable fun k hk _ => ⟨⟨by have := hk.1; omega, fun e => hk.2 (by rw [e]; rfl), by have := hk.1; omega⟩, rfl⟩⟩
    have hf := flatten_get css h4 i css[i] 0 (List.getElem?_eq_getElem (by omega)) (by omega)
    rw [Nat.mul_one, Nat.add_zero, e1] at hf
    have hc := h1.cells (g := g) rfl i _ hf
    rw [Addr.add_lit, Nat.zero_add] at hc
    rw [← hc]
    exact (BoxAt.cell (w := w) (b := g) (cs := cur) ⟨_, hblk⟩ i).symm
end
end
section

structure BegI (w0 wr : World) (mb p b n i : Nat) (mv : Array Value) (A : Option Addr) (c : Nat) (a : Rws) : Prop where
  own : OwnL RowR 68 1 (p + 1) (fun k => p < k) wr (.slice A i c) i a
  bp : BoxAt wr p #[.pointer (some ⟨b, 0, none⟩), .slice A i c]
  bm : BoxAt wr mb mv
  mp : mb < p
  hm : w0.heap.size ≤ mb
  bel : Below w0.heap.size w0 wr
theorem BegI.below {w0 wr w2 : World} {mb p b n i : Nat} {mv : Array Value} {A : Option Addr} {c : Nat} {a : Rws} (h : BegI w0 wr mb p b n i mv A c a) (hb : Below wr.heap.size wr w2) : BegI w0 w2 mb p b n i mv A c a :=
  ⟨h.own.keep RowR.stable hb, h.bp.below hb, h.bm.below hb, h.mp, h.hm, h.bel.trans (hb.mono h.bel.size)⟩
theorem BegI.pushed {w0 w2 : World} {mb p b n i : Nat} {mv : Array Value} {A A' : Option Addr} {c c' : Nat} {a : Rws} {y : List Nat} (h : BegI w0 w2 mb p b n i mv A c a) (u : Grw (Value.slice A i c).ownBlock w2)
    (hown : OwnL RowR 68 1 (p + 1) (fun k => p < k) u.to (.slice A' (i + 1) c') (i + 1) (a ++ [y])) (hb : Below (p + 1) w2 u.to) :
    BegI w0 (u.to.setCell ⟨p, 1, none⟩ (.slice A' (i + 1) c')) mb p b n (i + 1) mv A' c' (a ++ [y]) := by
  have hl := h.bp.lt
  have hm := h.mp
  have hne : ∀ k, k ≤ p → some k ≠ (Value.slice A i c).ownBlock := fun k hk e => by
    have := (h.own.lt k e.symm).1; omega
  have hne2 : Value.ownBlock (.slice A' (i + 1) c') ≠ some p := fun e => by
    have := (hown.lt p e).1; omega
  refine ⟨?_, ?_, (h.bm.grw u.ok (hne mb (by omega))).set_other (by show mb ≠ p; omega) _, h.mp, h.hm, (h.bel.trans (hb.mono (by have := h.hm; omega))).setCell (by have := h.hm; show _ ≤ p; omega) _⟩
  · obtain ⟨css, h1, h2, h3, h4, h5⟩ := hown
    refine ⟨css, h1.kept (row := some p) ⟨rfl, rfl, rfl, by simp, fun k _ hk => Below.heap_setCell _ _ _ _ (fun e => hk (by rw [e]))⟩ (.inr hne2), h2, h3, h4, fun i cs x hc hx => ?_⟩
    exact RowR.stable _ _ _ _ _ _ (h5 i cs x hc hx) fun k hk _ => ⟨hk, Below.heap_setCell _ _ _ _ (fun e => by have := hk.1; dsimp only at e; omega)⟩
  · have := (h.bp.grw u.ok (hne p (Nat.le_refl _))).set 1 (.slice A' (i + 1) c')
    simpa using this

end
section

end
section

end
section

end
section

def mkF (f : Nat → Nat → Nat) (rows cols : Nat) : Rws := (List.range rows).map fun i => (List.range cols).map (f i)
theorem mkF_flat (f : Nat → Nat → Nat) (rows cols : Nat) : flatF f rows cols = (mkF f rows cols).flatten := rfl
theorem mkF_ra {f : Nat → Nat → Nat} {rows cols i : Nat} (hi : i < rows) : ra (mkF f rows cols) i = (List.range cols).map (f i) := ra_some (by unfold mkF; rw [List.getElem?_map, List.getElem?_range hi]; rfl)
theorem range_gt {f : Nat → Nat} {n j : Nat} (hj : j < n) : gt ((List.range n).map f) j = f j := by
  unfold gt
  rw [List.getD_eq_getElem?_getD, List.getElem?_map, List.getElem?_range hj]; rfl
theorem mkF_shp {f : Nat → Nat → Nat} {rows cols : Nat} (h : ∀ i j, i < rows → j < cols → f i j < 256) : Shp rows cols (mkF f rows cols) := .of (by unfold mkF; simp) fun i hi => by
  rw [mkF_ra hi]
  refine ⟨by simp, fun x hx => ?_⟩
  obtain ⟨j, hj, rfl⟩ := List.mem_map.1 hx
  exact h i j hi (List.mem_range.1 hj)
end
section

/-- Rows, each times a factor, added to z. -/
def combF : List Nat → Rws → List Nat → List Nat
  | c :: cs, r :: rs, z => combF cs rs (fd c r z)
  | _, _, z => z
theorem combF_snoc : ∀ (cs : List Nat) (rs : Rws) (c : Nat) (r z : List Nat), cs.length = rs.length → combF (cs ++ [c]) (rs ++ [r]) z = fd c r (combF cs rs z)
  | [], [], _, _, _, _ => rfl
  | [], _ :: _, _, _, _, h => by cases h
  | _ :: _, [], _, _, _, h => by cases h
  | c' :: cs, r' :: rs, c, r, z, h => combF_snoc cs rs c r (fd c' r' z) (by simpa using h)
theorem combF_take {u : List Nat} {B : Rws} {z : List Nat} {j : Nat} (hj : j < u.length) (hb : j < B.length) : combF (u.take (j + 1)) (B.take (j + 1)) z = fd (gt u j) (ra B j) (combF (u.take j) (B.take j) z) := by
  rw [take_gt hj, show B.take (j + 1) = B.take j ++ [ra B j] by rw [List.take_add_one, ra_of_lt hb]; rfl, combF_snoc _ _ _ _ _ (by rw [List.length_take, List.length_take]; omega)]
theorem combF_ok {m : Nat} : ∀ (cs : List Nat) (rs : Rws) (z : List Nat), z.length = m → Byt z → (combF cs rs z).length = m ∧ Byt (combF cs rs z)
  | [], _, _, h, h2 => ⟨h, h2⟩
  | _ :: _, [], _, h, h2 => ⟨h, h2⟩
  | c :: cs, r :: rs, z, h, h2 => combF_ok cs rs (fd c r z) (by rw [fd_len]; exact h) (fd_byt _ _ _ h2)
theorem byt_zeros (m : Nat) : Byt (List.replicate m 0) := fun x hx => by rw [(List.mem_replicate.1 hx).2]; omega
end
section

def risF (a b : Nat) : List Nat := (List.range (b - a)).map (a + ·)
theorem risF_gt {a b i : Nat} (h : i < b - a) : gt (risF a b) i = a + i := range_gt h
theorem risF_nodup (k m : Nat) : (risF k (k + m) ++ risF 0 k).Nodup := by
  have h1 : ∀ a b, (risF a b).Nodup := fun a b => by
    unfold risF
    exact List.Pairwise.map _ (fun x y h h2 => h (by omega)) List.nodup_range
  rw [List.nodup_append]
  refine ⟨h1 _ _, h1 _ _, fun x hx y hy e => ?_⟩
  obtain ⟨i, _, rfl⟩ := List.mem_map.1 hx
  obtain ⟨j, hj, rfl⟩ := List.mem_map.1 hy
  have := List.mem_range.1 hj
  omega
/-- The factor of data row j in shard i. -/
def fac (k i j : Nat) : Nat := if i < k then (if i = j then 1 else 0) else dv 1 (i ^^^ j)
def rowF (k i : Nat) : List Nat := (List.range k).map (fac k i)
theorem fac_lt (k i j : Nat) : fac k i j < 256 := by
  unfold fac
  split
  · split <;> decide
  · exact gm_lt
theorem rowF_len (k i : Nat) : (rowF k i).length = k := by unfold rowF; simp
theorem rowF_gt {k i j : Nat} (hj : j < k) : gt (rowF k i) j = fac k i j := range_gt hj
theorem cau_gt {k m i j : Nat} (hi : i < m) (hj : j < k) : gt (flatF (cauF (risF k (k + m)) (risF 0 k)) m k) (i * k + j) = fac k (k + i) j := by
  have hs : Shp m k (mkF (cauF (risF k (k + m)) (risF 0 k)) m k) := mkF_shp fun _ _ _ _ => gm_lt
  rw [mkF_flat, flat_get hs hi hj, mkF_ra hi, range_gt hj]
  unfold cauF fac
  rw [risF_gt (by omega), risF_gt (by omega), if_neg (by omega), Nat.zero_add]

structure CodAt (w : World) (cb b k m : Nat) : Prop where
  box : ∃ A c, BoxAt w cb #[.int .i64 (k : Int), .int .i64 (m : Int), .pointer (some ⟨b, 0, none⟩), .int .i64 (m : Int), .int .i64 (k : Int), .slice A (m * k) c] ∧ m * k ≤ c ∧
    RdL ByR 1 (fun _ => True) w A (m * k) (flatF (cauF (risF k (k + m)) (risF 0 k)) m k)
  fld : Fld w b
  k1 : 1 ≤ k
  m1 : 1 ≤ m
  km : k + m ≤ 255
theorem CodAt.below {w w' : World} {cb b k m : Nat} (h : CodAt w cb b k m) (hb : Below w.heap.size w w') : CodAt w' cb b k m := by
  obtain ⟨A, c, h1, h2, h3⟩ := h.box
  exact ⟨⟨A, c, h1.below hb, h2, h3.below ByR.stable hb⟩, h.fld.below hb, h.k1, h.m1, h.km⟩
section
variable {w : World} {cb b k m : Nat}
theorem none_any (h : CodAt w cb b k m) : Calls Tryz.prog 121 #[.pointer (some ⟨cb, 0, none⟩)] w fun e w' => e = .returned (.bool false) ∧ w' = w := by
  obtain ⟨A, c, h1, _⟩ := h.box
  have k2 := h1.cell 2
  go_enter Tryz.func121, Tryz.ntmps121
  go_wp2_with fail
  go_ret
  exact ⟨rfl, rfl⟩
theorem none_nil : Calls Tryz.prog 121 #[.pointer none] w fun e w' => e = .returned (.bool true) ∧ w' = w := by
  go_enter Tryz.func121, Tryz.ntmps121
  go_wp2_with fail
  go_ret
  exact ⟨rfl, rfl⟩
theorem all_any (h : CodAt w cb b k m) : Calls Tryz.prog 122 #[.pointer (some ⟨cb, 0, none⟩)] w fun e w' => e = .returned (.int .i64 ((k + m : Nat) : Int)) ∧ Below w.heap.size w w' := by
  obtain ⟨A, c, h1, _⟩ := h.box
  have k0 := h1.cell 0
  have k1 := h1.cell 1
  have hl := h1.lt
  have hkm := h.km
  have q : IntKind.i64.wrap ((k : Int) + (m : Int)) = ((k + m : Nat) : Int) := by rw [IntKind.wrap_i64]; omega
  clear h h1
  go_enter Tryz.func122, Tryz.ntmps122
  go_wp2_with fail
  refine wp_region_later (by kernel_rfl) (by kernel_rfl) ?_
  repeat (go_big_quiet_step (fail))
  refine wpQuiet_nil ?_
  rintro _ ⟨z, rfl⟩
  go_wp2_with fail
  go_ret
  exact ⟨rfl, z.ok⟩
theorem data_any (h : CodAt w cb b k m) : Calls Tryz.prog 140 #[.pointer (some ⟨cb, 0, none⟩)] w fun e w' => e = .returned (.int .i64 (k : Int)) ∧ w' = w := by
  obtain ⟨A, c, h1, _⟩ := h.box
  have k0 := h1.cell 0
  go_enter Tryz.func140, Tryz.ntmps140
  go_wp2_with fail
  go_ret
  exact ⟨rfl, rfl⟩
theorem has_ok (h : CodAt w cb b k m) {i : Nat} (hi : i < k + m) : Calls Tryz.prog 211 #[.pointer (some ⟨cb, 0, none⟩), .int .i64 (i : Int)] w fun e w' => e = .returned (.bool true) ∧ Below w.heap.size w w' := by
  have hA := all_any h
  have q1 : (i : Int) ≥ 0 := Int.natCast_nonneg _
  have q2 : (i : Int) < (k : Int) + (m : Int) := by omega
  clear h
  go_enter Tryz.func211, Tryz.ntmps211
  go_wp2_with (go_at_call 122; refine hA.mono ?_; rintro e w2 ⟨rfl, hb⟩; have HB := Lib.hid hb; clear hb hA)
  go_ret
  exact ⟨rfl, HB.out⟩
theorem cn_any (h : CodAt w cb b k m) : Calls Tryz.prog 57 #[.pointer (some ⟨cb, 0, none⟩)] w fun e w' => e = .returned (.int .i64 ((k + m : Nat) : Int)) ∧ Below w.heap.size w w' := by
  have hA := all_any h
  have hN := none_any h
  clear h
  go_enter Tryz.func57, Tryz.ntmps57
  go_wp2_with (first | (go_at_call 121; refine hN.mono ?_; rintro e w9 ⟨rfl, hw9⟩; rw [hw9]; clear hw9) | (go_at_call 122; refine hA.mono ?_; rintro e w2 ⟨rfl, hb⟩; have HB := Lib.hid hb; clear hb hA))
  go_ret
  exact ⟨rfl, HB.out⟩
theorem cn_nil : Calls Tryz.prog 57 #[.pointer none] w fun e w' => e = .returned (.int .i64 0) ∧ w' = w := by
  go_enter Tryz.func57, Tryz.ntmps57
  go_wp2_with (go_at_call 121; refine none_nil.mono ?_; rintro e w9 ⟨rfl, hw9⟩; rw [hw9]; clear hw9)
  go_ret
  exact ⟨rfl, rfl⟩
theorem ck_any (h : CodAt w cb b k m) : Calls Tryz.prog 88 #[.pointer (some ⟨cb, 0, none⟩)] w fun e w' => e = .returned (.int .i64 (k : Int)) ∧ w' = w := by
  have hA := data_any h
  have hN := none_any h
  clear h
  go_enter Tryz.func88, Tryz.ntmps88
  go_wp2_with (first | (go_at_call 121; refine hN.mono ?_; rintro e w9 ⟨rfl, hw9⟩; rw [hw9]; clear hw9) | (go_at_call 140; refine hA.mono ?_; rintro e w9 ⟨rfl, hw9⟩; rw [hw9]; clear hw9))
  go_ret
  exact ⟨rfl, rfl⟩
end
theorem unit_row {k i : Nat} (hi : i < k) : (List.replicate k 0).set i 1 = rowF k i := gt_ext (by rw [List.length_set, List.length_replicate, rowF_len]) fun j hj => by
  rw [List.length_set, List.length_replicate] at hj
  rw [gt_set _ _ _ (by rw [List.length_replicate]; exact hj), rowF_gt hj]
  unfold fac
  rw [if_pos hi]
  by_cases e : j = i
  · rw [if_pos e, if_pos e.symm]
  · rw [if_neg e, if_neg (fun h => e h.symm)]
    unfold gt
    rw [List.getD_eq_getElem?_getD, List.getElem?_replicate]
    split <;> rfl
def rowP (k i j : Nat) : List Nat := (List.range j).map (fac k i) ++ List.replicate (k - j) 0
theorem rowP_zero (k i : Nat) : rowP k i 0 = List.replicate k 0 := by unfold rowP; simp
theorem rowP_end (k i : Nat) : rowP k i k = rowF k i := by unfold rowP rowF; simp
theorem rowP_len {k i j : Nat} (hj : j ≤ k) : (rowP k i j).length = k := by unfold rowP; simp; omega
theorem rowP_next {k i j : Nat} (hj : j < k) : (rowP k i j).set j (fac k i j) = rowP k i (j + 1) := by
  unfold rowP
  rw [List.set_append_right _ _ (by simp), List.range_succ, List.map_append, List.append_assoc]
  congr 1
  obtain ⟨d, hd⟩ : ∃ d, k - j = d + 1 := ⟨k - j - 1, by omega⟩
  rw [hd, show k - (j + 1) = d by omega, List.replicate_succ]
  simp
end
section
set_option maxRecDepth 100000 in
set_option maxHeartbeats 4000000 in
theorem crow_any {w : World} {cb b k m : Nat} (H : CodAt w cb b k m) {i : Nat} (hi : i < k + m) :
    Calls Tryz.prog 177 #[.pointer (some ⟨cb, 0, none⟩), .int .i64 (i : Int)] w fun e w' => ∃ g, e = .returned (.slice (some ⟨g, 0, none⟩) k k) ∧ RdL ByR 1 (fun j => w.heap.size ≤ j) w' (some ⟨g, 0, none⟩) k (rowF k i) ∧ Below w.heap.size w w' := by
  have HC := Lib.hid H
  have hk1 := H.k1
  have hm1 := H.m1
  have hkm := H.km
  have hN := none_any H
  have hH := has_ok H hi
  have q0 : (0 : Int) ≤ (i : Int) := Int.natCast_nonneg _
  have q1 : (i : Int) < ((k + m : Nat) : Int) := by omega
  have q2 : (0 : Int) ≤ (k : Int) := Int.natCast_nonneg _
  have q3 : (k : Int) ≤ 255 := by omega
  clear H
  go_enter Tryz.func177, Tryz.ntmps177
  go_wp2_with (first | (go_at_call 121; refine hN.mono ?_; rintro e w9 ⟨rfl, hw9⟩; rw [hw9]; clear hw9 hN))
  refine hH.mono ?_
  rintro e w2 ⟨rfl, hb⟩
  have hC2 := HC.out.below hb
  obtain ⟨A, c, hbx, hc, hrd⟩ := hC2.box
  have k0 := hbx.cell 0
  have hmk := makeBy k (by omega) w2
  have hz := RowIn.made w2 k 5
  have hbz : Below w2.heap.size w2 (w2.alloc (.cells (Array.replicate k (.int .u8 0)) 5)) := (Below.refl _ _).alloc (Nat.le_refl _) _
  obtain ⟨w5, hw5⟩ : ∃ w5, w2.alloc (.cells (Array.replicate k (.int .u8 0)) 5) = w5 := ⟨_, rfl⟩
  rw [hw5] at hmk hz hbz
  obtain ⟨g, hg⟩ : ∃ g, w2.heap.size = g := ⟨_, rfl⟩
  rw [hg] at hmk hz
  have hgs : w.heap.size ≤ g := by have := hb.size; omega
  have hb5 : Below w.heap.size w w5 := hb.trans (hbz.mono hb.size)
  have HZ := Lib.hid hz
  have HB5 := Lib.hid hb5
  have hbx5 := hbx.below hbz
  have x0 := hbx5.cell 0
  have HC5 := Lib.hid (hC2.below hbz)
  clear hH hb hbx hrd hC2 hbz hb5 hw5 hg
  by_cases hik : i < k
  · have p1 : (i : Int) < (k : Int) := by omega
    have c1 := hz.cell (i := i) (by rw [List.length_replicate]; exact hik)
    have f1 := hz.frozen i
    clear hz
    go_wp2_with fail
    go_ret
    refine ⟨g, rfl, ?_, HB5.out.setCell (by exact hgs) _⟩
    have := (HZ.out.set (i := i) (x := 1) (by rw [List.length_replicate]; exact hik) (by decide)).rd (S := fun j => w.heap.size ≤ j) hgs
    rw [unit_row hik, rowF_len] at this
    exact this
  · have p1 : ¬ (i : Int) < (k : Int) := by omega
    have hz0 : RowIn w5 g (Array.replicate k (.int .u8 0)) (rowP k i 0) := by rw [rowP_zero]; exact hz
    have HZ0 := Lib.hid hz0
    clear hz hz0 HZ
    go_wp2_with fail
    clear hmk x0 k0
    go_loopw [36] (fun vi wr => ∃ (j : Nat) (cur : Array Value), j ≤ k ∧ vi = .int .i64 j ∧ Hid (RowIn wr g cur (rowP k i j)) ∧ Hid (Below w.heap.size w wr)) (fun vi _ => k - (intOf vi).toNat)
    case atStart => exact ⟨0, _, Nat.zero_le _, rfl, HZ0, HB5⟩
    case round =>
      clear HZ0 HB5 HC5 hbx5
      obtain ⟨j, cur, hj, rfl, RW, HB⟩ := hrel
      have p0 : (0 : Int) ≤ (j : Int) := Int.natCast_nonneg _
      by_cases hlt : j < k
      · have p2 : (j : Int) < (k : Int) := by omega
        have hC := (HC.out.below HB.out).below (w' := wr.drew) (Below.refl _ _).drew
        obtain ⟨A, c, hbx, hc, hrd⟩ := hC.box
        have hat := at_any (w := wr.drew) hm1 (by omega) hk1 (by omega) hrd hc (i := i - k) (j := j) (by omega) hlt
        rw [cau_gt (by omega) hlt, show k + (i - k) = i by omega] at hat
        have p3 : IntKind.i64.wrap ((i : Int) - (k : Int)) = ((i - k : Nat) : Int) := by rw [IntKind.wrap_i64]; omega
        have p4 : (i : Int) - (k : Int) = ((i - k : Nat) : Int) := by omega
        have p5 : IntKind.i64.wrap ((i - k : Nat) : Int) = ((i - k : Nat) : Int) := by rw [IntKind.wrap_i64]; omega
        have s1 : wr.drew.cell? ⟨cb, 0, none⟩ = some (.int .i64 k) ∧ wr.drew.cell? ⟨cb, 3, none⟩ = some (.int .i64 m) ∧ wr.drew.cell? ⟨cb, 4, none⟩ = some (.int .i64 k) ∧ wr.drew.cell? ⟨cb, 5, none⟩ = some (.slice A (m * k) c) := ⟨hbx.cell 0, hbx.cell 3, hbx.cell 4, hbx.cell 5⟩
        have hcl := hbx.lt
        have hll := rowP_len (i := i) hj
        clear hC hbx hrd
        go_wp2_with fail
        refine wp_region_L (S := fun w' => w'.cell? ⟨cb, 0, none⟩ = some (.int .i64 k) ∧ w'.cell? ⟨cb, 3, none⟩ = some (.int .i64 m) ∧ w'.cell? ⟨cb, 4, none⟩ = some (.int .i64 k) ∧ w'.cell? ⟨cb, 5, none⟩ = some (.slice A (m * k) c)) [16] (by kernel_rfl) (by first | exact s1 | exact s2) (fun hHeld => ?_)
        refine tkL 0 rfl ?_
        refine tkL 1 rfl ?_
        refine tkL 2 rfl ?_
        refine tkL 3 rfl ?_
        refine tkL 4 rfl ?_
        refine tkL 5 rfl ?_
        refine tkL 6 rfl ?_
        refine tkL 7 rfl ?_
        refine tkL 8 rfl ?_
        refine tkL 9 rfl ?_
        refine tkL 10 rfl ?_
        refine tkL 11 rfl ?_
        refine tkL 12 rfl ?_
        refine tkL 13 rfl ?_
        refine rdL 14 rfl fun K hK => ?_
        try simp (maxSteps := 2000000) only [zz1, zz2, zz3]
        go_simp
        go_at_call 212
        refine hat.mono ?_
        rintro e w6 ⟨rfl, hb6⟩
        have s2 : w6.cell? ⟨cb, 0, none⟩ = some (.int .i64 k) ∧ w6.cell? ⟨cb, 3, none⟩ = some (.int .i64 m) ∧ w6.cell? ⟨cb, 4, none⟩ = some (.int .i64 k) ∧ w6.cell? ⟨cb, 5, none⟩ = some (.slice A (m * k) c) := ⟨(hb6.cell (p := ⟨cb, 0, none⟩) hcl).trans s1.1, (hb6.cell (p := ⟨cb, 3, none⟩) hcl).trans s1.2.1, (hb6.cell (p := ⟨cb, 4, none⟩) hcl).trans s1.2.2.1, (hb6.cell (p := ⟨cb, 5, none⟩) hcl).trans s1.2.2.2⟩
        have c2 := (RW.out.drew.below hb6).cell (i := j) (by omega)
        have f2 := (RW.out.drew.below hb6).frozen j
        have HB6 := Lib.hid hb6
        clear hat hb6
        try (go_wp2_with fail)
        refine hK.out _ _ (by first | exact s1 | exact s2) (fun hHeld => ?_)
        clear hK K
        try simp (maxSteps := 2000000) only [zz1, zz2, zz3, Act.put, zz4, zz5, zz6]
        refine tkL 15 rfl ?_
        refine lsL 16 rfl fun K hK => ?_
        try simp (maxSteps := 2000000) only [zz1, zz2, zz3]
        go_simp
        refine hK.out _ _ ?_
        clear hK K
        try simp (maxSteps := 2000000) only [zz1, zz2, zz3, Act.put, zz4, zz5, zz6]
        refine wpAnyL_done (by kernel_rfl) ?_ _
        have r5 := (RW.out.drew.below HB6.out).set (i := j) (x := fac k i j) (by omega) (fac_lt _ _ _)
        rw [rowP_next hlt] at r5
        have b5 := (HB.out.drew.trans (HB6.out.mono HB.out.size)).setCell (p := ⟨g, j, none⟩) hgs (.int .u8 (fac k i j : Int))
        have R5 := Lib.hid r5
        have B5 := Lib.hid b5
        clear r5 b5 s1 s2 hHeld c2 f2
        go_wp2_with fail
        exact ⟨⟨j + 1, _, by omega, by go_num, R5, B5⟩, by simp [intOf]; omega⟩
      · have p2 : ¬ (j : Int) < (k : Int) := by omega
        obtain rfl : j = k := by omega
        go_wp2_with fail
        go_ret
        refine ⟨g, rfl, ?_, HB.out⟩
        have := RW.out.rd (S := fun i => w.heap.size ≤ i) hgs
        rw [rowP_end, rowF_len] at this
        exact this
end
section

theorem risF_next {a b i : Nat} (h : a + i < b) : risF a (a + (i + 1)) = risF a (a + i) ++ [a + i] := by
  unfold risF
  rw [show a + (i + 1) - a = i + 1 by omega, show a + i - a = i by omega, List.range_succ, List.map_append]; rfl
set_option maxRecDepth 100000 in
set_option maxHeartbeats 4000000 in
theorem rising_any {w : World} {a b : Nat} (hab : a ≤ b) (hb : b ≤ 255) :
    Calls Tryz.prog 134 #[.int .i64 (a : Int), .int .i64 (b : Int)] w fun e w' => ∃ A c, e = .returned (.slice A (b - a) c) ∧ b - a ≤ c ∧ RdL ByR 1 (fun j => w.heap.size ≤ j) w' A (b - a) (risF a b) ∧ Below w.heap.size w w' := by
  have q0 : (0 : Int) ≤ (a : Int) := Int.natCast_nonneg _
  have q1 : (b : Int) ≤ 255 := by omega
  have q2 : (a : Int) ≤ (b : Int) := by omega
  have q3 : IntKind.i64.wrap ((b : Int) - (a : Int)) = ((b - a : Nat) : Int) := by rw [IntKind.wrap_i64]; omega
  have q4 : (b : Int) - (a : Int) = ((b - a : Nat) : Int) := by omega
  have q5 : IntKind.i64.wrap ((b - a : Nat) : Int) = ((b - a : Nat) : Int) := by rw [IntKind.wrap_i64]; omega
  go_enter Tryz.func134, Tryz.ntmps134
  go_wp2_with (at_make; refine wpList_make0 ByR (fun _ => True) sl_by rfl rfl (base := w.heap.size) rfl rfl (b - a) (by omega) (by omega) (by unfold maxLen; omega) (by (first | (with_reducible exact Nat.le_refl _) | omega | (simp only [World.size_alloc, World.size_setCell, World.size_drew] <;> omega))) ?_; intro y hys hown; have hyb : Below w.heap.size w y.to := y.ok; have HO := Lib.hid hown; have HB := Lib.hid hyb; clear hown hyb hys)
  go_loopw [5, 6] (fun vs vi wr => ∃ (i : Nat) (A : Option Addr) (c : Nat), i ≤ b - a ∧ vi = .int .i64 ((a + i : Nat) : Int) ∧ vs = .slice A i c ∧ i ≤ c ∧ Hid (OwnL ByR 5 1 w.heap.size (fun _ => True) wr (.slice A i c) i (risF a (a + i))) ∧ Hid (Below w.heap.size w wr)) (fun _ vi _ => b - (intOf vi).toNat)
  case atStart => exact ⟨0, _, _, Nat.zero_le _, rfl, rfl, Nat.zero_le _, by rw [show risF a (a + 0) = [] by unfold risF; simp]; exact HO, HB⟩
  case round =>
    clear HO HB
    obtain ⟨i, A, c, hi, rfl, rfl, hc, HO, HB⟩ := hrel
    have p0 : (0 : Int) ≤ ((a + i : Nat) : Int) := Int.natCast_nonneg _
    by_cases hlt : i < b - a
    · have p1 : ((a + i : Nat) : Int) < (b : Int) := by omega
      have p2 : IntKind.u8.wrap ((a + i : Nat) : Int) = ((a + i : Nat) : Int) := by rw [IntKind.wrap_u8]; omega
      have p3 : (a : Int) + (i : Int) < (b : Int) := by omega
      have p4 : IntKind.u8.wrap ((a : Int) + (i : Int)) = (a : Int) + (i : Int) := by rw [IntKind.wrap_u8]; omega
      have hnx := risF_next (a := a) (b := b) (i := i) (by omega)
      have HN := Lib.hid hnx
      have hbz := HB.out.size
      clear hnx
      go_wp2_with (at_builtin; go_must (refine wpList_push1 ByR.stable ByR.one sl_by (by rfl) (by rfl) (base := w.heap.size) (S := fun _ => True) (cs := #[.int .u8 ((a + i : Nat) : Int)]) (y := a + i) (by rfl) (by rfl) HO.out (by rfl) ⟨by omega, rfl⟩ (by unfold maxLen; omega) (by omega) hbz ?_); intro A8 c8 u8 hc8 own9 hlt8 hb8 hat8; rw [← HN.out] at own9; have HO9 := Lib.hid own9; have HB9 := Lib.hid (HB.out.trans hb8); clear own9 hb8 hlt8 hat8)
      exact ⟨⟨i + 1, A8, c8, by omega, by go_num, rfl, hc8, HO9, HB9⟩, by simp [intOf]; omega⟩
    · have p1 : ¬ ((a + i : Nat) : Int) < (b : Int) := by omega
      have p3 : ¬ (a : Int) + (i : Int) < (b : Int) := by omega
      obtain rfl : i = b - a := by omega
      go_wp2_with fail
      go_ret
      obtain ⟨A', c', e, _, hr⟩ := HO.out.rd (S' := fun k => w.heap.size ≤ k) (fun _ hk => hk) (fun cs x hx => hx)
      injection e with e1 _ e2
      subst e1; subst e2
      rw [show a + (b - a) = b by omega] at hr
      exact ⟨A, c, rfl, by omega, hr, HB.out⟩
end
section

/-- A number that is not below nought. -/
def NatR (_ : Nat → Prop) (_ : World) (cs : List Value) (x : Nat) : Prop := cs = [.int .i64 (x : Int)]
theorem NatR.stable : Stable NatR := fun _ _ _ _ _ _ h _ => h
theorem NatR.one : ∀ S w cs x, NatR S w cs x → ∀ u ∈ cs, u.oneCell' = true := by
  rintro S w cs x rfl u hu
  simp at hu
  subst hu; rfl
end
section

end
section
theorem eq_slB (w : World) (p : Option Addr) (n c : Nat) : (binOp .eql 68 (.slice p n c) (.slice none 0 0)).run Tryz.prog w = .ok (.bool p.isNone) w := Lib.run_eql_slice_nil _ _ _ _ _ _ _ _ sl_by.und
attribute [local go_sem] eq_slB

end
section

def lenF (ss : Rws) (i : Nat) : Nat := (ra ss i).length
def oddB (ss : Rws) (l : List Nat) (i : Nat) : Bool := decide (lenF ss i ≠ lenF ss (gt l 0))
end
section

def thU (ss : Rws) (i : Nat) : List Nat := (List.range i).filter fun j => decide (0 < lenF ss j)
theorem thU_mem {ss : Rws} {i u : Nat} (h : u ∈ thU ss i) : u < i ∧ 0 < lenF ss u := by
  have := List.mem_filter.1 h
  exact ⟨List.mem_range.1 this.1, by simpa using this.2⟩
structure ThI (w0 wr : World) (sb q : Nat) (sv : Value) (n : Nat) (A : Option Addr) (c : Nat) (xs : List Nat) : Prop where
  own : OwnL NatR 3 1 (q + 1) (fun _ => True) wr (.slice A n c) n xs
  bq : BoxAt wr q #[.slice A n c]
  bs : BoxAt wr sb #[sv]
  sq : sb < q
  hs : w0.heap.size ≤ sb
  bel : Below w0.heap.size w0 wr
theorem ThI.below {w0 wr w2 : World} {sb q n : Nat} {sv : Value} {A : Option Addr} {c : Nat} {xs : List Nat} (h : ThI w0 wr sb q sv n A c xs) (hb : Below wr.heap.size wr w2) : ThI w0 w2 sb q sv n A c xs :=
  ⟨h.own.keep NatR.stable hb, h.bq.below hb, h.bs.below hb, h.sq, h.hs, h.bel.trans (hb.mono h.bel.size)⟩
theorem ThI.pushed {w0 w2 : World} {sb q n : Nat} {sv : Value} {A A' : Option Addr} {c c' : Nat} {xs : List Nat} {y : Nat} (h : ThI w0 w2 sb q sv n A c xs) (u : Grw (Value.slice A n c).ownBlock w2)
    (hown : OwnL NatR 3 1 (q + 1) (fun _ => True) u.to (.slice A' (n + 1) c') (n + 1) (xs ++ [y])) (hb : Below (q + 1) w2 u.to) :
    ThI w0 (u.to.setCell ⟨q, 0, none⟩ (.slice A' (n + 1) c')) sb q sv (n + 1) A' c' (xs ++ [y]) := by
  have hl := h.bq.lt
  have hm := h.sq
  have hne : ∀ k, k ≤ q → some k ≠ (Value.slice A n c).ownBlock := fun k hk e => by
    have := (h.own.lt k e.symm).1; omega
  have hne2 : Value.ownBlock (.slice A' (n + 1) c') ≠ some q := fun e => by
    have := (hown.lt q e).1; omega
  refine ⟨?_, ?_, (h.bs.grw u.ok (hne sb (by omega))).set_other (by show sb ≠ q; omega) _, h.sq, h.hs, (h.bel.trans (hb.mono (by have := h.hs; omega))).setCell (by have := h.hs; show _ ≤ q; omega) _⟩
  · obtain ⟨css, h1, h2, h3, h4, h5⟩ := hown
    exact ⟨css, h1.kept (row := some q) ⟨rfl, rfl, rfl, by simp, fun k _ hk => Below.heap_setCell _ _ _ _ (fun e => hk (by rw [e]))⟩ (.inr hne2), h2, h3, h4, fun i cs x hc hx => h5 i cs x hc hx⟩
  · have := (h.bq.grw u.ok (hne q (Nat.le_refl _))).set 0 (.slice A' (n + 1) c')
    simpa using this

/-- What it answers. -/
def thBad (k m N : Nat) (ss : Rws) : Bool := decide (N ≠ k + m) || (thU ss N).any (oddB ss (thU ss N))
end
section

structure OutAt (w : World) (base g n : Nat) (rows : Rws) : Prop where
  cur : ∃ cur : Array Value, BoxAt w g cur ∧ n ≤ cur.size ∧ ∀ i, i < n → ∃ A m c, cur[i]? = some (.slice A m c) ∧ m ≤ c ∧ RdL ByR 1 (fun k => base ≤ k ∧ k ≠ g) w A m (ra rows i)
  len : rows.length = n
  hg : base ≤ g
section
variable {w w' : World} {base g n : Nat} {rows : Rws}
theorem OutAt.below (h : OutAt w base g n rows) (hb : Below w.heap.size w w') : OutAt w' base g n rows := by
  obtain ⟨cur, h1, h2, h3⟩ := h.cur
  refine ⟨⟨cur, h1.below hb, h2, fun i hi => ?_⟩, h.len, h.hg⟩
  obtain ⟨A, m, c, e1, e2, e3⟩ := h3 i hi
  exact ⟨A, m, c, e1, e2, e3.below ByR.stable hb⟩
theorem OutAt.lt (h : OutAt w base g n rows) : g < w.heap.size := by
  obtain ⟨cur, h1, _⟩ := h.cur
  exact h1.lt
theorem OutAt.cellx (h : OutAt w base g n rows) {i : Nat} (hi : i < n) : (∃ v, w.cell? ⟨g, i, none⟩ = some v) ∧ w.frozen? ⟨g, i, none⟩ = false := by
  obtain ⟨cur, h1, h2, h3⟩ := h.cur
  obtain ⟨A, m, c, e1, _⟩ := h3 i hi
  exact ⟨⟨_, (h1.cell i).trans e1⟩, h1.frozen i⟩
theorem OutAt.set (h : OutAt w base g n rows) {i m c : Nat} {A : Option Addr} {r : List Nat} (hi : i < n) (hc : m ≤ c) (hr : RdL ByR 1 (fun k => base ≤ k ∧ k ≠ g) w A m r) :
    OutAt (w.setCell ⟨g, i, none⟩ (.slice A m c)) base g n (rows.set i r) := by
  obtain ⟨cur, h1, h2, h3⟩ := h.cur
  refine ⟨⟨_, h1.set i _, by rw [Array.size_setIfInBounds]; exact h2, fun k hk => ?_⟩, by rw [List.length_set, h.len], h.hg⟩
  rw [ra_set _ _ _ (by rw [h.len]; exact hk)]
  by_cases e : k = i
  · subst e
    rw [if_pos rfl, set_eq (by omega)]
    exact ⟨A, m, c, rfl, hc, hr.setCell ByR.stable (fun h => h.2 rfl) _⟩
  · rw [if_neg e, set_ne (fun h => e h.symm)]
    obtain ⟨A1, m1, c1, e1, e2, e3⟩ := h3 k hk
    exact ⟨A1, m1, c1, e1, e2, e3.setCell ByR.stable (fun h => h.2 rfl) _⟩
theorem OutAt.rd (h : OutAt w base g n rows) : RdL RowR 1 (fun k => base ≤ k) w (some ⟨g, 0, none⟩) n rows := by
  obtain ⟨cur, h1, h2, h3⟩ := h.cur
  refine ⟨h.len, fun _ => ⟨g, 0, rfl, h.hg, h1.lt, fun i x hx => ?_⟩⟩
  have hi : i < n := by rw [← h.len]; exact (List.getElem?_eq_some_iff.1 hx).1
  obtain ⟨A, m, c, e1, e2, e3⟩ := h3 i hi
  rw [ra_some hx] at e3
  refine ⟨[.slice A m c], rfl, ⟨A, m, c, rfl, e2, e3.weaken ByR.stable fun k hk => hk.1⟩, fun j v hj => ?_⟩
  rcases j with _ | j
  · simp at hj; subst hj
    rw [show 0 + i * 1 + 0 = i by omega]
    exact (h1.cell i).trans e1
  · simp at hj
theorem OutAt.made (w : World) (n : Nat) (t : TypeId) : OutAt (w.alloc (.cells (Array.replicate n (.slice none 0 0)) t)) w.heap.size w.heap.size n (List.replicate n []) := by
  refine ⟨⟨_, BoxAt.new _ _ _, by simp, fun i hi => ⟨none, 0, 0, by rw [Array.getElem?_replicate, if_pos hi], Nat.le_refl _, ?_⟩⟩, by simp, Nat.le_refl _⟩
  rw [ra_some (show (List.replicate n ([] : List Nat))[i]? = some [] by rw [List.getElem?_replicate, if_pos hi])]
  exact RdL.nil
end
theorem rowsInfo : (Tryz.prog.info? 68).map (fun i => (i.zero, i.size, i.bytes)) = some (some (.slice none 0 0), 1, 24) := by kernel_rfl
theorem makeRows (k : Nat) (hk : k ≤ 1000000) (w : World) : (Instr.makeSlice 151 (.int .i64 (k : Int)) (.int .i64 (k : Int))).run Tryz.prog w = .ok (.slice (some ⟨w.heap.size, 0, none⟩) k k) (w.alloc (.cells (Array.replicate k (.slice none 0 0)) 68)) := by
  obtain ⟨i, hi, hz, hs, hb⟩ := info_parts rowsInfo
  have h := run_make (P := Tryz.prog) w 151 68 i (.slice none 0 0) (by kernel_rfl) hi hz .i64 .i64 k k (by omega) (by omega) (by rw [hb]; omega) (by omega)
  simp only [Int.toNat_natCast, hs, Nat.mul_one] at h
  rw [h, show (Value.slice none 0 0).cells = #[.slice none 0 0] from rfl, madeCells_r]

section
variable {w : World} {cb b k m N cs : Nat} {As : Option Addr} {S : Nat → Prop} {ss : Rws}
end
end
section

def numOk (n : Nat) (xs : List Int) : Prop := (∀ x ∈ xs, 0 ≤ x ∧ x < n) ∧ xs.Nodup
instance (n : Nat) (xs : List Int) : Decidable (numOk n xs) := inferInstanceAs (Decidable (_ ∧ _))
end
section
end
end Go.Proofs.YtihnlhfngmbglaaGreat
