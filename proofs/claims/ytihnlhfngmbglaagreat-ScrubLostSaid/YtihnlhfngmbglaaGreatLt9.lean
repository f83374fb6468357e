/-
  Numbers read out of bytes.
  A shard in memory; its numbers as they lie.
  A shard put as a sector.
  A sector read as a shard: its numbers, one behind the other.
  Shards as wholes: built, stored.
  A sector read as a shard, or why it is none.
  Whether a shard is one of a stripe; what is put is read.
  A coder whose blocks are known; where a shard lies.
  A shard read from its drive.
-/
import Derived.Test.YtihnlhfngmbglaaGreatLt8
set_option linter.unusedSimpArgs false
set_option linter.unusedVariables false
namespace Go.Proofs.YtihnlhfngmbglaaGreat
open Go.RowKit Go.Cib
attribute [local go_sem] cell_set Later.cell Later.frozen Grw.cell Grw.frozen
section
def unN : List Nat → Nat
  | [] => 0
  | b :: bs => b + 256 * unN bs
theorem unN_lt : ∀ {l : List Nat}, Byt l → unN l < 2 ^ (8 * l.length)
  | [], _ => by show 0 < _; simp
  | b :: bs, h => by
    have h1 := unN_lt (l := bs) fun x hx => h x (List.mem_cons_of_mem _ hx)
    have h2 := h b (List.mem_cons_self ..)
    show b + 256 * unN bs < 2 ^ (8 * (bs.length + 1))
    rw [show 8 * (bs.length + 1) = 8 * bs.length + 8 by omega, Nat.pow_add]
    omega
theorem unN_snoc : ∀ (l : List Nat) (b : Nat), unN (l ++ [b]) = unN l + 2 ^ (8 * l.length) * b
  | [], b => by simp [unN]
  | a :: l, b => by
    show a + 256 * unN (l ++ [b]) = a + 256 * unN l + 2 ^ (8 * (l.length + 1)) * b
    rw [unN_snoc l b, show 8 * (l.length + 1) = 8 * l.length + 8 by omega, Nat.pow_add, Nat.mul_add]
    have : 256 * (2 ^ (8 * l.length) * b) = 2 ^ (8 * l.length) * 2 ^ 8 * b := by rw [Nat.mul_comm (2 ^ (8 * l.length)) (2 ^ 8), Nat.mul_assoc]
    omega
theorem or_bits64 {a c : Nat} (ha : a < 2 ^ 64) (hc : c < 2 ^ 64) : bits .or .u64 (a : Int) (c : Int) = ((a ||| c : Nat) : Int) := by
  unfold bits
  have h := Nat.or_lt_two_pow ha hc
  have e : (BitVec.ofInt 64 (a : Int) ||| BitVec.ofInt 64 (c : Int)).toNat = a ||| c := by
    rw [BitVec.toNat_or, BitVec.ofInt_natCast, BitVec.ofInt_natCast, BitVec.toNat_ofNat, BitVec.toNat_ofNat, Nat.mod_eq_of_lt ha, Nat.mod_eq_of_lt hc]
  show IntKind.u64.wrap ((BitVec.ofInt 64 (a : Int) ||| BitVec.ofInt 64 (c : Int)).toNat : Int) = _
  rw [e, IntKind.wrap_u64]
  omega
theorem get_step {ys : List Nat} {i : Nat} (hb : Byt ys) (hi : i < ys.length) (h8 : i < 8) : bits .or .u64 (unN (ys.take i) : Int) (IntKind.u64.wrap ((gt ys i : Int) * 2 ^ (8 * i))) = (unN (ys.take (i + 1)) : Int) := by
  have h1 := unN_lt (l := ys.take i) fun x hx => hb x (List.mem_of_mem_take hx)
  have hl : (ys.take i).length = i := by rw [List.length_take]; omega
  rw [hl] at h1
  have h2 := gt_lt hb i
  have h3 : 2 ^ (8 * i) * gt ys i < 2 ^ 64 := by
    have h4 : 2 ^ (8 * i) * gt ys i < 2 ^ (8 * i) * 2 ^ 8 := Nat.mul_lt_mul_of_pos_left h2 (Nat.two_pow_pos _)
    rw [← Nat.pow_add] at h4
    exact Nat.lt_of_lt_of_le h4 (Nat.pow_le_pow_right (by omega) (by omega))
  have h5 : 2 ^ (8 * i) ≤ 2 ^ 64 := Nat.pow_le_pow_right (by omega) (by omega)
  have e1 : ((gt ys i : Int) * 2 ^ (8 * i)) = ((2 ^ (8 * i) * gt ys i : Nat) : Int) := by push_cast; rw [Int.mul_comm]
  rw [e1, IntKind.wrap_u64, show (((2 ^ (8 * i) * gt ys i : Nat) : Int)) % 18446744073709551616 = ((2 ^ (8 * i) * gt ys i : Nat) : Int) by omega]
  rw [or_bits64 (by omega) h3, Nat.or_comm, ← Nat.two_pow_add_eq_or_of_lt h1, take_gt hi, unN_snoc, hl, Nat.add_comm]
set_option maxRecDepth 100000 in
set_option maxHeartbeats 4000000 in
theorem nget_any {w : World} {n c k a : Nat} {A : Option Addr} {S : Nat → Prop} {xs : List Nat} (R : RdL ByR 1 S w A n xs) (hnc : n ≤ c) (hn : n ≤ 4000) (k1 : 1 ≤ k) (k8 : k ≤ 8) (ha : a + k ≤ n) :
    Calls Tryz.prog 201 #[.slice A n c, .int .i64 (a : Int), .int .i64 (k : Int)] w fun e w' => e = .returned (.tuple #[.int .u64 (unN ((xs.drop a).take k) : Int), .int .i64 0]) ∧ w' = w := by
  obtain ⟨b, o, rfl, _, hb⟩ := R.addr (k := 0) (by omega)
  have HR := Lib.hid R
  have HX := Lib.hid R.1
  have HBY := Lib.hid (by_byt R)
  clear R
  have q0 : (k : Int) ≤ 8 := by omega
  have q1 : ¬ (k : Int) < 1 := by omega
  have q2 : ¬ (k : Int) > 8 := by omega
  have q3 : ¬ (a : Int) < 0 := by omega
  have q4 : ¬ (a : Int) > (n : Int) := by omega
  have q5 : ¬ (k : Int) > (n : Int) - (a : Int) := by omega
  have q6 : (n : Int) ≤ 4000 := by omega
  have q7 : (a : Int) ≤ 4000 := by omega
  go_enter Tryz.func201, Tryz.ntmps201
  go_wp2_with fail
  obtain ⟨ys, hys⟩ : ∃ ys, (xs.drop a).take k = ys := ⟨_, rfl⟩
  have hyl : ys.length = k := by rw [← hys, List.length_take, List.length_drop, HX.out]; omega
  have hyb : Byt ys := fun x hx => HBY.out x (by rw [← hys] at hx; exact List.mem_of_mem_drop (List.mem_of_mem_take hx))
  have hyg : ∀ i, i < k → gt ys i = gt xs (a + i) := fun i hi => by
    rw [← hys]
    unfold gt
    rw [List.getD_eq_getElem?_getD, List.getD_eq_getElem?_getD, List.getElem?_take, if_pos hi, List.getElem?_drop]
  have HYL := Lib.hid hyl
  have HYB := Lib.hid hyb
  have HYG := Lib.hid hyg
  have HYS := Lib.hid hys
  clear hys hyl hyb hyg
  go_loopw [8, 40] (fun vn vi wr => ∃ i : Nat, i ≤ k ∧ vi = .int .i64 i ∧ vn = .int .u64 (unN (ys.take i) : Nat) ∧ wr = w) (fun _ vi _ => k - (intOf vi).toNat)
  case atStart => exact ⟨0, Nat.zero_le _, rfl, rfl, rfl⟩
  case round =>
    obtain ⟨i, hi, rfl, rfl, hwr⟩ := hrel
    rw [hwr]
    clear hwr
    have p0 : (0 : Int) ≤ (i : Int) := Int.natCast_nonneg _
    by_cases hlt : i < k
    · have p1 : (i : Int) < (k : Int) := by omega
      have p2 : (i : Int) < 8 := by omega
      obtain ⟨v1, x1⟩ := by_at HR.out (k := a + i) (by omega)
      rw [← Nat.add_assoc, ← HYG.out i hlt] at v1
      rw [← HYG.out i hlt] at x1
      have HG := Lib.hid (get_step HYB.out (i := i) (by rw [HYL.out]; exact hlt) (by omega))
      go_wp2_with fail
      exact ⟨⟨i + 1, by omega, by go_num, by rw [HG.out], trivial⟩, by simp [intOf]; omega⟩
    · have p1 : ¬ (i : Int) < (k : Int) := by omega
      obtain rfl : k = i := by omega
      have HT := Lib.hid (show ys.take k = ys from List.take_of_length_le (by rw [HYL.out]; exact Nat.le_refl _))
      rw [HT.out]
      go_wp2_with fail
      go_ret2
      exact ⟨by rw [HYS.out]; rfl, rfl⟩
end
section
structure Shd where
  kind : Nat
  index : Nat
  place : Nat
  gen : Nat
  size : Nat
  body : List Nat
structure Shd.ok (x : Shd) : Prop where
  k : x.kind < 256
  i : x.index < 256
  p : x.place < 65536
  g : x.gen < 2 ^ 64
  s : x.size < 65536
  l : x.body.length = 44
  b : Byt x.body
def shV (x : Shd) : List Value := [.int .u8 (x.kind : Int), .int .u8 (x.index : Int), .int .u16 (x.place : Int), .int .u64 (x.gen : Int), .int .u16 (x.size : Int)] ++ x.body.map fun b : Nat => Value.int .u8 (b : Int)
def shC (x : Shd) : Array Value := (shV x).toArray
theorem shC_size {x : Shd} (h : x.body.length = 44) : (shC x).size = 49 := by unfold shC shV; simp [h]
theorem shC_0 (x : Shd) : (shC x)[0]? = some (.int .u8 (x.kind : Int)) := rfl
theorem shC_1 (x : Shd) : (shC x)[1]? = some (.int .u8 (x.index : Int)) := rfl
theorem shC_2 (x : Shd) : (shC x)[2]? = some (.int .u16 (x.place : Int)) := rfl
theorem shC_3 (x : Shd) : (shC x)[3]? = some (.int .u64 (x.gen : Int)) := rfl
theorem shC_4 (x : Shd) : (shC x)[4]? = some (.int .u16 (x.size : Int)) := rfl
theorem shC_b {x : Shd} {i : Nat} (h : i < x.body.length) : (shC x)[5 + i]? = some (.int .u8 (gt x.body i : Int)) := by
  unfold shC shV
  rw [List.getElem?_toArray, List.getElem?_append_right (by simp), show 5 + i - ([Value.int .u8 (x.kind : Int), .int .u8 (x.index : Int), .int .u16 (x.place : Int), .int .u64 (x.gen : Int), .int .u16 (x.size : Int)] : List Value).length = i by simp]
  rw [List.getElem?_map, gt_of_lt h]; rfl
def kindB (k : Nat) : Bool := decide (1 ≤ k ∧ k ≤ 4)
set_option maxRecDepth 100000 in
set_option maxHeartbeats 4000000 in
theorem kind_any {w : World} {k : Nat} : Calls Tryz.prog 204 #[.int .u8 (k : Int)] w fun e w' => e = .returned (.bool (kindB k)) ∧ w' = w := by
  go_enter Tryz.func204, Tryz.ntmps204
  by_cases h1 : (k : Int) ≥ 1
  · by_cases h2 : (k : Int) ≤ 4
    · have HK := Lib.hid (show kindB k = true from decide_eq_true (by omega))
      go_wp2_with fail
      go_ret
      exact ⟨congrArg (fun b => Ending.returned (.bool b)) HK.out.symm, rfl⟩
    · have HK := Lib.hid (show kindB k = false from decide_eq_false (by omega))
      go_wp2_with fail
      go_ret
      exact ⟨congrArg (fun b => Ending.returned (.bool b)) HK.out.symm, rfl⟩
  · have HK := Lib.hid (show kindB k = false from decide_eq_false (by omega))
    go_wp2_with fail
    go_ret
    exact ⟨congrArg (fun b => Ending.returned (.bool b)) HK.out.symm, rfl⟩
set_option maxRecDepth 100000 in
set_option maxHeartbeats 4000000 in
theorem head_any {w : World} {x : Shd} (hx : x.ok) : Calls Tryz.prog 213 #[.agg (shC x)] w fun e w' => ∃ h, e = .returned (.slice (some ⟨h, 0, none⟩) 6 6) ∧ w.heap.size ≤ h ∧
    BoxAt w' h #[.int .i64 1, .int .u64 (x.kind : Int), .int .i64 1, .int .u64 (x.index : Int), .int .i64 2, .int .u64 (x.place : Int), .int .i64 8, .int .u64 (x.gen : Int), .int .i64 2, .int .u64 (x.size : Int), .int .i64 2, .int .u64 0] ∧ Below w.heap.size w w' := by
  have c0 := shC_0 x
  have c1 := shC_1 x
  have c2 := shC_2 x
  have c3 := shC_3 x
  have c4 := shC_4 x
  have l0 := hx.k
  have l1 := hx.i
  have l2 := hx.p
  have l4 := hx.s
  have q0 : (0 : Int) ≤ (x.kind : Int) := Int.natCast_nonneg _
  have q1 : (0 : Int) ≤ (x.index : Int) := Int.natCast_nonneg _
  have q2 : (0 : Int) ≤ (x.place : Int) := Int.natCast_nonneg _
  have q4 : (0 : Int) ≤ (x.size : Int) := Int.natCast_nonneg _
  go_enter Tryz.func213, Tryz.ntmps213
  go_wp2_with fail
  go_ret
  refine ⟨_, rfl, by simp, ?_, ((Below.refl _ _).alloc (Nat.le_refl _) _).alloc (by rw [World.size_alloc]; omega) _⟩
  have hb := BoxAt.new (w.alloc (.cells (shC x) 193)) #[.int .i64 1, .int .u64 (x.kind : Int), .int .i64 1, .int .u64 (x.index : Int), .int .i64 2, .int .u64 (x.place : Int), .int .i64 8, .int .u64 (x.gen : Int), .int .i64 2, .int .u64 (x.size : Int), .int .i64 2, .int .u64 0] 294
  rw [World.size_alloc] at hb
  exact hb
end
section
theorem shut_loadS (a : Addr) : loadVar 193 a = shutLoad 193 a := rfl
theorem shSize : (Tryz.prog.info? 193).map (·.size) = some 49 := by kernel_rfl
theorem run_loadS {w : World} {p : Nat} {x : Shd} (hb : BoxAt w p (shC x)) (hl : x.body.length = 44) : (shutLoad 193 ⟨p, 0, none⟩).run Tryz.prog w = .ok (.agg (shC x)) w :=
  run_loadVar_mid (P := Tryz.prog) w p 0 193 (shV x) _ (fun j v hj => by rw [Nat.zero_add, hb.cell]; unfold shC; rw [List.getElem?_toArray]; exact hj) Tryz.underlying193 rfl (by rw [shSize]; simp [shV, hl])
attribute [local go_sem ↓] shut_loadS
theorem OwnL.low {w : World} {E : TypeId} {base base' n : Nat} {v : Value} {xs : List Nat} (h : OwnL ByR E 1 base (fun _ => True) w v n xs) (hb : base' ≤ base) : OwnL ByR E 1 base' (fun _ => True) w v n xs := by
  obtain ⟨css, h1, h2⟩ := h
  refine ⟨css, ⟨h1.1, ?_⟩, h2⟩
  rcases h1.2 with h3 | ⟨g, cap, cur, e, h4, h5⟩
  · exact .inl h3
  · exact .inr ⟨g, cap, cur, e, Nat.le_trans hb h4, h5⟩
def hdF (x : Shd) : List (Nat × Nat) := [(1, x.kind), (1, x.index), (2, x.place), (8, x.gen), (2, x.size), (2, 0)]
def sncU (x : Shd) (i : Nat) : List Nat := ((hdF x).take i).flatMap fun p => leN p.1 p.2
def sncH (x : Shd) : List Nat := sncU x 6
theorem sncU_next {x : Shd} {i k v : Nat} (h : (hdF x)[i]? = some (k, v)) : sncU x (i + 1) = sncU x i ++ leN k v := by
  unfold sncU
  rw [List.take_add_one, h, Option.toList_some, List.flatMap_append]; simp
theorem hd_at {x : Shd} (hx : x.ok) {w : World} {h : Nat} (hb : BoxAt w h #[.int .i64 1, .int .u64 (x.kind : Int), .int .i64 1, .int .u64 (x.index : Int), .int .i64 2, .int .u64 (x.place : Int), .int .i64 8, .int .u64 (x.gen : Int), .int .i64 2, .int .u64 (x.size : Int), .int .i64 2, .int .u64 0]) {i : Nat} (hi : i < 6) :
    ∃ k v, (hdF x)[i]? = some (k, v) ∧ 1 ≤ k ∧ k ≤ 8 ∧ v < 18446744073709551616 ∧ w.cell? ⟨h, i * 2, none⟩ = some (.int .i64 (k : Int)) ∧ w.cell? ⟨h, i * 2 + 1, none⟩ = some (.int .u64 (v : Int)) := by
  have h1 := hx.k
  have h2 := hx.i
  have h3 := hx.p
  have h4 := hx.g
  have h5 := hx.s
  obtain rfl | rfl | rfl | rfl | rfl | rfl : i = 0 ∨ i = 1 ∨ i = 2 ∨ i = 3 ∨ i = 4 ∨ i = 5 := by omega
  · exact ⟨_, _, rfl, by omega, by omega, by omega, hb.cell 0, hb.cell 1⟩
  · exact ⟨_, _, rfl, by omega, by omega, by omega, hb.cell 2, hb.cell 3⟩
  · exact ⟨_, _, rfl, by omega, by omega, by omega, hb.cell 4, hb.cell 5⟩
  · exact ⟨_, _, rfl, by omega, by omega, by omega, hb.cell 6, hb.cell 7⟩
  · exact ⟨_, _, rfl, by omega, by omega, by omega, hb.cell 8, hb.cell 9⟩
  · exact ⟨_, _, rfl, by omega, by omega, by omega, hb.cell 10, hb.cell 11⟩
theorem sncU_len (x : Shd) : ∀ i, i ≤ 6 → (sncU x i).length ≤ 48
  | 0, _ => by simp [sncU]
  | i + 1, h => by
    have : i = 0 ∨ i = 1 ∨ i = 2 ∨ i = 3 ∨ i = 4 ∨ i = 5 := by omega
    rcases this with rfl | rfl | rfl | rfl | rfl | rfl <;> simp [sncU, hdF, leN_len]
theorem sncH_len (x : Shd) : (sncH x).length = 16 := by simp [sncH, sncU, hdF, leN_len]
theorem sncH_byt (x : Shd) : Byt (sncH x) := fun y hy => by
  obtain ⟨p, _, hp⟩ := List.mem_flatMap.1 hy
  exact leN_byt _ _ y hp
/-- Sixty bytes. -/
def snc60 (x : Shd) : List Nat := sncH x ++ x.body
def sncS (x : Shd) : List Nat := snc60 x ++ leN 4 (csum (snc60 x))
theorem body_rd {x : Shd} (hx : x.ok) {w : World} {p : Nat} {t : Array Value} (hb : BoxAt w p t) (ht : t = shC x) {S : Nat → Prop} (hS : S p) : RdL ByR 1 S w (some ⟨p, 5, none⟩) 44 x.body := by
  subst ht
  refine ⟨hx.l, fun _ => ⟨p, 5, rfl, hS, hb.lt, fun i y hy => ?_⟩⟩
  have hi := (List.getElem?_eq_some_iff.1 hy).1
  refine ⟨[.int .u8 (y : Int)], rfl, ⟨hx.b y (List.mem_of_getElem? hy), rfl⟩, fun j v hj => ?_⟩
  rcases j with _ | j
  · simp at hj; subst hj
    rw [show 5 + i * 1 + 0 = 5 + i by omega, hb.cell, shC_b hi, (Option.some.inj ((gt_of_lt hi).symm.trans hy))]
  · simp at hj
set_option maxRecDepth 100000 in
set_option maxHeartbeats 8000000 in
theorem shput_any {w : World} {x : Shd} (hx : x.ok) : Calls Tryz.prog 180 #[.agg (shC x)] w fun e w' => Below w.heap.size w w' ∧
    ((kindB x.kind = false ∧ e = .returned (.tuple #[.slice none 0 0, .int .i64 2])) ∨
     (kindB x.kind = true ∧ ∃ A c, e = .returned (.tuple #[.slice A 64 c, .int .i64 0]) ∧ 64 ≤ c ∧ RdL ByR 1 (fun j => w.heap.size ≤ j) w' A 64 (sncS x))) := by
  have c0 := shC_0 x
  have hkd := fun w => kind_any (w := w) (k := x.kind)
  have b0 := BoxAt.new w (shC x) 193
  have hb0 : Below w.heap.size w (w.alloc (.cells (shC x) 193)) := (Below.refl _ _).alloc (Nat.le_refl _) _
  obtain ⟨B, hB⟩ : ∃ B, kindB x.kind = B := ⟨_, rfl⟩
  rw [hB] at hkd
  have HBB := Lib.hid hB
  clear hB
  go_enter Tryz.func180, Tryz.ntmps180
  go_wp2_with fail
  refine (hkd _).mono ?_
  rintro e w1 ⟨rfl, hw1⟩
  rw [hw1]
  clear hw1 hkd
  obtain ⟨wA, hwA⟩ : ∃ wA, w.alloc (.cells (shC x) 193) = wA := ⟨_, rfl⟩
  rw [hwA] at b0 hb0 ⊢
  clear hwA
  cases B with
  | false =>
    go_wp2_with fail
    go_ret2
    exact ⟨hb0, .inl ⟨HBB.out, rfl⟩⟩
  | true =>
    obtain ⟨p, hp⟩ : ∃ p, w.heap.size = p := ⟨_, rfl⟩
    rw [hp] at b0 ⊢
    have hlp := b0.lt
    have hld := run_loadS b0 hx.l
    have hhd := head_any (w := wA) hx
    go_wp2_with fail
    refine hhd.mono ?_
    rintro e w2 ⟨h, rfl, hh, bh, hb2⟩
    clear hhd hld
    have HX := Lib.hid hx
    have HP := Lib.hid (b0.below hb2)
    have HH := Lib.hid bh
    have HB2 := Lib.hid (hb0.trans (hb2.mono hb0.size))
    have hp2 : p + 1 ≤ w2.heap.size := by have := hb2.size; omega
    clear b0 bh hb2 hx c0
    go_wp2_with fail
    go_loopw [4, 14] (fun vs vi wr => ∃ (i n : Nat) (A : Option Addr) (c' : Nat), i ≤ 6 ∧ vi = .int .i64 i ∧ vs = .slice A n c' ∧ Hid (n = (sncU x i).length) ∧ Hid (OwnL ByR 5 1 (p + 1) (fun _ => True) wr (.slice A n c') n (sncU x i)) ∧ Hid (Below w2.heap.size w2 wr)) (fun _ vi _ => 6 - (intOf vi).toNat)
    case atStart => exact ⟨0, 0, none, 0, Nat.zero_le _, rfl, rfl, Lib.hid rfl, Lib.hid (by exact OwnL.nil_), Lib.hid (Below.refl _ _)⟩
    case round =>
      obtain ⟨i, n, AO, cO, hi, rfl, rfl, HN, HO, HB⟩ := hrel
      have p0 : (0 : Int) ≤ (i : Int) := Int.natCast_nonneg _
      by_cases hlt : i < 6
      · have p1 : (i : Int) < 6 := by omega
        obtain ⟨k, v, hkv, hk1, hk8, hv, v1, v2⟩ := hd_at HX.out (HH.out.below HB.out) hlt
        have hnx := sncU_next hkv
        have hnl := sncU_len x i hi
        obtain ⟨A', c', e, hcc, hr⟩ := HO.out.rd (S' := fun _ => True) (fun _ _ => trivial) (fun cs x hx => hx)
        injection e with e1 _ e2
        subst e1; subst e2
        have hn48 : n ≤ 48 := by rw [HN.out]; exact hnl
        have hnp := fun o => nput_any (w := wr.alloc o) (c := cO) (hr.alloc ByR.stable o) (by omega) hk1 hk8 hv
        have HNX := Lib.hid hnx
        have hszr := HB.out.size
        have hlk : (leN k v).length = k := leN_len k v
        have HLK := Lib.hid hlk
        clear hkv hr hnx hnl hv hlk
        go_wp2_with fail
        refine (hnp _).mono ?_
        clear hnp
        rintro e w5 ⟨A5, c5, rfl, ho5, hb5⟩
        rw [World.size_alloc] at ho5 hb5
        have ho6 := OwnL.low ho5 (base' := p + 1) (by omega)
        rw [← HNX.out] at ho6
        have HO6 := Lib.hid ho6
        have hb6 : Below w2.heap.size w2 w5 := HB.out.trans (((Below.refl wr.heap.size wr).alloc (Nat.le_refl _) (.cells #[.int .i64 (k : Int), .int .u64 (v : Int)] 294)).trans (hb5.mono (by omega)) |>.mono HB.out.size)
        have HB6 := Lib.hid hb6
        clear ho5 ho6 hb5 hb6
        go_wp2_with fail
        exact ⟨⟨i + 1, n + k, A5, c5, by omega, by go_num, rfl, Lib.hid (by rw [HNX.out, List.length_append, HLK.out, ← HN.out]), HO6, HB6⟩, by simp [intOf]; omega⟩
      · obtain rfl : i = 6 := by omega
        have hbp := HP.out.below HB.out
        have hbr := body_rd HX.out hbp rfl (S := fun _ => True) trivial
        have hn16 : n = 16 := by rw [HN.out]; exact sncH_len x
        subst hn16
        have HBR := Lib.hid hbr
        have hszr := HB.out.size
        have HBP := Lib.hid hbp
        clear hbr hbp
        go_wp2_with (at_builtin; go_must (refine wpList_appL ByR.stable ByR.one sl_by (by rfl) (by rfl) (base := p + 1) (S := fun _ => True) (by rfl) HO.out (by rfl) HBR.out (fun _ _ h => h) (by unfold maxLen; omega) (by omega) (by omega) ?_); intro A7 c7 w7 hc7 hown7 hg7 hat7; have hb7 : Below (p + 1) wr w7 := (Below.refl _ _).grown hg7 (by omega) (fun k hk => (HO.out.lt k hk).1); have HO7 := Lib.hid hown7; have HB7 := Lib.hid hb7; clear hown7 hg7 hat7 hb7)
        obtain ⟨A', c', e, hcc, hr⟩ := HO7.out.rd (S' := fun _ => True) (fun _ _ => trivial) (fun cs x hx => hx)
        injection e with e1 _ e2
        subst e1; subst e2
        have hby := by_byt hr
        have hcs := csum_any (cp := c7) hr (by omega)
        have hcl := csum_lt hby
        obtain ⟨y, hy⟩ : ∃ y, csum (sncU x 6 ++ x.body) = y := ⟨_, rfl⟩
        rw [hy] at hcs hcl
        have HY := Lib.hid hy
        have hnp := nput_any (c := c7) (k := 4) (v := y) hr (by omega) (by omega) (by omega) (by omega)
        have q0 : (0 : Int) ≤ (y : Int) := Int.natCast_nonneg _
        have q1 : (y : Int) < 4294967296 := by omega
        have hs7 : wr.heap.size ≤ w7.heap.size := HB7.out.size
        clear hy hr hby hcl
        push_cast at hnp
        go_wp2_with fail
        refine hcs.mono ?_
        clear hcs
        rintro e w9 ⟨rfl, hw9⟩
        rw [hw9]
        clear hw9
        go_wp2_with fail
        refine hnp.mono ?_
        clear hnp
        rintro e w9 ⟨A9, c9, rfl, ho9, hb9⟩
        obtain ⟨A', c', e, hcc, hr⟩ := ho9.rd (S' := fun j => p ≤ j) (fun j hj => by omega) (fun cs x hx => hx)
        injection e with e1 _ e2
        subst e1; subst e2
        have HR9 := Lib.hid hr
        have HC9 := Lib.hid hcc
        have hbw : Below w.heap.size w w9 := HB2.out.trans (((HB.out.mono HB2.out.size).trans (HB7.out.mono (by omega))).trans (hb9.mono (by omega)))
        have HBW := Lib.hid hbw
        clear hr hcc ho9 hb9 hbw
        go_wp2_with fail
        go_ret2
        refine ⟨HBW.out, .inr ⟨HBB.out, A9, c9, rfl, HC9.out, ?_⟩⟩
        have h9 := HR9.out
        rw [← HY.out] at h9
        rw [hp]
        exact h9
end
section
theorem okSum_un {xs : List Nat} (hl : xs.length = 64) (hb : Byt xs) : okSum xs ↔ unN ((xs.drop 60).take 4) = csum (xs.take 60) := by
  have hd : (xs.drop 60).length = 4 := by rw [List.length_drop, hl]
  rw [List.take_of_length_le (by omega)]
  have hbd : ∀ x ∈ xs.drop 60, x < 256 := fun x hx => hb x (List.mem_of_mem_drop hx)
  obtain ⟨a, b, c, d, hs⟩ : ∃ a b c d, xs.drop 60 = [a, b, c, d] := by
    match h : xs.drop 60, hd with
    | [a, b, c, d], _ => exact ⟨a, b, c, d, rfl⟩
  unfold okSum
  rw [hs] at hbd ⊢
  have h1 := hbd a (by simp)
  have h2 := hbd b (by simp)
  have h3 := hbd c (by simp)
  have h4 := hbd d (by simp)
  have e : unN [a, b, c, d] = un4 [a, b, c, d] := by rw [un4_eq]; simp [unN]
  have hc := csum_lt (l := xs.take 60) fun x hx => hb x (List.mem_of_mem_take hx)
  rw [e]
  constructor
  · intro h
    have := un_le4 hc
    rw [h] at this
    exact this
  · intro h
    rw [← h]
    exact le_un4 h1 h2 h3 h4
set_option maxRecDepth 100000 in
set_option maxHeartbeats 4000000 in
theorem take_any {w : World} {B T a k c : Nat} {A : Option Addr} {S : Nat → Prop} {xs : List Nat} (hB : BoxAt w B #[.slice A 64 c]) (hT : BoxAt w T #[.int .i64 (a : Int)]) (R : RdL ByR 1 S w A 64 xs) (hc : 64 ≤ c) (k1 : 1 ≤ k) (k8 : k ≤ 8) (ha : a + k ≤ 64) :
    Calls Tryz.prog 234 #[.int .i64 (k : Int), .pointer (some ⟨B, 0, none⟩), .pointer (some ⟨T, 0, none⟩)] w fun e w' => e = .returned (.int .u64 (unN ((xs.drop a).take k) : Int)) ∧ w' = w.setCell ⟨T, 0, none⟩ (.int .i64 ((a + k : Nat) : Int)) := by
  have hg := nget_any R hc (by omega) k1 k8 ha
  have c0 := hB.cell 0
  have c1 := hT.cell 0
  have f1 := hT.frozen 0
  have q0 : (a : Int) ≤ 64 := by omega
  have q1 : (k : Int) ≤ 8 := by omega
  have q2 : (0 : Int) ≤ (a : Int) := Int.natCast_nonneg _
  have q3 : (0 : Int) ≤ (k : Int) := Int.natCast_nonneg _
  obtain ⟨y, hy⟩ : ∃ y, unN ((xs.drop a).take k) = y := ⟨_, rfl⟩
  rw [hy] at hg ⊢
  clear hy hB hT R
  go_enter Tryz.func234, Tryz.ntmps234
  go_wp2_with fail
  refine hg.mono ?_
  clear hg
  rintro e w9 ⟨rfl, hw9⟩
  rw [hw9]
  clear hw9
  go_wp2_with fail
  go_ret
  exact ⟨rfl, by push_cast; rfl⟩
end
section
def z44 : List Nat := List.replicate 44 0
theorem z44_len : z44.length = 44 := by decide
theorem z44_byt : Byt z44 := fun x hx => by rw [(List.mem_replicate.1 hx).2]; omega
def sh0 : Shd := ⟨0, 0, 0, 0, 0, z44⟩
theorem sh0_ok : sh0.ok := ⟨by decide, by decide, by decide, by decide, by decide, z44_len, z44_byt⟩
theorem shInfo : (Tryz.prog.info? 193).map (fun i => (i.zero, i.size, i.bytes)) = some (some (.agg (shC sh0)), 49, 64) := by kernel_rfl
theorem shut_zeroS : zeroValue 193 = shutZero 193 := rfl
theorem run_zeroS (w : World) : (shutZero 193).run Tryz.prog w = .ok (.agg (shC sh0)) w := by
  obtain ⟨i2, hi2, hz2, hs2, hby2⟩ := info_parts shInfo
  simp [shutZero, zeroValue, typeInfo, hi2, hz2]
theorem built0 : Tryz.prog.built 193 [] = some (shC sh0) := by kernel_rfl
theorem built2 (a b : Nat) : Tryz.prog.built 193 [(0, .int .u8 (a : Int)), (1, .int .u8 (b : Int))] = some (shC ⟨a, b, 0, 0, 0, z44⟩) := by kernel_rfl
theorem built5 (a b c d e : Nat) : Tryz.prog.built 193 [(0, .int .u8 (a : Int)), (1, .int .u8 (b : Int)), (2, .int .u16 (c : Int)), (3, .int .u64 (d : Int)), (4, .int .u16 (e : Int))] = some (shC ⟨a, b, c, d, e, z44⟩) := by kernel_rfl
theorem shut_buildS (parts : Array (Nat × Value)) : Instr.build 193 parts = shutBuild 193 parts := rfl
theorem run_build0 (w : World) : (shutBuild 193 #[]).run Tryz.prog w = .ok (.agg (shC sh0)) w := run_build w _ _ _ built0
theorem run_build2 (a b : Nat) (w : World) : (shutBuild 193 #[(0, .int .u8 (a : Int)), (1, .int .u8 (b : Int))]).run Tryz.prog w = .ok (.agg (shC ⟨a, b, 0, 0, 0, z44⟩)) w := run_build w _ _ _ (built2 a b)
theorem run_build5 (a b c d e : Nat) (w : World) : (shutBuild 193 #[(0, .int .u8 (a : Int)), (1, .int .u8 (b : Int)), (2, .int .u16 (c : Int)), (3, .int .u64 (d : Int)), (4, .int .u16 (e : Int))]).run Tryz.prog w = .ok (.agg (shC ⟨a, b, c, d, e, z44⟩)) w := run_build w _ _ _ (built5 a b c d e)
theorem shut_storeS (a : Addr) (v : Value) : storeVar 193 a v = shutStore 193 a v := rfl
theorem shV_one (x : Shd) : ∀ u ∈ shV x, u.oneCell' = true := by
  intro u hu
  unfold shV at hu
  rcases List.mem_append.1 hu with h | h
  · simp at h
    rcases h with rfl | rfl | rfl | rfl | rfl <;> rfl
  · obtain ⟨b, _, rfl⟩ := List.mem_map.1 h
    rfl
theorem shV_len {x : Shd} (h : x.body.length = 44) : (shV x).length = 49 := by unfold shV; simp [h]
/-- A shard stored over another one. -/
theorem run_storeS {w : World} {p : Nat} {x y : Shd} (hb : BoxAt w p (shC x)) (hx : x.body.length = 44) (hy : y.body.length = 44) : (shutStore 193 ⟨p, 0, none⟩ (.agg (shC y))).run Tryz.prog w = .ok () (w.setCells p 0 (shV y)) := by
  have h := run_storeVar_mid (P := Tryz.prog) w p 0 193 (shC y) (fun j hj => ?_) (by rw [shSize, shC_size hy]) (Array.all_eq_true_iff_forall_mem.2 (fun v hv => shV_one y v (by unfold shC at hv; simpa using hv)))
  · exact h
  · rw [shC_size hy] at hj
    rw [Nat.zero_add]
    refine ⟨?_, by simp [hb.frozen j]⟩
    rw [hb.cell, Array.getElem?_eq_getElem (by rw [shC_size hx]; exact hj)]; rfl
theorem shC_set {w : World} {p : Nat} {x y : Shd} (hb : BoxAt w p (shC x)) (hx : x.body.length = 44) (hy : y.body.length = 44) : BoxAt (w.setCells p 0 (shV y)) p (shC y) := BoxAt.setAll hb (shV y) (by rw [shV_len hy, shC_size hx])
theorem results_cellS {P : Program} {fn : Func} {p u : Tmp} {ty : TypeId} (h : fn.results = #[.cell p ty, .tmp u]) (tmps : Array Value) (w : World) (a : Addr) (v r : Value) (hp : tmps.getD p undef = .pointer (some a)) (hr : tmps.getD u undef = r) (hl : (loadVar ty a).run P w = .ok v w) :
    (results fn tmps).run P w = .ok (.tuple #[v, r]) w := by
  have hp' : tmps[p]?.getD undef = .pointer (some a) := by simpa using hp
  have hr' : tmps[u]?.getD undef = r := by simpa using hr
  simp [results, h, hp', hr', asAddr, hl]
theorem shC_23 (a b c d : Nat) (z : List Nat) : ((shC ⟨a, b, 0, 0, 0, z⟩).setIfInBounds 2 (.int .u16 (c : Int))).setIfInBounds 3 (.int .u64 (d : Int)) = shC ⟨a, b, c, d, 0, z⟩ := by unfold shC shV; simp
theorem shC_44 (a b c d e : Nat) (z : List Nat) : (shC ⟨a, b, c, d, 0, z⟩).setIfInBounds 4 (.int .u16 (e : Int)) = shC ⟨a, b, c, d, e, z⟩ := by unfold shC shV; simp
/-- The bytes of one set anew. -/
theorem shC_body {w : World} {q a b c d e : Nat} {z z' : List Nat} (hb : BoxAt w q (shC ⟨a, b, c, d, e, z⟩)) (hz : z.length = 44) (hz' : z'.length = 44) : BoxAt (w.setCells q 5 (z'.map fun b : Nat => Value.int .u8 (b : Int))) q (shC ⟨a, b, c, d, e, z'⟩) := by
  have gen : ∀ (vs : List Value) (pre cs : List Value) (w : World), vs.length = cs.length → BoxAt w q (pre ++ cs).toArray → BoxAt (w.setCells q pre.length vs) q (pre ++ vs).toArray := by
    intro vs
    induction vs with
    | nil => intro pre cs w h hb; rw [List.length_eq_zero_iff.1 h.symm] at hb; exact hb
    | cons v vs ih =>
      intro pre cs w h hb
      match cs, h with
      | c :: cs, h =>
        have h1 := hb.set pre.length v
        have e : (pre ++ c :: cs).toArray.setIfInBounds pre.length v = ((pre ++ [v]) ++ cs).toArray := by simp
        rw [e] at h1
        have h2 := ih (pre ++ [v]) cs _ (by simpa using h) h1
        simpa [World.setCells] using h2
  exact gen (z'.map fun b : Nat => Value.int .u8 (b : Int)) [.int .u8 (a : Int), .int .u8 (b : Int), .int .u16 (c : Int), .int .u64 (d : Int), .int .u16 (e : Int)] (z.map fun b : Nat => Value.int .u8 (b : Int)) w (by simp [hz, hz']) hb
theorem bodyRow : Tryz.prog.underlying 191 = some (.array 44 5) := by kernel_rfl
theorem bodySize : (Tryz.prog.info? 191).map (·.size) = some 44 := by kernel_rfl
theorem shut_loadB (a : Addr) : loadVar 191 a = shutLoad 191 a := rfl
theorem shut_storeB (a : Addr) (v : Value) : storeVar 191 a v = shutStore 191 a v := rfl
theorem by_range {S : Nat → Prop} {w : World} {b o : Nat} {bs : List Nat} {n : Nat} (h : RdL ByR 1 S w (some ⟨b, o, none⟩) n bs) : w.rangeAt b o (bs.map fun b : Nat => Value.int .u8 (b : Int)) := by
  intro j v hj
  have hjl := (List.getElem?_eq_some_iff.1 hj).1
  rw [List.length_map] at hjl
  have hl := h.1
  have h1 := (by_at h (k := j) (by omega)).1
  rw [h1, ← hj, List.getElem?_map, gt_of_lt hjl]; rfl
theorem run_loadB {S : Nat → Prop} {w : World} {b o : Nat} {bs : List Nat} (h : RdL ByR 1 S w (some ⟨b, o, none⟩) 44 bs) : (shutLoad 191 ⟨b, o, none⟩).run Tryz.prog w = .ok (.agg (bs.map fun b : Nat => Value.int .u8 (b : Int)).toArray) w :=
  run_loadVar_mid (P := Tryz.prog) w b o _ _ _ (by_range h) bodyRow rfl (by rw [bodySize, List.length_map, h.1])
theorem run_storeB {w : World} {q : Nat} {x : Shd} {bs : List Nat} (hb : BoxAt w q (shC x)) (hx : x.body.length = 44) (hl : bs.length = 44) : (shutStore 191 ⟨q, 5, none⟩ (.agg (bs.map fun b : Nat => Value.int .u8 (b : Int)).toArray)).run Tryz.prog w = .ok () (w.setCells q 5 (bs.map fun b : Nat => Value.int .u8 (b : Int))) := by
  have h := run_storeVar_mid (P := Tryz.prog) w q 5 191 (bs.map fun b : Nat => Value.int .u8 (b : Int)).toArray (fun j hj => ?_) (by rw [bodySize]; simp [hl]) (Array.all_eq_true_iff_forall_mem.2 (fun v hv => by
    obtain ⟨b, _, rfl⟩ := List.mem_map.1 (by simpa using hv)
    rfl))
  · exact h
  · have hj2 : j < 44 := by simpa [hl] using hj
    refine ⟨?_, by simp [hb.frozen (5 + j)]⟩
    rw [hb.cell, Array.getElem?_eq_getElem (by rw [shC_size hx]; omega)]; rfl
end
section
theorem setS_below {B : Nat} {w w' : World} (h : Below B w w') {p : Nat} (hp : B ≤ p) (vs : List Value) : Below B w (w'.setCells p 0 vs) := by
  have gen : ∀ (vs : List Value) (o : Nat) (w' : World), Below B w w' → Below B w (w'.setCells p o vs) := by
    intro vs
    induction vs with
    | nil => intro o w' h; exact h
    | cons v vs ih => intro o w' h; exact ih (o + 1) _ (h.setCell (p := ⟨p, o, none⟩) hp v)
  exact gen vs 0 w' h
def decS (xs : List Nat) : Shd := ⟨unN ((xs.drop 0).take 1), unN ((xs.drop 1).take 1), unN ((xs.drop 2).take 2), unN ((xs.drop 4).take 8), unN ((xs.drop 12).take 2), (xs.drop 16).take 44⟩
def frmB (xs : List Nat) : Bool := kindB (unN ((xs.drop 0).take 1)) && decide (unN ((xs.drop 14).take 2) = 0)
attribute [local go_sem ↓] shut_loadS shut_zeroS shut_buildS shut_storeS shut_loadB shut_storeB
attribute [local go_sem] run_zeroS run_build0 run_build2
set_option maxRecDepth 100000 in
set_option maxHeartbeats 4000000 in
theorem taker_any {w : World} {A : Option Addr} {n c : Nat} : Calls Tryz.prog 203 #[.slice A n c] w fun e w' => e = .returned (.func (.func 234) #[] #[.pointer (some ⟨w.heap.size, 0, none⟩), .pointer (some ⟨w.heap.size + 1, 0, none⟩)]) ∧
    w' = (w.alloc (.cells #[.slice A n c] 68)).alloc (.cells #[.int .i64 0] 3) := by
  go_enter Tryz.func203, Tryz.ntmps203
  go_wp2_with fail
  go_ret
  exact ⟨rfl, rfl⟩
set_option maxRecDepth 100000 in
set_option maxHeartbeats 8000000 in
theorem shget_any {w : World} {c : Nat} {A : Option Addr} {S : Nat → Prop} {xs : List Nat} (R : RdL ByR 1 S w A 64 xs) (hc : 64 ≤ c) :
    Calls Tryz.prog 170 #[.slice A 64 c] w fun e w' => Below w.heap.size w w' ∧
    ((¬ okSum xs ∧ e = .returned (.tuple #[.agg (shC sh0), .int .i64 4])) ∨
     (okSum xs ∧ frmB xs = false ∧ e = .returned (.tuple #[.agg (shC sh0), .int .i64 3])) ∨
     (okSum xs ∧ frmB xs = true ∧ e = .returned (.tuple #[.agg (shC (decS xs)), .int .i64 0]))) := by
  have HR := Lib.hid R
  have HX := Lib.hid R.1
  have HBY := Lib.hid (by_byt R)
  clear R
  have q9 : ((64 : Int) != 64) = false := by decide
  go_enter Tryz.func170, Tryz.ntmps170
  go_wp2_with fail
  have b0 := BoxAt.new w (shC sh0) 193
  have hb0 : Below w.heap.size w (w.alloc (.cells (shC sh0) 193)) := (Below.refl _ _).alloc (Nat.le_refl _) _
  obtain ⟨wA, hwA⟩ : ∃ wA, w.alloc (.cells (shC sh0) 193) = wA := ⟨_, rfl⟩
  rw [hwA] at b0 hb0 ⊢
  clear hwA
  obtain ⟨p, hp⟩ : ∃ p, w.heap.size = p := ⟨_, rfl⟩
  rw [hp] at b0 ⊢
  have hlp := b0.lt
  have hrA := HR.out.below ByR.stable hb0
  have hn4 := nget_any (c := c) (a := 60) (k := 4) hrA hc (by omega) (by omega) (by omega) (by omega)
  have hcs := csum_any (cp := c) (RdL.take hrA (k := 60) (by omega)) (by omega)
  have hoi := okSum_un HX.out HBY.out
  have hl4 := unN_lt (l := (xs.drop 60).take 4) fun x hx => HBY.out x (List.mem_of_mem_drop (List.mem_of_mem_take hx))
  rw [show ((xs.drop 60).take 4).length = 4 by rw [List.length_take, List.length_drop, HX.out]; rfl] at hl4
  have hcl := csum_lt (l := xs.take 60) fun x hx => HBY.out x (List.mem_of_mem_take hx)
  obtain ⟨n4, hn4e⟩ : ∃ y, unN ((xs.drop 60).take 4) = y := ⟨_, rfl⟩
  obtain ⟨cs, hcse⟩ : ∃ y, csum (xs.take 60) = y := ⟨_, rfl⟩
  rw [hn4e] at hn4 hoi hl4
  rw [hcse] at hcs hoi hcl
  have q0 : (0 : Int) ≤ (n4 : Int) := Int.natCast_nonneg _
  have q1 : (n4 : Int) < 4294967296 := by omega
  have q2 : (n4 : Int) % 4294967296 = (n4 : Int) := by omega
  push_cast at hn4
  have hsl := fun w => piece_pre sl_by (A := A) (N := 64) (c := c) (k := 60) (by omega) w
  push_cast at hsl
  refine hn4.mono ?_
  clear hn4
  rintro e w1 ⟨rfl, hw1⟩
  rw [hw1]
  clear hw1
  go_wp2_with fail
  refine hcs.mono ?_
  clear hcs
  rintro e w1 ⟨rfl, hw1⟩
  rw [hw1]
  clear hw1
  by_cases hok : n4 = cs
  · have q3 : ((n4 : Int) != (cs : Int)) = false := by rw [hok]; simp
    have HOK := Lib.hid (hoi.2 hok)
    clear hok hoi hn4e hcse hl4 hcl
    go_wp2_with fail
    refine taker_any.mono ?_
    rintro e w1 ⟨rfl, hw1⟩
    have bB := (BoxAt.new wA #[.slice A 64 c] 68).alloc (.cells #[.int .i64 0] 3)
    have bT := BoxAt.new (wA.alloc (.cells #[.slice A 64 c] 68)) #[.int .i64 ((0 : Nat) : Int)] 3
    rw [World.size_alloc] at bT
    have bP := (b0.alloc (.cells #[.slice A 64 c] 68)).alloc (.cells #[.int .i64 0] 3)
    have hb1 := (hb0.alloc (by omega) (.cells #[.slice A 64 c] 68)).alloc (by rw [World.size_alloc]; omega) (.cells #[.int .i64 0] 3)
    change BoxAt ((wA.alloc (.cells #[.slice A 64 c] 68)).alloc (.cells #[.int .i64 0] 3)) _ _ at bT
    rw [← hw1] at bB bT bP hb1
    clear hw1
    obtain ⟨B, hBe⟩ : ∃ B, wA.heap.size = B := ⟨_, rfl⟩
    rw [hBe] at bB bT ⊢
    have hBp : p < B := by omega
    have t1 := take_any (k := 1) (a := 0) bB bT (HR.out.below ByR.stable hb1) hc (by omega) (by omega) (by omega)
    obtain ⟨u1, hu1⟩ : ∃ u, unN ((xs.drop 0).take 1) = u := ⟨_, rfl⟩
    have l1 : u1 < 2 ^ (8 * 1) := by
      have h := unN_lt (l := (xs.drop 0).take 1) fun x hx => HBY.out x (List.mem_of_mem_drop (List.mem_of_mem_take hx))
      rw [show ((xs.drop 0).take 1).length = 1 by rw [List.length_take, List.length_drop, HX.out]; rfl, hu1] at h
      exact h
    have U1 := Lib.hid hu1
    rw [hu1] at t1
    clear hu1
    have m1 : (u1 : Int) % 256 = (u1 : Int) := by omega
    have z1 : (0 : Int) ≤ (u1 : Int) := Int.natCast_nonneg _
    go_wp2_with fail
    refine t1.mono ?_
    clear t1
    rintro e w2 ⟨rfl, hw⟩
    replace bB := bB.set_other (p := ⟨B + 1, 0, none⟩) (by show B ≠ B + 1; omega) (.int .i64 ((0 + 1 : Nat) : Int))
    replace bT := bT.set 0 (.int .i64 ((0 + 1 : Nat) : Int))
    replace bP := bP.set_other (p := ⟨B + 1, 0, none⟩) (by show p ≠ B + 1; omega) (.int .i64 ((0 + 1 : Nat) : Int))
    replace hb1 := hb1.setCell (p := ⟨B + 1, 0, none⟩) (by show w.heap.size ≤ B + 1; omega) (.int .i64 ((0 + 1 : Nat) : Int))
    rw [← hw] at bB bT bP hb1
    change BoxAt _ (B + 1) #[.int .i64 ((0 + 1 : Nat) : Int)] at bT
    clear hw
    have t2 := take_any (k := 1) (a := 1) bB bT (HR.out.below ByR.stable hb1) hc (by omega) (by omega) (by omega)
    obtain ⟨u2, hu2⟩ : ∃ u, unN ((xs.drop 1).take 1) = u := ⟨_, rfl⟩
    have l2 : u2 < 2 ^ (8 * 1) := by
      have h := unN_lt (l := (xs.drop 1).take 1) fun x hx => HBY.out x (List.mem_of_mem_drop (List.mem_of_mem_take hx))
      rw [show ((xs.drop 1).take 1).length = 1 by rw [List.length_take, List.length_drop, HX.out]; rfl, hu2] at h
      exact h
    have U2 := Lib.hid hu2
    rw [hu2] at t2
    clear hu2
    have m2 : (u2 : Int) % 256 = (u2 : Int) := by omega
    have z2 : (0 : Int) ≤ (u2 : Int) := Int.natCast_nonneg _
    go_wp2_with fail
    refine t2.mono ?_
    clear t2
    rintro e w3 ⟨rfl, hw⟩
    replace bB := bB.set_other (p := ⟨B + 1, 0, none⟩) (by show B ≠ B + 1; omega) (.int .i64 ((1 + 1 : Nat) : Int))
    replace bT := bT.set 0 (.int .i64 ((1 + 1 : Nat) : Int))
    replace bP := bP.set_other (p := ⟨B + 1, 0, none⟩) (by show p ≠ B + 1; omega) (.int .i64 ((1 + 1 : Nat) : Int))
    replace hb1 := hb1.setCell (p := ⟨B + 1, 0, none⟩) (by show w.heap.size ≤ B + 1; omega) (.int .i64 ((1 + 1 : Nat) : Int))
    rw [← hw] at bB bT bP hb1
    change BoxAt _ (B + 1) #[.int .i64 ((1 + 1 : Nat) : Int)] at bT
    clear hw
    have hst4 := run_storeS (y := ⟨u1, u2, 0, 0, 0, z44⟩) (BoxAt.new w3 (shC sh0) 193) sh0_ok.l z44_len
    have bQ := shC_set (y := ⟨u1, u2, 0, 0, 0, z44⟩) (BoxAt.new w3 (shC sh0) 193) sh0_ok.l z44_len
    have lB := bB.lt
    have lT := bT.lt
    replace bB := (bB.alloc (.cells (shC sh0) 193)).keep (setCells_other _ w3.heap.size 0 B (shV ⟨u1, u2, 0, 0, 0, z44⟩) (by omega))
    replace bT := (bT.alloc (.cells (shC sh0) 193)).keep (setCells_other _ w3.heap.size 0 (B + 1) (shV ⟨u1, u2, 0, 0, 0, z44⟩) (by omega))
    replace bP := (bP.alloc (.cells (shC sh0) 193)).keep (setCells_other _ w3.heap.size 0 p (shV ⟨u1, u2, 0, 0, 0, z44⟩) (by omega))
    have hsz3 := hb1.size
    replace hb1 := setS_below (hb1.alloc hsz3 (.cells (shC sh0) 193)) (p := w3.heap.size) hsz3 (shV ⟨u1, u2, 0, 0, 0, z44⟩)
    obtain ⟨W4, hW4⟩ : ∃ W, (w3.alloc (.cells (shC sh0) 193)).setCells w3.heap.size 0 (shV ⟨u1, u2, 0, 0, 0, z44⟩) = W := ⟨_, rfl⟩
    rw [hW4] at hst4 bB bT bP bQ hb1
    obtain ⟨q, hq⟩ : ∃ q, w3.heap.size = q := ⟨_, rfl⟩
    have HST := Lib.hid hq
    rw [hq] at bQ hst4
    have hqB : B + 1 < q := by omega
    have t3 := take_any (k := 2) (a := 2) bB bT (HR.out.below ByR.stable hb1) hc (by omega) (by omega) (by omega)
    obtain ⟨u3, hu3⟩ : ∃ u, unN ((xs.drop 2).take 2) = u := ⟨_, rfl⟩
    have l3 : u3 < 2 ^ (8 * 2) := by
      have h := unN_lt (l := (xs.drop 2).take 2) fun x hx => HBY.out x (List.mem_of_mem_drop (List.mem_of_mem_take hx))
      rw [show ((xs.drop 2).take 2).length = 2 by rw [List.length_take, List.length_drop, HX.out]; rfl, hu3] at h
      exact h
    have U3 := Lib.hid hu3
    rw [hu3] at t3
    clear hu3
    have m3 : (u3 : Int) % 65536 = (u3 : Int) := by omega
    have z3 : (0 : Int) ≤ (u3 : Int) := Int.natCast_nonneg _
    go_wp2_with fail
    clear hst4 hW4
    refine t3.mono ?_
    clear t3
    rintro e w4 ⟨rfl, hw⟩
    replace bB := bB.set_other (p := ⟨B + 1, 0, none⟩) (by show B ≠ B + 1; omega) (.int .i64 ((2 + 2 : Nat) : Int))
    replace bT := bT.set 0 (.int .i64 ((2 + 2 : Nat) : Int))
    replace bP := bP.set_other (p := ⟨B + 1, 0, none⟩) (by show p ≠ B + 1; omega) (.int .i64 ((2 + 2 : Nat) : Int))
    replace bQ := bQ.set_other (p := ⟨B + 1, 0, none⟩) (by show q ≠ B + 1; omega) (.int .i64 ((2 + 2 : Nat) : Int))
    replace hb1 := hb1.setCell (p := ⟨B + 1, 0, none⟩) (by show w.heap.size ≤ B + 1; omega) (.int .i64 ((2 + 2 : Nat) : Int))
    rw [← hw] at bB bT bP bQ hb1
    change BoxAt _ (B + 1) #[.int .i64 ((2 + 2 : Nat) : Int)] at bT
    clear hw
    have t4 := take_any (k := 8) (a := 4) bB bT (HR.out.below ByR.stable hb1) hc (by omega) (by omega) (by omega)
    obtain ⟨u4, hu4⟩ : ∃ u, unN ((xs.drop 4).take 8) = u := ⟨_, rfl⟩
    have l4 : u4 < 2 ^ (8 * 8) := by
      have h := unN_lt (l := (xs.drop 4).take 8) fun x hx => HBY.out x (List.mem_of_mem_drop (List.mem_of_mem_take hx))
      rw [show ((xs.drop 4).take 8).length = 8 by rw [List.length_take, List.length_drop, HX.out]; rfl, hu4] at h
      exact h
    have U4 := Lib.hid hu4
    have L4 := Lib.hid l4
    clear l4
    rw [hu4] at t4
    clear hu4
    go_wp2_with fail
    refine t4.mono ?_
    clear t4
    rintro e w5 ⟨rfl, hw⟩
    replace bB := bB.set_other (p := ⟨B + 1, 0, none⟩) (by show B ≠ B + 1; omega) (.int .i64 ((4 + 8 : Nat) : Int))
    replace bT := bT.set 0 (.int .i64 ((4 + 8 : Nat) : Int))
    replace bP := bP.set_other (p := ⟨B + 1, 0, none⟩) (by show p ≠ B + 1; omega) (.int .i64 ((4 + 8 : Nat) : Int))
    replace bQ := bQ.set_other (p := ⟨B + 1, 0, none⟩) (by show q ≠ B + 1; omega) (.int .i64 ((4 + 8 : Nat) : Int))
    replace hb1 := hb1.setCell (p := ⟨B + 1, 0, none⟩) (by show w.heap.size ≤ B + 1; omega) (.int .i64 ((4 + 8 : Nat) : Int))
    rw [← hw] at bB bT bP bQ hb1
    change BoxAt _ (B + 1) #[.int .i64 ((4 + 8 : Nat) : Int)] at bT
    clear hw
    have c2 := (bQ.cell 2).trans (shC_2 _)
    have c3 := (bQ.cell 3).trans (shC_3 _)
    have f2 := bQ.frozen 2
    have f3 := bQ.frozen 3
    replace bB := bB.set_other (p := ⟨q, 2, none⟩) (by show B ≠ q; omega) (.int .u16 (u3 : Int))
    replace bT := bT.set_other (p := ⟨q, 2, none⟩) (by show B + 1 ≠ q; omega) (.int .u16 (u3 : Int))
    replace bP := bP.set_other (p := ⟨q, 2, none⟩) (by show p ≠ q; omega) (.int .u16 (u3 : Int))
    replace bQ := bQ.set 2 (.int .u16 (u3 : Int))
    replace hb1 := hb1.setCell (p := ⟨q, 2, none⟩) (by show w.heap.size ≤ q; omega) (.int .u16 (u3 : Int))
    replace bB := bB.set_other (p := ⟨q, 3, none⟩) (by show B ≠ q; omega) (.int .u64 (u4 : Int))
    replace bT := bT.set_other (p := ⟨q, 3, none⟩) (by show B + 1 ≠ q; omega) (.int .u64 (u4 : Int))
    replace bP := bP.set_other (p := ⟨q, 3, none⟩) (by show p ≠ q; omega) (.int .u64 (u4 : Int))
    replace bQ := bQ.set 3 (.int .u64 (u4 : Int))
    replace hb1 := hb1.setCell (p := ⟨q, 3, none⟩) (by show w.heap.size ≤ q; omega) (.int .u64 (u4 : Int))
    rw [shC_23] at bQ
    obtain ⟨W6, hW6⟩ : ∃ W, (w5.setCell ⟨q, 2, none⟩ (.int .u16 (u3 : Int))).setCell ⟨q, 3, none⟩ (.int .u64 (u4 : Int)) = W := ⟨_, rfl⟩
    rw [hW6] at bB bT bP bQ hb1
    have t5 := take_any (k := 2) (a := 12) bB bT (HR.out.below ByR.stable hb1) hc (by omega) (by omega) (by omega)
    obtain ⟨u5, hu5⟩ : ∃ u, unN ((xs.drop 12).take 2) = u := ⟨_, rfl⟩
    have l5 : u5 < 2 ^ (8 * 2) := by
      have h := unN_lt (l := (xs.drop 12).take 2) fun x hx => HBY.out x (List.mem_of_mem_drop (List.mem_of_mem_take hx))
      rw [show ((xs.drop 12).take 2).length = 2 by rw [List.length_take, List.length_drop, HX.out]; rfl, hu5] at h
      exact h
    have U5 := Lib.hid hu5
    rw [hu5] at t5
    clear hu5
    have m5 : (u5 : Int) % 65536 = (u5 : Int) := by omega
    have z5 : (0 : Int) ≤ (u5 : Int) := Int.natCast_nonneg _
    clear l1 l2 l3 l5
    go_wp2_with fail
    clear hW6 c2 c3 f2 f3
    refine t5.mono ?_
    clear t5
    rintro e w6 ⟨rfl, hw⟩
    replace bB := bB.set_other (p := ⟨B + 1, 0, none⟩) (by show B ≠ B + 1; omega) (.int .i64 ((12 + 2 : Nat) : Int))
    replace bT := bT.set 0 (.int .i64 ((12 + 2 : Nat) : Int))
    replace bP := bP.set_other (p := ⟨B + 1, 0, none⟩) (by show p ≠ B + 1; omega) (.int .i64 ((12 + 2 : Nat) : Int))
    replace bQ := bQ.set_other (p := ⟨B + 1, 0, none⟩) (by show q ≠ B + 1; omega) (.int .i64 ((12 + 2 : Nat) : Int))
    replace hb1 := hb1.setCell (p := ⟨B + 1, 0, none⟩) (by show w.heap.size ≤ B + 1; omega) (.int .i64 ((12 + 2 : Nat) : Int))
    rw [← hw] at bB bT bP bQ hb1
    change BoxAt _ (B + 1) #[.int .i64 ((12 + 2 : Nat) : Int)] at bT
    clear hw
    have c4 := (bQ.cell 4).trans (shC_4 _)
    have f4 := bQ.frozen 4
    replace bB := bB.set_other (p := ⟨q, 4, none⟩) (by show B ≠ q; omega) (.int .u16 (u5 : Int))
    replace bT := bT.set_other (p := ⟨q, 4, none⟩) (by show B + 1 ≠ q; omega) (.int .u16 (u5 : Int))
    replace bP := bP.set_other (p := ⟨q, 4, none⟩) (by show p ≠ q; omega) (.int .u16 (u5 : Int))
    replace bQ := bQ.set 4 (.int .u16 (u5 : Int))
    replace hb1 := hb1.setCell (p := ⟨q, 4, none⟩) (by show w.heap.size ≤ q; omega) (.int .u16 (u5 : Int))
    rw [shC_44] at bQ
    obtain ⟨W7, hW7⟩ : ∃ W, w6.setCell ⟨q, 4, none⟩ (.int .u16 (u5 : Int)) = W := ⟨_, rfl⟩
    rw [hW7] at bB bT bP bQ hb1
    have c0 := (bQ.cell 0).trans (shC_0 _)
    have hkd := kind_any (w := W7) (k := u1)
    go_wp2_with fail
    refine hkd.mono ?_
    rintro e w8 ⟨rfl, hw8⟩
    rw [hw8]
    clear hw8 hkd hW7 c4 f4
    obtain ⟨K, hK⟩ : ∃ K, kindB u1 = K := ⟨_, rfl⟩
    have HK := Lib.hid hK
    rw [hK]
    clear hK
    cases K with
    | false =>
      have HFB := Lib.hid (show frmB xs = false by unfold frmB; rw [U1.out, HK.out]; rfl)
      have hst := run_storeS (y := sh0) bP sh0_ok.l sh0_ok.l
      have hb2 := shC_set (y := sh0) bP sh0_ok.l sh0_ok.l
      go_wp2_with fail
      have hld := run_loadS hb2 sh0_ok.l
      refine bodyPost_ret (v := .tuple #[.agg (shC sh0), .int .i64 3]) (results_cellS Tryz.results170 _ _ _ _ _ rfl rfl hld) rfl ?_
      exact ⟨setS_below hb1 (by omega) _, .inr (.inl ⟨HOK.out, HFB.out, rfl⟩)⟩
    | true =>
      have t6 := take_any (k := 2) (a := 14) bB bT (HR.out.below ByR.stable hb1) hc (by omega) (by omega) (by omega)
      obtain ⟨u6, hu6⟩ : ∃ u, unN ((xs.drop 14).take 2) = u := ⟨_, rfl⟩
      have U6 := Lib.hid hu6
      rw [hu6] at t6
      clear hu6
      go_wp2_with fail
      refine t6.mono ?_
      clear t6
      rintro e w9 ⟨rfl, hw⟩
      replace bB := bB.set_other (p := ⟨B + 1, 0, none⟩) (by show B ≠ B + 1; omega) (.int .i64 ((14 + 2 : Nat) : Int))
      replace bT := bT.set 0 (.int .i64 ((14 + 2 : Nat) : Int))
      replace bP := bP.set_other (p := ⟨B + 1, 0, none⟩) (by show p ≠ B + 1; omega) (.int .i64 ((14 + 2 : Nat) : Int))
      replace bQ := bQ.set_other (p := ⟨B + 1, 0, none⟩) (by show q ≠ B + 1; omega) (.int .i64 ((14 + 2 : Nat) : Int))
      replace hb1 := hb1.setCell (p := ⟨B + 1, 0, none⟩) (by show w.heap.size ≤ B + 1; omega) (.int .i64 ((14 + 2 : Nat) : Int))
      rw [← hw] at bB bT bP bQ hb1
      clear hw
      by_cases h6 : u6 = 0
      · have HFB := Lib.hid (show frmB xs = true by unfold frmB; rw [U1.out, HK.out, U6.out]; simp [h6])
        have q6 : ((u6 : Int) != 0) = false := by rw [h6]; rfl
        clear h6
        obtain ⟨ba, oa, rfl, _, _⟩ := HR.out.addr (k := 0) (by omega)
        have hr9 := HR.out.below ByR.stable hb1
        have hrd := RdL.take (RdL.drop hr9 (k := 16) (by omega)) (k := 44) (by omega)
        rw [Nat.mul_one] at hrd
        obtain ⟨ys, hys⟩ : ∃ ys, (xs.drop 16).take 44 = ys := ⟨_, rfl⟩
        have HYS := Lib.hid hys
        rw [hys] at hrd
        have hyl : ys.length = 44 := hrd.1
        have hlb := run_loadB hrd
        have hsb := run_storeB bQ z44_len hyl
        replace bQ := shC_body bQ z44_len hyl
        replace bP := bP.keep (setCells_other _ q 5 p (ys.map fun b : Nat => Value.int .u8 (b : Int)) (by omega))
        have hb10 : Below w.heap.size w (w9.setCells q 5 (ys.map fun b : Nat => Value.int .u8 (b : Int))) := ((Keep.of_below (F := fun _ => False) hb1).trans (G := (· = q)) (setCells_keep _ _ _ _) (fun k hk hlt => by subst hk; omega)).below (Nat.le_refl _) (fun _ h => h.elim)
        obtain ⟨W10, hW10⟩ : ∃ W, w9.setCells q 5 (ys.map fun b : Nat => Value.int .u8 (b : Int)) = W := ⟨_, rfl⟩
        rw [hW10] at hsb bQ bP hb10
        have hlq := run_loadS bQ hyl
        have hst := run_storeS (y := ⟨u1, u2, u3, u4, u5, ys⟩) bP sh0_ok.l hyl
        have hb2 := shC_set (y := ⟨u1, u2, u3, u4, u5, ys⟩) bP sh0_ok.l hyl
        have hld := run_loadS hb2 hyl
        have haa : ∀ w, (Instr.arrayAt 191 (.slice (some ⟨ba, oa + 16, none⟩) 44 (c - 16))).run Tryz.prog w = .ok (.pointer (some ⟨ba, oa + 16, none⟩)) w := fun w => run_arrayAt w _ _ 44 _ _ _ bodyRow (Nat.le_refl _)
        have hdc : decS xs = ⟨u1, u2, u3, u4, u5, ys⟩ := by unfold decS; rw [U1.out, U2.out, U3.out, U4.out, U5.out, HYS.out]
        have HDC := Lib.hid hdc
        clear hr9 hrd hys hW10 hdc
        go_wp2_with fail
        refine bodyPost_ret (v := .tuple #[.agg (shC ⟨u1, u2, u3, u4, u5, ys⟩), .int .i64 0]) (results_cellS Tryz.results170 _ _ _ _ _ rfl rfl hld) rfl ?_
        refine ⟨setS_below hb10 (by omega) _, .inr (.inr ⟨HOK.out, HFB.out, ?_⟩)⟩
        rw [HDC.out]
      · have HFB := Lib.hid (show frmB xs = false by unfold frmB; rw [U1.out, HK.out, U6.out]; simp [h6])
        have q6 : ((u6 : Int) != 0) = true := by simp; omega
        clear h6
        have hst := run_storeS (y := sh0) bP sh0_ok.l sh0_ok.l
        have hb2 := shC_set (y := sh0) bP sh0_ok.l sh0_ok.l
        go_wp2_with fail
        have hld := run_loadS hb2 sh0_ok.l
        refine bodyPost_ret (v := .tuple #[.agg (shC sh0), .int .i64 3]) (results_cellS Tryz.results170 _ _ _ _ _ rfl rfl hld) rfl ?_
        exact ⟨setS_below hb1 (by omega) _, .inr (.inl ⟨HOK.out, HFB.out, rfl⟩)⟩
  · have q3 : ((n4 : Int) != (cs : Int)) = true := by simp; omega
    have HOK := Lib.hid (fun h => hok (hoi.1 h))
    have hst := run_storeS (y := sh0) b0 sh0_ok.l sh0_ok.l
    have hb2 := shC_set (y := sh0) b0 sh0_ok.l sh0_ok.l
    clear hok hoi hn4e hcse hl4 hcl
    go_wp2_with fail
    have hld := run_loadS hb2 sh0_ok.l
    refine bodyPost_ret (v := .tuple #[.agg (shC sh0), .int .i64 4]) (results_cellS Tryz.results170 _ _ _ _ _ rfl rfl hld) rfl ?_
    exact ⟨setS_below hb0 (by omega) _, .inl ⟨HOK.out, rfl⟩⟩
end
section
structure Ref where
  kind : Nat
  place : Nat
  gen : Nat
def refC (r : Ref) : Array Value := #[.int .u8 (r.kind : Int), .int .i64 (r.place : Int), .int .u64 (r.gen : Int)]
def isB (x : Shd) (r : Ref) (i : Nat) : Bool := decide (x.kind = r.kind) && decide (x.place = r.place) && decide (x.gen = r.gen) && decide (x.index = i)
theorem unN_le (k : Nat) : ∀ v, v < 2 ^ (8 * k) → unN (leN k v) = v := by
  induction k with
  | zero => intro v h; simp at h; subst h; rfl
  | succ k ih =>
    intro v h
    rw [leN_next, unN_snoc, leN_len]
    have e : unN (leN k v) = v % 2 ^ (8 * k) := by
      have h2 := ih (v % 2 ^ (8 * k)) (Nat.mod_lt _ (Nat.two_pow_pos _))
      rw [← h2]
      congr 1
      unfold leN
      refine List.map_congr_left fun i hi => ?_
      have hik := List.mem_range.1 hi
      have e1 : v % 2 ^ (8 * k) / 2 ^ (8 * i) % 2 ^ 8 = v / 2 ^ (8 * i) % 2 ^ 8 := by
        obtain ⟨d, hd⟩ : ∃ d, 8 * k = 8 * i + (8 + d) := ⟨8 * k - 8 * i - 8, by omega⟩
        rw [hd, Nat.pow_add, Nat.mod_mul_right_div_self, Nat.pow_add, Nat.mod_mul_right_mod]
      exact e1.symm
    have h3 : v / 2 ^ (8 * k) < 256 := by
      refine Nat.div_lt_of_lt_mul ?_
      rw [show 8 * (k + 1) = 8 * k + 8 by omega, Nat.pow_add] at h
      exact h
    rw [e, Nat.mod_eq_of_lt h3, Nat.mod_add_div]
theorem sncS_len {x : Shd} (h : x.body.length = 44) : (sncS x).length = 64 := by unfold sncS snc60; rw [List.length_append, List.length_append, sncH_len, h, leN_len]
theorem le4_leN (n : Nat) : le4 n = leN 4 n := by unfold le4 leN; simp [List.range, List.range.loop]
theorem sncS_sum {x : Shd} (h : x.body.length = 44) : okSum (sncS x) := by
  have hl : (snc60 x).length = 60 := by unfold snc60; rw [List.length_append, sncH_len, h]
  unfold okSum sncS
  rw [List.take_left' hl, List.drop_left' hl, le4_leN]
theorem mid_of {L A B C : List Nat} {a b : Nat} (h : L = A ++ (B ++ C)) (ha : A.length = a) (hb : B.length = b) : (L.drop a).take b = B := by
  subst h; subst ha; subst hb
  rw [List.drop_left, List.take_left]
/-- What is put is read. -/
theorem dec_snc {x : Shd} (hx : x.ok) : decS (sncS x) = x ∧ frmB (sncS x) = kindB x.kind := by
  have e : sncS x = leN 1 x.kind ++ (leN 1 x.index ++ (leN 2 x.place ++ (leN 8 x.gen ++ (leN 2 x.size ++ (leN 2 0 ++ (x.body ++ leN 4 (csum (snc60 x)))))))) := by
    unfold sncS snc60 sncH sncU hdF
    simp [List.append_assoc]
  have t1 : unN (((sncS x).drop 0).take 1) = x.kind := by rw [e, List.drop_zero, List.take_left' (leN_len _ _), unN_le 1 _ hx.k]
  have t2 : unN (((sncS x).drop 1).take 1) = x.index := by rw [mid_of (A := leN 1 x.kind) e (leN_len _ _) (leN_len _ _), unN_le 1 _ hx.i]
  have t3 : unN (((sncS x).drop 2).take 2) = x.place := by
    rw [mid_of (A := leN 1 x.kind ++ leN 1 x.index) (B := leN 2 x.place) (C := leN 8 x.gen ++ (leN 2 x.size ++ (leN 2 0 ++ (x.body ++ leN 4 (csum (snc60 x)))))) (by rw [e]; simp only [List.append_assoc]) (by simp [leN_len]) (leN_len _ _), unN_le 2 _ hx.p]
  have t4 : unN (((sncS x).drop 4).take 8) = x.gen := by
    rw [mid_of (A := leN 1 x.kind ++ leN 1 x.index ++ leN 2 x.place) (B := leN 8 x.gen) (C := leN 2 x.size ++ (leN 2 0 ++ (x.body ++ leN 4 (csum (snc60 x))))) (by rw [e]; simp only [List.append_assoc]) (by simp [leN_len]) (leN_len _ _), unN_le 8 _ hx.g]
  have t5 : unN (((sncS x).drop 12).take 2) = x.size := by
    rw [mid_of (A := leN 1 x.kind ++ leN 1 x.index ++ leN 2 x.place ++ leN 8 x.gen) (B := leN 2 x.size) (C := leN 2 0 ++ (x.body ++ leN 4 (csum (snc60 x)))) (by rw [e]; simp only [List.append_assoc]) (by simp [leN_len]) (leN_len _ _), unN_le 2 _ hx.s]
  have t6 : unN (((sncS x).drop 14).take 2) = 0 := by
    rw [mid_of (A := leN 1 x.kind ++ leN 1 x.index ++ leN 2 x.place ++ leN 8 x.gen ++ leN 2 x.size) (B := leN 2 0) (C := x.body ++ leN 4 (csum (snc60 x))) (by rw [e]; simp only [List.append_assoc]) (by simp [leN_len]) (leN_len _ _), unN_le 2 0 (by decide)]
  have t7 : ((sncS x).drop 16).take 44 = x.body :=
    mid_of (A := leN 1 x.kind ++ leN 1 x.index ++ leN 2 x.place ++ leN 8 x.gen ++ leN 2 x.size ++ leN 2 0) (B := x.body) (C := leN 4 (csum (snc60 x))) (by rw [e]; simp only [List.append_assoc]) (by simp [leN_len]) hx.l
  constructor
  · unfold decS
    rw [t1, t2, t3, t4, t5, t7]
  · unfold frmB
    rw [t1, t6]; simp
set_option maxRecDepth 100000 in
set_option maxHeartbeats 4000000 in
theorem shis_any {w : World} {x : Shd} {r : Ref} {i : Nat} (hx : x.ok) : Calls Tryz.prog 171 #[.agg (shC x), .agg (refC r), .int .i64 (i : Int)] w fun e w' => e = .returned (.bool (isB x r i)) ∧ Below w.heap.size w w' := by
  have c0 := shC_0 x
  have c1 := shC_1 x
  have c2 := shC_2 x
  have c3 := shC_3 x
  have l2 := hx.p
  have l1 := hx.i
  have q2 : (x.place : Int) < 65536 := by omega
  have q3 : (0 : Int) ≤ (x.place : Int) := Int.natCast_nonneg _
  have q4 : (x.index : Int) < 256 := by omega
  have q5 : (0 : Int) ≤ (x.index : Int) := Int.natCast_nonneg _
  clear hx
  unfold refC
  go_enter Tryz.func171, Tryz.ntmps171
  by_cases h1 : x.kind = r.kind
  · have e1 : ((x.kind : Int) == (r.kind : Int)) = true := by rw [h1]; simp
    by_cases h2 : x.place = r.place
    · have e2 : ((x.place : Int) == (r.place : Int)) = true := by rw [h2]; simp
      by_cases h3 : x.gen = r.gen
      · have e3 : ((x.gen : Int) == (r.gen : Int)) = true := by rw [h3]; simp
        by_cases h4 : x.index = i
        · have e4 : ((x.index : Int) == (i : Int)) = true := by rw [h4]; simp
          have HR := Lib.hid (show isB x r i = true by unfold isB; simp [h1, h2, h3, h4])
          clear h1 h2 h3 h4
          go_wp2_with fail
          go_ret
          exact ⟨by rw [HR.out]; rfl, ((Below.refl _ _).alloc (Nat.le_refl _) _).alloc (by rw [World.size_alloc]; omega) _⟩
        · have e4 : ((x.index : Int) == (i : Int)) = false := by simp; omega
          have HR := Lib.hid (show isB x r i = false by unfold isB; simp [h4])
          clear h1 h2 h3 h4
          go_wp2_with fail
          go_ret
          exact ⟨by rw [HR.out]; rfl, ((Below.refl _ _).alloc (Nat.le_refl _) _).alloc (by rw [World.size_alloc]; omega) _⟩
      · have e3 : ((x.gen : Int) == (r.gen : Int)) = false := by simp; omega
        have HR := Lib.hid (show isB x r i = false by unfold isB; simp [h3])
        clear h1 h2 h3
        go_wp2_with fail
        go_ret
        exact ⟨by rw [HR.out]; rfl, ((Below.refl _ _).alloc (Nat.le_refl _) _).alloc (by rw [World.size_alloc]; omega) _⟩
    · have e2 : ((x.place : Int) == (r.place : Int)) = false := by simp; omega
      have HR := Lib.hid (show isB x r i = false by unfold isB; simp [h2])
      clear h1 h2
      go_wp2_with fail
      go_ret
      exact ⟨by rw [HR.out]; rfl, ((Below.refl _ _).alloc (Nat.le_refl _) _).alloc (by rw [World.size_alloc]; omega) _⟩
  · have e1 : ((x.kind : Int) == (r.kind : Int)) = false := by simp; omega
    have HR := Lib.hid (show isB x r i = false by unfold isB; simp [h1])
    clear h1
    go_wp2_with fail
    go_ret
    exact ⟨by rw [HR.out]; rfl, ((Below.refl _ _).alloc (Nat.le_refl _) _).alloc (by rw [World.size_alloc]; omega) _⟩
end
section
structure CodF (C : Nat → Prop) (w : World) (cb b k m : Nat) : Prop where
  box : ∃ A c, BoxAt w cb #[.int .i64 (k : Int), .int .i64 (m : Int), .pointer (some ⟨b, 0, none⟩), .int .i64 (m : Int), .int .i64 (k : Int), .slice A (m * k) c] ∧ m * k ≤ c ∧
    RdL ByR 1 C w A (m * k) (flatF (cauF (risF k (k + m)) (risF 0 k)) m k)
  cc : C cb
  cf : C b
  fld : Fld w b
  k1 : 1 ≤ k
  m1 : 1 ≤ m
  km : k + m ≤ 255
theorem CodF.at {C : Nat → Prop} {w : World} {cb b k m : Nat} (h : CodF C w cb b k m) : CodAt w cb b k m := by
  obtain ⟨A, c, h1, h2, h3⟩ := h.box
  exact ⟨⟨A, c, h1, h2, h3.weaken ByR.stable fun _ _ => trivial⟩, h.fld, h.k1, h.m1, h.km⟩
theorem CodF.keep {C G : Nat → Prop} {w w' : World} {cb b k m : Nat} (h : CodF C w cb b k m) (hk : Keep G w w') (hd : ∀ j, C j → ¬ G j) : CodF C w' cb b k m := by
  obtain ⟨A, c, h1, h2, h3⟩ := h.box
  exact ⟨⟨A, c, h1.keeps hk (hd cb h.cc), h2, h3.stable ByR.stable fun j hj hl => ⟨hj, hk.block j hl (hd j hj)⟩⟩, h.cc, h.cf, h.fld.keep (hk.block b h.fld.lt (hd b h.cf)), h.k1, h.m1, h.km⟩
theorem CodF.below {C : Nat → Prop} {w w' : World} {cb b k m : Nat} (h : CodF C w cb b k m) (hk : Below w.heap.size w w') : CodF C w' cb b k m := h.keep (Keep.of_below (F := fun _ => False) hk) (fun _ _ h => h)
set_option maxRecDepth 100000 in
set_option maxHeartbeats 8000000 in
theorem new_anyS {w : World} {b k m base : Nat} (F : FldNew w b) (hbase : base ≤ b) (h1 : 1 ≤ k) (h2 : 1 ≤ m) (hkm : k + m ≤ 255) :
    Calls Tryz.prog 80 #[.pointer (some ⟨b, 0, none⟩), .int .i64 (k : Int), .int .i64 (m : Int)] w fun e w' => ∃ cb, e = .returned (.pointer (some ⟨cb, 0, none⟩)) ∧ CodF (fun j => base ≤ j) w' cb b k m ∧ Keep (· = b) w w' := by
  have q1 : ¬ (k : Int) < 1 := by omega
  have q2 : ¬ (m : Int) < 1 := by omega
  have q3 : ¬ (k : Int) > 255 := by omega
  have q4 : ¬ (m : Int) > 255 - (k : Int) := by omega
  have q5 : IntKind.i64.wrap (255 - (k : Int)) = 255 - (k : Int) := by rw [IntKind.wrap_i64]; omega
  have q6 : IntKind.i64.wrap ((k : Int) + (m : Int)) = ((k + m : Nat) : Int) := by rw [IntKind.wrap_i64]; omega
  have hbl : b < w.heap.size := by obtain ⟨cs, hb, _⟩ := F.ex; exact hb.lt
  have HF := Lib.hid F
  clear F
  have hri1 := fun w' => rising_any (w := w') (a := k) (b := k + m) (by omega) hkm
  have hri2 := fun w' => rising_any (w := w') (a := 0) (b := k) (by omega) (by omega)
  rw [show k + m - k = m by omega] at hri1
  rw [Nat.sub_zero] at hri2
  go_enter Tryz.func80, Tryz.ntmps80
  go_wp2_with fail
  refine (hri1 _).mono ?_
  rintro e w1 ⟨A1, c1, rfl, hc1, r1, t1⟩
  go_wp2_with fail
  refine (hri2 _).mono ?_
  rintro e w2 ⟨A2, c2, rfl, hc2, r2, t2⟩
  go_wp2_with fail
  have t12 := t1.trans (t2.mono t1.size)
  have hF2 : FldNew w2 b := by
    obtain ⟨cs, h5, h6⟩ := HF.out.ex
    exact ⟨cs, h5.below t12, h6⟩
  have r1' := r1.below ByR.stable t2
  have hsz := t1.size
  refine (cauchy_new (S := fun j => w.heap.size ≤ j) hF2 r1' (r2.weaken ByR.stable (fun j hj => Nat.le_trans hsz hj)) (by omega) h2 (by omega) h1 (by omega) hc1 hc2 (risF_nodup k m)).mono ?_
  rintro e w3 ⟨A, c, rfl, hc, hr, hF3, hk3⟩
  have HR3 := Lib.hid hr
  have HF3 := Lib.hid hF3
  have HK3 := Lib.hid ((Keep.of_below (F := (· = b)) t12).trans hk3 (fun _ h _ => h))
  have hs13 : w.heap.size ≤ w3.heap.size := HK3.out.size
  have hs12 : w.heap.size ≤ w2.heap.size := Nat.le_trans hsz t2.size
  clear hri1 hri2 r1 t1 r2 t2 t12 hF2 r1' hr hF3 hk3
  go_wp2_with fail
  go_ret
  have hal : Below w3.heap.size w3 ((w3.alloc (.cells #[.int .i64 (m : Int), .int .i64 (k : Int), .slice A (m * k) c] 181)).alloc (.cells #[.int .i64 (k : Int), .int .i64 (m : Int), .pointer (some ⟨b, 0, none⟩), .int .i64 (m : Int), .int .i64 (k : Int), .slice A (m * k) c] 183)) := (by repeat (first | (with_reducible exact Below.refl _ _) | (with_reducible assumption) | (with_reducible refine Below.drew ?_) | (with_reducible refine Below.setCell ?_ ?_ _) | (with_reducible refine Below.alloc ?_ ?_ _) | (with_reducible refine Below.later ?_ ?_ _) | (first | (with_reducible exact Nat.le_refl _) | omega | (simp only [World.size_alloc, World.size_setCell, World.size_drew] <;> omega))))
  have hbx := BoxAt.new (w3.alloc (.cells #[.int .i64 (m : Int), .int .i64 (k : Int), .slice A (m * k) c] 181)) #[.int .i64 (k : Int), .int .i64 (m : Int), .pointer (some ⟨b, 0, none⟩), .int .i64 (m : Int), .int .i64 (k : Int), .slice A (m * k) c] 183
  rw [World.size_alloc] at hbx
  exact ⟨w3.heap.size + 1, rfl, ⟨⟨A, c, hbx, hc, (HR3.out.below ByR.stable hal).weaken ByR.stable fun j hj => by have h9 : w2.heap.size ≤ j := hj; show base ≤ j; omega⟩, (by show base ≤ w3.heap.size + 1; omega), hbase, HF3.out.below hal, h1, h2, hkm⟩, (HK3.out.alloc _).alloc _⟩
def homeN (n place i : Nat) : Nat := (place % n + i % n) % n
set_option maxRecDepth 100000 in
set_option maxHeartbeats 4000000 in
theorem home_any {w : World} {n place i : Nat} (hn : 1 ≤ n) (hn2 : n ≤ 1000) : Calls Tryz.prog 65 #[.int .i64 (n : Int), .int .i64 (place : Int), .int .i64 (i : Int)] w fun e w' => e = .returned (.int .i64 (homeN n place i : Int)) ∧ Below w.heap.size w w' := by
  have q0 : ¬ (n : Int) < 1 := by omega
  have q1 : ¬ (place : Int) < 0 := by omega
  have q2 : ¬ (i : Int) < 0 := by omega
  have q3 : ¬ n = 0 := by omega
  have q31 : ((n : Int) == 0) = false := by simp; omega
  have t1 : (place : Int).tmod (n : Int) = ((place % n : Nat) : Int) := by rw [Int.tmod_eq_emod_of_nonneg (Int.natCast_nonneg _)]; push_cast; rfl
  have t2 : (i : Int).tmod (n : Int) = ((i % n : Nat) : Int) := by rw [Int.tmod_eq_emod_of_nonneg (Int.natCast_nonneg _)]; push_cast; rfl
  have l1 : place % n < n := Nat.mod_lt _ (by omega)
  have l2 : i % n < n := Nat.mod_lt _ (by omega)
  obtain ⟨u, hu⟩ : ∃ u, place % n = u := ⟨_, rfl⟩
  obtain ⟨v, hv⟩ : ∃ v, i % n = v := ⟨_, rfl⟩
  rw [hu] at t1 l1
  rw [hv] at t2 l2
  have t3 : ((u : Int) + (v : Int)).tmod (n : Int) = (((u + v) % n : Nat) : Int) := by rw [show (u : Int) + (v : Int) = ((u + v : Nat) : Int) by push_cast; rfl, Int.tmod_eq_emod_of_nonneg (Int.natCast_nonneg _)]; push_cast; rfl
  have q4 : IntKind.i64.wrap ((u : Int) + (v : Int)) = (u : Int) + (v : Int) := by rw [IntKind.wrap_i64]; omega
  have HH := Lib.hid (show homeN n place i = (u + v) % n by unfold homeN; rw [hu, hv])
  obtain ⟨x, hx⟩ : ∃ x, (u + v) % n = x := ⟨_, rfl⟩
  rw [hx] at t3 HH
  clear hu hv hx
  go_enter Tryz.func65, Tryz.ntmps65
  go_wp2_with fail
  refine wp_region_held_drew (S := fun _ => True) (by kernel_rfl) (trivial) (fun hHeld => ?_)
  refine wpAnyH_take (i := 0) (v := ?_) rfl (by kernel_rfl) (by kernel_rfl) (by kernel_rfl) (fun _ _ _ h => h) (Or.inl ⟨by first | kernel_rfl | rfl, ?_⟩) (by assumption) ?_
  rotate_left
  · (intro wq hSw; (try dsimp only at hSw); (try simp (maxSteps := 2000000) only [zz1, zz2, zz3]); go_simp); try with_reducible rfl
  try simp (maxSteps := 2000000) only [zz1, zz2, zz3, Act.put, zz4, zz5, zz6]
  refine wpAnyH_take (i := 1) (v := ?_) rfl (by kernel_rfl) (by kernel_rfl) (by kernel_rfl) (fun _ _ _ h => h) (Or.inl ⟨by first | kernel_rfl | rfl, ?_⟩) (by assumption) ?_
  rotate_left
  · (intro wq hSw; (try dsimp only at hSw); (try simp (maxSteps := 2000000) only [zz1, zz2, zz3]); go_simp); try with_reducible rfl
  try simp (maxSteps := 2000000) only [zz1, zz2, zz3, Act.put, zz4, zz5, zz6]
  refine wpAnyH_take (i := 2) (v := ?_) rfl (by kernel_rfl) (by kernel_rfl) (by kernel_rfl) (fun _ _ _ h => h) (Or.inl ⟨by first | kernel_rfl | rfl, ?_⟩) (by assumption) ?_
  rotate_left
  · (intro wq hSw; (try dsimp only at hSw); (try simp (maxSteps := 2000000) only [zz1, zz2, zz3]); go_simp); try with_reducible rfl
  try simp (maxSteps := 2000000) only [zz1, zz2, zz3, Act.put, zz4, zz5, zz6]
  refine wpAnyH_take (i := 3) (v := ?_) rfl (by kernel_rfl) (by kernel_rfl) (by kernel_rfl) (fun _ _ _ h => h) (Or.inl ⟨by first | kernel_rfl | rfl, ?_⟩) (by assumption) ?_
  rotate_left
  · (intro wq hSw; (try dsimp only at hSw); (try simp (maxSteps := 2000000) only [zz1, zz2, zz3]); go_simp); try with_reducible rfl
  try simp (maxSteps := 2000000) only [zz1, zz2, zz3, Act.put, zz4, zz5, zz6]
  refine wpAnyH_take (i := 4) (v := ?_) rfl (by kernel_rfl) (by kernel_rfl) (by kernel_rfl) (fun _ _ _ h => h) (Or.inl ⟨by first | kernel_rfl | rfl, ?_⟩) (by assumption) ?_
  rotate_left
  · (intro wq hSw; (try dsimp only at hSw); (try simp (maxSteps := 2000000) only [zz1, zz2, zz3]); go_simp); try with_reducible rfl
  try simp (maxSteps := 2000000) only [zz1, zz2, zz3, Act.put, zz4, zz5, zz6]
  refine wpAnyH_take (i := 5) (v := ?_) rfl (by kernel_rfl) (by kernel_rfl) (by kernel_rfl) (fun _ _ _ h => h) (Or.inl ⟨by first | kernel_rfl | rfl, ?_⟩) (by assumption) ?_
  rotate_left
  · (intro wq hSw; (try dsimp only at hSw); (try simp (maxSteps := 2000000) only [zz1, zz2, zz3]); go_simp); try with_reducible rfl
  try simp (maxSteps := 2000000) only [zz1, zz2, zz3, Act.put, zz4, zz5, zz6]
  refine wpAnyH_take (i := 6) (v := ?_) rfl (by kernel_rfl) (by kernel_rfl) (by kernel_rfl) (fun _ _ _ h => h) (Or.inl ⟨by first | kernel_rfl | rfl, ?_⟩) (by assumption) ?_
  rotate_left
  · (intro wq hSw; (try dsimp only at hSw); (try simp (maxSteps := 2000000) only [zz1, zz2, zz3]); go_simp); try with_reducible rfl
  try simp (maxSteps := 2000000) only [zz1, zz2, zz3, Act.put, zz4, zz5, zz6]
  refine wpAnyH_take (i := 7) (v := ?_) rfl (by kernel_rfl) (by kernel_rfl) (by kernel_rfl) (fun _ _ _ h => h) (Or.inl ⟨by first | kernel_rfl | rfl, ?_⟩) (by assumption) ?_
  rotate_left
  · (intro wq hSw; (try dsimp only at hSw); (try simp (maxSteps := 2000000) only [zz1, zz2, zz3]); go_simp); try with_reducible rfl
  try simp (maxSteps := 2000000) only [zz1, zz2, zz3, Act.put, zz4, zz5, zz6]
  refine wpAnyH_take (i := 8) (v := ?_) rfl (by kernel_rfl) (by kernel_rfl) (by kernel_rfl) (fun _ _ _ h => h) (Or.inl ⟨by first | kernel_rfl | rfl, ?_⟩) (by assumption) ?_
  rotate_left
  · (intro wq hSw; (try dsimp only at hSw); (try simp (maxSteps := 2000000) only [zz1, zz2, zz3]); go_simp); try with_reducible rfl
  try simp (maxSteps := 2000000) only [zz1, zz2, zz3, Act.put, zz4, zz5, zz6]
  refine wpAnyH_take (i := 9) (v := ?_) rfl (by kernel_rfl) (by kernel_rfl) (by kernel_rfl) (fun _ _ _ h => h) (Or.inl ⟨by first | kernel_rfl | rfl, ?_⟩) (by assumption) ?_
  rotate_left
  · (intro wq hSw; (try dsimp only at hSw); (try simp (maxSteps := 2000000) only [zz1, zz2, zz3]); go_simp); try with_reducible rfl
  try simp (maxSteps := 2000000) only [zz1, zz2, zz3, Act.put, zz4, zz5, zz6]
  refine wpAnyH_done (by kernel_rfl) ?_ _
  go_wp2_with fail
  go_ret
  exact ⟨by rw [HH.out]; rfl, (Below.refl _ _).drew⟩
def setC (a cb : Nat) (r : Ref) : Array Value := #[.pointer (some ⟨a, 0, none⟩), .pointer (some ⟨cb, 0, none⟩), .int .u8 (r.kind : Int), .int .i64 (r.place : Int), .int .u64 (r.gen : Int)]
section
variable {U : Nat → Prop} {w : World} {a n s cb : Nat} {v : Value} {Fs : Nat → Nat → Prop} {ps : List Nat} {sts : List DSt} {r : Ref}
set_option maxRecDepth 100000 in
set_option maxHeartbeats 4000000 in
theorem shome_any (hS : BoxAt w s (setC a cb r)) (h : Hid (ArrB U w a v Fs ps n sts)) (h1 : 1 ≤ sts.length) (h2 : sts.length ≤ 1000) (i : Nat) :
    Calls Tryz.prog 169 #[.pointer (some ⟨s, 0, none⟩), .int .i64 (i : Int)] w fun e w' => e = .returned (.int .i64 (homeN sts.length r.place i : Int)) ∧ Below w.heap.size w w' := by
  have hSd : BoxAt w.drew s (setC a cb r) := hS.keep rfl
  have s0 : w.drew.cell? ⟨s, 0, none⟩ = some (.pointer (some ⟨a, 0, none⟩)) ∧ w.drew.cell? ⟨s, 3, none⟩ = some (.int .i64 (r.place : Int)) := ⟨hSd.cell 0, hSd.cell 3⟩
  have hd : Below w.heap.size w w.drew := (Below.refl _ _).drew
  have hN := an_any (Lib.hid (h.out.below hd)) (by omega)
  have hH := fun w => home_any (w := w) (n := sts.length) (place := r.place) (i := i) h1 h2
  obtain ⟨l, hl⟩ : ∃ l, sts.length = l := ⟨_, rfl⟩
  rw [hl] at hN hH ⊢
  clear hl h hS
  go_enter Tryz.func169, Tryz.ntmps169
  go_wp2_with fail
  refine wp_region_held_drew (S := fun w' => w'.cell? ⟨s, 0, none⟩ = some (.pointer (some ⟨a, 0, none⟩)) ∧ w'.cell? ⟨s, 3, none⟩ = some (.int .i64 (r.place : Int))) (by kernel_rfl) (by first | exact s0 | exact s5 | exact s6) (fun hHeld => ?_)
  refine wpAnyH_take (i := 0) (v := ?_) rfl (by kernel_rfl) (by kernel_rfl) (by kernel_rfl) (fun _ _ _ h => h) (Or.inl ⟨by first | kernel_rfl | rfl, ?_⟩) (by assumption) ?_
  rotate_left
  · (intro wq hSw; (try dsimp only at hSw); (try simp (maxSteps := 2000000) only [zz1, zz2, zz3]); go_simp); try with_reducible rfl
  try simp (maxSteps := 2000000) only [zz1, zz2, zz3, Act.put, zz4, zz5, zz6]
  refine wpAnyH_take (i := 1) (v := ?_) rfl (by kernel_rfl) (by kernel_rfl) (by kernel_rfl) (fun _ _ _ h => h) (Or.inl ⟨by first | kernel_rfl | rfl, ?_⟩) (by assumption) ?_
  rotate_left
  · (intro wq hSw; (try dsimp only at hSw); (try simp (maxSteps := 2000000) only [zz1, zz2, zz3]); go_simp); try with_reducible rfl
  try simp (maxSteps := 2000000) only [zz1, zz2, zz3, Act.put, zz4, zz5, zz6]
  refine wpAnyH_take (i := 2) (v := ?_) rfl (by kernel_rfl) (by kernel_rfl) (by kernel_rfl) (fun _ _ _ h => h) (Or.inl ⟨by first | kernel_rfl | rfl, ?_⟩) (by assumption) ?_
  rotate_left
  · (intro wq hSw; (try dsimp only at hSw); (try simp (maxSteps := 2000000) only [zz1, zz2, zz3]); go_simp); try with_reducible rfl
  try simp (maxSteps := 2000000) only [zz1, zz2, zz3, Act.put, zz4, zz5, zz6]
  refine wpAnyH_take (i := 3) (v := ?_) rfl (by kernel_rfl) (by kernel_rfl) (by kernel_rfl) (fun _ _ _ h => h) (Or.inl ⟨by first | kernel_rfl | rfl, ?_⟩) (by assumption) ?_
  rotate_left
  · (intro wq hSw; (try dsimp only at hSw); (try simp (maxSteps := 2000000) only [zz1, zz2, zz3]); go_simp); try with_reducible rfl
  try simp (maxSteps := 2000000) only [zz1, zz2, zz3, Act.put, zz4, zz5, zz6]
  refine wpAnyH_take (i := 5) (v := ?_) rfl (by kernel_rfl) (by kernel_rfl) (by kernel_rfl) (fun _ _ _ h => h) (Or.inl ⟨by first | kernel_rfl | rfl, ?_⟩) (by assumption) ?_
  rotate_left
  · (intro wq hSw; (try dsimp only at hSw); (try simp (maxSteps := 2000000) only [zz1, zz2, zz3]); go_simp); try with_reducible rfl
  try simp (maxSteps := 2000000) only [zz1, zz2, zz3, Act.put, zz4, zz5, zz6]
  refine wpAnyH_take (i := 6) (v := ?_) rfl (by kernel_rfl) (by kernel_rfl) (by kernel_rfl) (fun _ _ _ h => h) (Or.inl ⟨by first | kernel_rfl | rfl, ?_⟩) (by assumption) ?_
  rotate_left
  · (intro wq hSw; (try dsimp only at hSw); (try simp (maxSteps := 2000000) only [zz1, zz2, zz3]); go_simp); try with_reducible rfl
  try simp (maxSteps := 2000000) only [zz1, zz2, zz3, Act.put, zz4, zz5, zz6]
  refine wpAnyH_take (i := 7) (v := ?_) rfl (by kernel_rfl) (by kernel_rfl) (by kernel_rfl) (fun _ _ _ h => h) (Or.inl ⟨by first | kernel_rfl | rfl, ?_⟩) (by assumption) ?_
  rotate_left
  · (intro wq hSw; (try dsimp only at hSw); (try simp (maxSteps := 2000000) only [zz1, zz2, zz3]); go_simp); try with_reducible rfl
  try simp (maxSteps := 2000000) only [zz1, zz2, zz3, Act.put, zz4, zz5, zz6]
  refine wpAnyH_take (i := 8) (v := ?_) rfl (by kernel_rfl) (by kernel_rfl) (by kernel_rfl) (fun _ _ _ h => h) (Or.inl ⟨by first | kernel_rfl | rfl, ?_⟩) (by assumption) ?_
  rotate_left
  · (intro wq hSw; (try dsimp only at hSw); (try simp (maxSteps := 2000000) only [zz1, zz2, zz3]); go_simp); try with_reducible rfl
  try simp (maxSteps := 2000000) only [zz1, zz2, zz3, Act.put, zz4, zz5, zz6]
  refine wpAnyH_take (i := 9) (v := ?_) rfl (by kernel_rfl) (by kernel_rfl) (by kernel_rfl) (fun _ _ _ h => h) (Or.inl ⟨by first | kernel_rfl | rfl, ?_⟩) (by assumption) ?_
  rotate_left
  · (intro wq hSw; (try dsimp only at hSw); (try simp (maxSteps := 2000000) only [zz1, zz2, zz3]); go_simp); try with_reducible rfl
  try simp (maxSteps := 2000000) only [zz1, zz2, zz3, Act.put, zz4, zz5, zz6]
  refine wpAnyH_take (i := 10) (v := ?_) rfl (by kernel_rfl) (by kernel_rfl) (by kernel_rfl) (fun _ _ _ h => h) (Or.inl ⟨by first | kernel_rfl | rfl, ?_⟩) (by assumption) ?_
  rotate_left
  · (intro wq hSw; (try dsimp only at hSw); (try simp (maxSteps := 2000000) only [zz1, zz2, zz3]); go_simp); try with_reducible rfl
  try simp (maxSteps := 2000000) only [zz1, zz2, zz3, Act.put, zz4, zz5, zz6]
  refine wpAnyH_ready (rs := [4]) (by kernel_rfl) (by simp) ?_
  refine AllReadyH.cons rfl (fun K hK => ?_) AllReadyH.nil
  try simp (maxSteps := 2000000) only [zz1, zz2, zz3]
  go_simp
  go_at_call 83
  refine hN.mono ?_
  clear hN
  rintro e w5 ⟨rfl, hb5⟩
  have hS5 := hSd.below hb5
  have s5 : w5.cell? ⟨s, 0, none⟩ = some (.pointer (some ⟨a, 0, none⟩)) ∧ w5.cell? ⟨s, 3, none⟩ = some (.int .i64 (r.place : Int)) := ⟨hS5.cell 0, hS5.cell 3⟩
  try (go_wp2_with fail)
  refine hK.out _ _ (by first | exact s0 | exact s5 | exact s6) (fun hHeld => ?_)
  clear hK K
  try simp (maxSteps := 2000000) only [zz1, zz2, zz3, Act.put, zz4, zz5, zz6]
  refine wpAnyH_ready (rs := [11]) (by kernel_rfl) (by simp) ?_
  refine AllReadyH.cons rfl (fun K hK => ?_) AllReadyH.nil
  try simp (maxSteps := 2000000) only [zz1, zz2, zz3]
  go_simp
  go_at_call 65
  refine (hH _).mono ?_
  clear hH
  rintro e w6 ⟨rfl, hb6⟩
  have hS6 := hS5.below hb6
  have s6 : w6.cell? ⟨s, 0, none⟩ = some (.pointer (some ⟨a, 0, none⟩)) ∧ w6.cell? ⟨s, 3, none⟩ = some (.int .i64 (r.place : Int)) := ⟨hS6.cell 0, hS6.cell 3⟩
  have hb56 : Below w.heap.size w w6 := hd.trans (hb5.trans (hb6.mono hb5.size))
  try (go_wp2_with fail)
  refine hK.out _ _ (by first | exact s0 | exact s5 | exact s6) (fun hHeld => ?_)
  clear hK K
  try simp (maxSteps := 2000000) only [zz1, zz2, zz3, Act.put, zz4, zz5, zz6]
  refine wpAnyH_take (i := 12) (v := ?_) rfl (by kernel_rfl) (by kernel_rfl) (by kernel_rfl) (fun _ _ _ h => h) (Or.inl ⟨by first | kernel_rfl | rfl, ?_⟩) (by assumption) ?_
  rotate_left
  · (intro wq hSw; (try dsimp only at hSw); (try simp (maxSteps := 2000000) only [zz1, zz2, zz3]); go_simp); try with_reducible rfl
  try simp (maxSteps := 2000000) only [zz1, zz2, zz3, Act.put, zz4, zz5, zz6]
  refine wpAnyH_done (by kernel_rfl) ?_ _
  go_wp2_with fail
  go_ret
  exact ⟨rfl, hb56⟩
end
end
section
theorem by_of_u8 {S : Nat → Prop} {w : World} {A : Option Addr} {n : Nat} {xs : List Int} (h : RdL U8R 1 S w A n xs) (hb : ∀ x ∈ xs, 0 ≤ x ∧ x < 256) : RdL ByR 1 S w A n (xs.map Int.toNat) := by
  refine ⟨by rw [List.length_map]; exact h.1, fun hn => ?_⟩
  obtain ⟨b, o, hA, hS, hlt, hc⟩ := h.2 hn
  refine ⟨b, o, hA, hS, hlt, fun i x hx => ?_⟩
  rw [List.getElem?_map] at hx
  cases hl : xs[i]? with
  | none => rw [hl] at hx; cases hx
  | some y =>
    rw [hl] at hx
    injection hx with hx
    obtain ⟨cs, h1, h2, h3⟩ := hc i y hl
    have hy := hb y (List.mem_of_getElem? hl)
    refine ⟨cs, h1, ⟨by omega, ?_⟩, h3⟩
    have h4 : cs = [.int .u8 y] := h2
    rw [h4, ← hx, Int.toNat_of_nonneg hy.1]
/-- A drive's sectors are bytes. -/
def StB (st : DSt) (z : Nat) : Prop := ∀ x ∈ st.seen z, 0 ≤ x ∧ x < 256
def secN (st : DSt) (z : Nat) : List Nat := (st.seen z).map Int.toNat
section
variable {U : Nat → Prop} {w : World} {a n s cb : Nat} {v : Value} {Fs : Nat → Nat → Prop} {ps : List Nat} {sts : List DSt} {r : Ref}
set_option maxRecDepth 100000 in
theorem aread2 (h : Hid (ArrB U w a v Fs ps n sts)) (d : Nat) {st : DSt} (hst : sts[d]? = some st) (z : Nat) (hz : z < n) (hb : StB st z) :
    Calls Tryz.prog 168 #[.pointer (some ⟨a, 0, none⟩), .int .i64 (d : Int), .int .i64 (z : Int)] w fun e w' => Below w.heap.size w w' ∧
      ((st.dead = true ∧ e = .returned (.tuple #[.slice none 0 0, .int .i64 90])) ∨
       (st.dead = false ∧ ∃ A, e = .returned (.tuple #[.slice A 64 64, .int .i64 0]) ∧ RdL ByR 1 (w.heap.size ≤ ·) w' A 64 (secN st z))) := by
  have hd : d < sts.length := (List.getElem?_eq_some_iff.1 hst).1
  have hp : ps[d]? = some (ps[d]'(by rw [← h.out.len]; exact hd)) := List.getElem?_eq_getElem _
  have hre := areach_in h d hd hp
  have HB := Lib.hid hb
  go_enter Tryz.func168, Tryz.ntmps168
  go_wp2_with fail
  refine hre.mono ?_
  rintro e w1 ⟨rfl, t1⟩
  have D1 := Lib.hid ((h.out.drv d _ _ hp hst).below t1)
  have T1 := Lib.hid t1
  have s1 := t1.size
  clear t1 hre hb
  cases hdd : st.dead with
  | false =>
    have hrd := read_good D1 hdd z hz
    have HDD := Lib.hid hdd
    clear hdd
    go_wp2_with fail
    refine hrd.mono ?_
    rintro e w2 ⟨A, rfl, r2, t2⟩
    have R2 := Lib.hid (by_of_u8 r2 HB.out)
    clear r2 hrd
    go_wp2_with fail
    go_ret2
    exact ⟨T1.out.trans (t2.mono s1),   .inr ⟨HDD.out, A, rfl, R2.out.weaken ByR.stable (fun k hk => Nat.le_trans s1 hk)⟩⟩
  | true =>
    have hrE : readyE st.dead n (z : Int) = 90 := by unfold readyE; rw [hdd]; rfl
    have hrd := read_bad D1 (z : Int) (by rw [hrE]; decide)
    rw [hrE] at hrd
    have HDD := Lib.hid hdd
    clear hdd hrE
    go_wp2_with fail
    refine hrd.mono ?_
    rintro e w2 ⟨rfl, t2⟩
    clear hrd
    go_wp2_with fail
    go_ret2
    exact ⟨T1.out.trans (t2.mono s1),   .inl ⟨HDD.out, rfl⟩⟩
end
end
end Go.Proofs.YtihnlhfngmbglaaGreat
