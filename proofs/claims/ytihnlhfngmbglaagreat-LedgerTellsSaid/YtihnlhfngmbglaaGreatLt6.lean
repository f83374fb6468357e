/-
  A sector read as a shard: its numbers, one behind the other.
  Shards as wholes: built, stored.
  A sector read as a shard, or why it is none.
  Whether a shard is one of a stripe; what is put is read.
  A coder whose blocks are known; where a shard lies.
  A shard read from its drive.
  A stripe's shard, if there is one.
  A stripe's whole shards.
  What whole shards have, by index.
  A stripe of drives and a coder that belong together.
  The rows of whole shards: plain.
  A stripe is read.
-/
import Derived.Test.YtihnlhfngmbglaaGreatLt5
set_option linter.unusedSimpArgs false
set_option linter.unusedVariables false
namespace Go.Proofs.YtihnlhfngmbglaaGreat
open Go.RowKit Go.Cib
attribute [local go_sem] cell_set Later.cell Later.frozen Grw.cell Grw.frozen
section
theorem okSum_un {xs : List Nat} (hl : xs.length = 64) (hb : Byt xs) : okSum xs ↔ unN ((xs.drop 60).take 4) = csum (xs.take 60) := by
  have hd : (xs.drop 60).length = 4 := by rw [List.length_drop, hl]
  rw [List.take_of_length_le (by omega)]
  have hbd : ∀ x ∈ xs.drop 60, x < 256 := fun x hx => hb x (List.mem_of_mem_drop hx)
  obtain ⟨a, b, c, d, hs⟩ : ∃ a b c d, xs.drop 60 = [a, b, c, d] := by
    match h : xs.drop 60, hd with
    | [a, b, c, d], _ => exact ⟨a, b, c, d, rfl⟩
  unfold okSum
  rw [hs] at hbd ⊢
  have h1 := hbd a (by simp)
  have h2 := hbd b (by simp)
  have h3 := hbd c (by simp)
  have h4 := hbd d (by simp)
  have e : unN [a, b, c, d] = un4 [a, b, c, d] := by rw [un4_eq]; simp [unN]
  have hc := csum_lt (l := xs.take 60) fun x hx => hb x (List.mem_of_mem_take hx)
  rw [e]
  constructor
  · intro h
    have := un_le4 hc
    rw [h] at this
    exact this
  · intro h
    rw [← h]
    exact le_un4 h1 h2 h3 h4
set_option maxRecDepth 100000 in
set_option maxHeartbeats 4000000 in
theorem take_any {w : World} {B T a k c : Nat} {A : Option Addr} {S : Nat → Prop} {xs : List Nat} (hB : BoxAt w B #[.slice A 64 c]) (hT : BoxAt w T #[.int .i64 (a : Int)]) (R : RdL ByR 1 S w A 64 xs) (hc : 64 ≤ c) (k1 : 1 ≤ k) (k8 : k ≤ 8) (ha : a + k ≤ 64) :
    Calls Tryz.prog 234 #[.int .i64 (k : Int), .pointer (some ⟨B, 0, none⟩), .pointer (some ⟨T, 0, none⟩)] w fun e w' => e = .returned (.int .u64 (unN ((xs.drop a).take k) : Int)) ∧ w' = w.setCell ⟨T, 0, none⟩ (.int .i64 ((a + k : Nat) : Int)) := by
  have hg := nget_any R hc (by omega) k1 k8 ha
  have c0 := hB.cell 0
  have c1 := hT.cell 0
  have f1 := hT.frozen 0
  have q0 : (a : Int) ≤ 64 := by omega
  have q1 : (k : Int) ≤ 8 := by omega
  have q2 : (0 : Int) ≤ (a : Int) := Int.natCast_nonneg _
  have q3 : (0 : Int) ≤ (k : Int) := Int.natCast_nonneg _
  obtain ⟨y, hy⟩ : ∃ y, unN ((xs.drop a).take k) = y := ⟨_, rfl⟩
  rw [hy] at hg ⊢
  clear hy hB hT R
  go_enter Tryz.func234, Tryz.ntmps234
  go_wp2_with fail
  refine hg.mono ?_
  clear hg
  rintro e w9 ⟨rfl, hw9⟩
  rw [hw9]
  clear hw9
  go_wp2_with fail
  go_ret
  exact ⟨rfl, by push_cast; rfl⟩
end
section
def z44 : List Nat := List.replicate 44 0
theorem z44_len : z44.length = 44 := by decide
theorem z44_byt : Byt z44 := fun x hx => by rw [(List.mem_replicate.1 hx).2]; omega
def sh0 : Shd := ⟨0, 0, 0, 0, 0, z44⟩
theorem sh0_ok : sh0.ok := ⟨by decide, by decide, by decide, by decide, by decide, z44_len, z44_byt⟩
theorem shInfo : (Tryz.prog.info? 193).map (fun i => (i.zero, i.size, i.bytes)) = some (some (.agg (shC sh0)), 49, 64) := by kernel_rfl
theorem shut_zeroS : zeroValue 193 = shutZero 193 := rfl
theorem run_zeroS (w : World) : (shutZero 193).run Tryz.prog w = .ok (.agg (shC sh0)) w := by
  obtain ⟨i2, hi2, hz2, hs2, hby2⟩ := info_parts shInfo
  simp [shutZero, zeroValue, typeInfo, hi2, hz2]
theorem built0 : Tryz.prog.built 193 [] = some (shC sh0) := by kernel_rfl
theorem built2 (a b : Nat) : Tryz.prog.built 193 [(0, .int .u8 (a : Int)), (1, .int .u8 (b : Int))] = some (shC ⟨a, b, 0, 0, 0, z44⟩) := by kernel_rfl
theorem built5 (a b c d e : Nat) : Tryz.prog.built 193 [(0, .int .u8 (a : Int)), (1, .int .u8 (b : Int)), (2, .int .u16 (c : Int)), (3, .int .u64 (d : Int)), (4, .int .u16 (e : Int))] = some (shC ⟨a, b, c, d, e, z44⟩) := by kernel_rfl
theorem shut_buildS (parts : Array (Nat × Value)) : Instr.build 193 parts = shutBuild 193 parts := rfl
theorem run_build0 (w : World) : (shutBuild 193 #[]).run Tryz.prog w = .ok (.agg (shC sh0)) w := run_build w _ _ _ built0
theorem run_build2 (a b : Nat) (w : World) : (shutBuild 193 #[(0, .int .u8 (a : Int)), (1, .int .u8 (b : Int))]).run Tryz.prog w = .ok (.agg (shC ⟨a, b, 0, 0, 0, z44⟩)) w := run_build w _ _ _ (built2 a b)
theorem run_build5 (a b c d e : Nat) (w : World) : (shutBuild 193 #[(0, .int .u8 (a : Int)), (1, .int .u8 (b : Int)), (2, .int .u16 (c : Int)), (3, .int .u64 (d : Int)), (4, .int .u16 (e : Int))]).run Tryz.prog w = .ok (.agg (shC ⟨a, b, c, d, e, z44⟩)) w := run_build w _ _ _ (built5 a b c d e)
theorem shut_storeS (a : Addr) (v : Value) : storeVar 193 a v = shutStore 193 a v := rfl
theorem shV_one (x : Shd) : ∀ u ∈ shV x, u.oneCell' = true := by
  intro u hu
  unfold shV at hu
  rcases List.mem_append.1 hu with h | h
  · simp at h
    rcases h with rfl | rfl | rfl | rfl | rfl <;> rfl
  · obtain ⟨b, _, rfl⟩ := List.mem_map.1 h
    rfl
theorem shV_len {x : Shd} (h : x.body.length = 44) : (shV x).length = 49 := by unfold shV; simp [h]
/-- A shard stored over another one. -/
theorem run_storeS {w : World} {p : Nat} {x y : Shd} (hb : BoxAt w p (shC x)) (hx : x.body.length = 44) (hy : y.body.length = 44) : (shutStore 193 ⟨p, 0, none⟩ (.agg (shC y))).run Tryz.prog w = .ok () (w.setCells p 0 (shV y)) := by
  have h := run_storeVar_mid (P := Tryz.prog) w p 0 193 (shC y) (fun j hj => ?_) (by rw [shSize, shC_size hy]) (Array.all_eq_true_iff_forall_mem.2 (fun v hv => shV_one y v (by unfold shC at hv; simpa using hv)))
  · exact h
  · rw [shC_size hy] at hj
    rw [Nat.zero_add]
    refine ⟨?_, by simp [hb.frozen j]⟩
    rw [hb.cell, Array.getElem?_eq_getElem (by rw [shC_size hx]; exact hj)]; rfl
theorem shC_set {w : World} {p : Nat} {x y : Shd} (hb : BoxAt w p (shC x)) (hx : x.body.length = 44) (hy : y.body.length = 44) : BoxAt (w.setCells p 0 (shV y)) p (shC y) := BoxAt.setAll hb (shV y) (by rw [shV_len hy, shC_size hx])
theorem results_cellS {P : Program} {fn : Func} {p u : Tmp} {ty : TypeId} (h : fn.results = #[.cell p ty, .tmp u]) (tmps : Array Value) (w : World) (a : Addr) (v r : Value) (hp : tmps.getD p undef = .pointer (some a)) (hr : tmps.getD u undef = r) (hl : (loadVar ty a).run P w = .ok v w) :
    (results fn tmps).run P w = .ok (.tuple #[v, r]) w := by
  have hp' : tmps[p]?.getD undef = .pointer (some a) := by simpa using hp
  have hr' : tmps[u]?.getD undef = r := by simpa using hr
  simp [results, h, hp', hr', asAddr, hl]
theorem shC_23 (a b c d : Nat) (z : List Nat) : ((shC ⟨a, b, 0, 0, 0, z⟩).setIfInBounds 2 (.int .u16 (c : Int))).setIfInBounds 3 (.int .u64 (d : Int)) = shC ⟨a, b, c, d, 0, z⟩ := by unfold shC shV; simp
theorem shC_44 (a b c d e : Nat) (z : List Nat) : (shC ⟨a, b, c, d, 0, z⟩).setIfInBounds 4 (.int .u16 (e : Int)) = shC ⟨a, b, c, d, e, z⟩ := by unfold shC shV; simp
/-- The bytes of one set anew. -/
theorem shC_body {w : World} {q a b c d e : Nat} {z z' : List Nat} (hb : BoxAt w q (shC ⟨a, b, c, d, e, z⟩)) (hz : z.length = 44) (hz' : z'.length = 44) : BoxAt (w.setCells q 5 (z'.map fun b : Nat => Value.int .u8 (b : Int))) q (shC ⟨a, b, c, d, e, z'⟩) := by
  have gen : ∀ (vs : List Value) (pre cs : List Value) (w : World), vs.length = cs.length → BoxAt w q (pre ++ cs).toArray → BoxAt (w.setCells q pre.length vs) q (pre ++ vs).toArray := by
    intro vs
    induction vs with
    | nil => intro pre cs w h hb; rw [List.length_eq_zero_iff.1 h.symm] at hb; exact hb
    | cons v vs ih =>
      intro pre cs w h hb
      match cs, h with
      | c :: cs, h =>
        have h1 := hb.set pre.length v
        have e : (pre ++ c :: cs).toArray.setIfInBounds pre.length v = ((pre ++ [v]) ++ cs).toArray := by simp
        rw [e] at h1
        have h2 := ih (pre ++ [v]) cs _ (by simpa using h) h1
        simpa [World.setCells] using h2
  exact gen (z'.map fun b : Nat => Value.int .u8 (b : Int)) [.int .u8 (a : Int), .int .u8 (b : Int), .int .u16 (c : Int), .int .u64 (d : Int), .int .u16 (e : Int)] (z.map fun b : Nat => Value.int .u8 (b : Int)) w (by simp [hz, hz']) hb
theorem bodyRow : Tryz.prog.underlying 191 = some (.array 44 5) := by kernel_rfl
theorem bodySize : (Tryz.prog.info? 191).map (·.size) = some 44 := by kernel_rfl
theorem shut_loadB (a : Addr) : loadVar 191 a = shutLoad 191 a := rfl
theorem shut_storeB (a : Addr) (v : Value) : storeVar 191 a v = shutStore 191 a v := rfl
theorem by_range {S : Nat → Prop} {w : World} {b o : Nat} {bs : List Nat} {n : Nat} (h : RdL ByR 1 S w (some ⟨b, o, none⟩) n bs) : w.rangeAt b o (bs.map fun b : Nat => Value.int .u8 (b : Int)) := by
  intro j v hj
  have hjl := (List.getElem?_eq_some_iff.1 hj).1
  rw [List.length_map] at hjl
  have hl := h.1
  have h1 := (by_at h (k := j) (by omega)).1
  rw [h1, ← hj, List.getElem?_map, gt_of_lt hjl]; rfl
theorem run_loadB {S : Nat → Prop} {w : World} {b o : Nat} {bs : List Nat} (h : RdL ByR 1 S w (some ⟨b, o, none⟩) 44 bs) : (shutLoad 191 ⟨b, o, none⟩).run Tryz.prog w = .ok (.agg (bs.map fun b : Nat => Value.int .u8 (b : Int)).toArray) w :=
  run_loadVar_mid (P := Tryz.prog) w b o _ _ _ (by_range h) bodyRow rfl (by rw [bodySize, List.length_map, h.1])
theorem run_storeB {w : World} {q : Nat} {x : Shd} {bs : List Nat} (hb : BoxAt w q (shC x)) (hx : x.body.length = 44) (hl : bs.length = 44) : (shutStore 191 ⟨q, 5, none⟩ (.agg (bs.map fun b : Nat => Value.int .u8 (b : Int)).toArray)).run Tryz.prog w = .ok () (w.setCells q 5 (bs.map fun b : Nat => Value.int .u8 (b : Int))) := by
  have h := run_storeVar_mid (P := Tryz.prog) w q 5 191 (bs.map fun b : Nat => Value.int .u8 (b : Int)).toArray (fun j hj => ?_) (by rw [bodySize]; simp [hl]) (Array.all_eq_true_iff_forall_mem.2 (fun v hv => by
    obtain ⟨b, _, rfl⟩ := List.mem_map.1 (by simpa using hv)
    rfl))
  · exact h
  · have hj2 : j < 44 := by simpa [hl] using hj
    refine ⟨?_, by simp [hb.frozen (5 + j)]⟩
    rw [hb.cell, Array.getElem?_eq_getElem (by rw [shC_size hx]; omega)]; rfl
end
section
theorem setS_below {B : Nat} {w w' : World} (h : Below B w w') {p : Nat} (hp : B ≤ p) (vs : List Value) : Below B w (w'.setCells p 0 vs) := by
  have gen : ∀ (vs : List Value) (o : Nat) (w' : World), Below B w w' → Below B w (w'.setCells p o vs) := by
    intro vs
    induction vs with
    | nil => intro o w' h; exact h
    | cons v vs ih => intro o w' h; exact ih (o + 1) _ (h.setCell (p := ⟨p, o, none⟩) hp v)
  exact gen vs 0 w' h
def decS (xs : List Nat) : Shd := ⟨unN ((xs.drop 0).take 1), unN ((xs.drop 1).take 1), unN ((xs.drop 2).take 2), unN ((xs.drop 4).take 8), unN ((xs.drop 12).take 2), (xs.drop 16).take 44⟩
def frmB (xs : List Nat) : Bool := kindB (unN ((xs.drop 0).take 1)) && decide (unN ((xs.drop 14).take 2) = 0)
attribute [local go_sem ↓] shut_loadS shut_zeroS shut_buildS shut_storeS shut_loadB shut_storeB
attribute [local go_sem] run_zeroS run_build0 run_build2
set_option maxRecDepth 100000 in
set_option maxHeartbeats 4000000 in
theorem taker_any {w : World} {A : Option Addr} {n c : Nat} : Calls Tryz.prog 203 #[.slice A n c] w fun e w' => e = .returned (.func (.func 234) #[] #[.pointer (some ⟨w.heap.size, 0, none⟩), .pointer (some ⟨w.heap.size + 1, 0, none⟩)]) ∧
    w' = (w.alloc (.cells #[.slice A n c] 68)).alloc (.cells #[.int .i64 0] 3) := by
  go_enter Tryz.func203, Tryz.ntmps203
  go_wp2_with fail
  go_ret
  exact ⟨rfl, rfl⟩
set_option maxRecDepth 100000 in
set_option maxHeartbeats 8000000 in
theorem shget_any {w : World} {c : Nat} {A : Option Addr} {S : Nat → Prop} {xs : List Nat} (R : RdL ByR 1 S w A 64 xs) (hc : 64 ≤ c) :
    Calls Tryz.prog 170 #[.slice A 64 c] w fun e w' => Below w.heap.size w w' ∧
    ((¬ okSum xs ∧ e = .returned (.tuple #[.agg (shC sh0), .int .i64 4])) ∨
     (okSum xs ∧ frmB xs = false ∧ e = .returned (.tuple #[.agg (shC sh0), .int .i64 3])) ∨
     (okSum xs ∧ frmB xs = true ∧ e = .returned (.tuple #[.agg (shC (decS xs)), .int .i64 0]))) := by
  have HR := Lib.hid R
  have HX := Lib.hid R.1
  have HBY := Lib.hid (by_byt R)
  clear R
  have q9 : ((64 : Int) != 64) = false := by decide
  go_enter Tryz.func170, Tryz.ntmps170
  go_wp2_with fail
  have b0 := BoxAt.new w (shC sh0) 193
  have hb0 : Below w.heap.size w (w.alloc (.cells (shC sh0) 193)) := (Below.refl _ _).alloc (Nat.le_refl _) _
  obtain ⟨wA, hwA⟩ : ∃ wA, w.alloc (.cells (shC sh0) 193) = wA := ⟨_, rfl⟩
  rw [hwA] at b0 hb0 ⊢
  clear hwA
  obtain ⟨p, hp⟩ : ∃ p, w.heap.size = p := ⟨_, rfl⟩
  rw [hp] at b0 ⊢
  have hlp := b0.lt
  have hrA := HR.out.below ByR.stable hb0
  have hn4 := nget_any (c := c) (a := 60) (k := 4) hrA hc (by omega) (by omega) (by omega) (by omega)
  have hcs := csum_any (cp := c) (RdL.take hrA (k := 60) (by omega)) (by omega)
  have hoi := okSum_un HX.out HBY.out
  have hl4 := unN_lt (l := (xs.drop 60).take 4) fun x hx => HBY.out x (List.mem_of_mem_drop (List.mem_of_mem_take hx))
  rw [show ((xs.drop 60).take 4).length = 4 by rw [List.length_take, List.length_drop, HX.out]; rfl] at hl4
  have hcl := csum_lt (l := xs.take 60) fun x hx => HBY.out x (List.mem_of_mem_take hx)
  obtain ⟨n4, hn4e⟩ : ∃ y, unN ((xs.drop 60).take 4) = y := ⟨_, rfl⟩
  obtain ⟨cs, hcse⟩ : ∃ y, csum (xs.take 60) = y := ⟨_, rfl⟩
  rw [hn4e] at hn4 hoi hl4
  rw [hcse] at hcs hoi hcl
  have q0 : (0 : Int) ≤ (n4 : Int) := Int.natCast_nonneg _
  have q1 : (n4 : Int) < 4294967296 := by omega
  have q2 : (n4 : Int) % 4294967296 = (n4 : Int) := by omega
  push_cast at hn4
  have hsl := fun w => piece_pre sl_by (A := A) (N := 64) (c := c) (k := 60) (by omega) w
  push_cast at hsl
  refine hn4.mono ?_
  clear hn4
  rintro e w1 ⟨rfl, hw1⟩
  rw [hw1]
  clear hw1
  go_wp2_with fail
  refine hcs.mono ?_
  clear hcs
  rintro e w1 ⟨rfl, hw1⟩
  rw [hw1]
  clear hw1
  by_cases hok : n4 = cs
  · have q3 : ((n4 : Int) != (cs : Int)) = false := by rw [hok]; simp
    have HOK := Lib.hid (hoi.2 hok)
    clear hok hoi hn4e hcse hl4 hcl
    go_wp2_with fail
    refine taker_any.mono ?_
    rintro e w1 ⟨rfl, hw1⟩
    have bB := (BoxAt.new wA #[.slice A 64 c] 68).alloc (.cells #[.int .i64 0] 3)
    have bT := BoxAt.new (wA.alloc (.cells #[.slice A 64 c] 68)) #[.int .i64 ((0 : Nat) : Int)] 3
    rw [World.size_alloc] at bT
    have bP := (b0.alloc (.cells #[.slice A 64 c] 68)).alloc (.cells #[.int .i64 0] 3)
    have hb1 := (hb0.alloc (by omega) (.cells #[.slice A 64 c] 68)).alloc (by rw [World.size_alloc]; omega) (.cells #[.int .i64 0] 3)
    change BoxAt ((wA.alloc (.cells #[.slice A 64 c] 68)).alloc (.cells #[.int .i64 0] 3)) _ _ at bT
    rw [← hw1] at bB bT bP hb1
    clear hw1
    obtain ⟨B, hBe⟩ : ∃ B, wA.heap.size = B := ⟨_, rfl⟩
    rw [hBe] at bB bT ⊢
    have hBp : p < B := by omega
    have t1 := take_any (k := 1) (a := 0) bB bT (HR.out.below ByR.stable hb1) hc (by omega) (by omega) (by omega)
    obtain ⟨u1, hu1⟩ : ∃ u, unN ((xs.drop 0).take 1) = u := ⟨_, rfl⟩
    have l1 : u1 < 2 ^ (8 * 1) := by
      have h := unN_lt (l := (xs.drop 0).take 1) fun x hx => HBY.out x (List.mem_of_mem_drop (List.mem_of_mem_take hx))
      rw [show ((xs.drop 0).take 1).length = 1 by rw [List.length_take, List.length_drop, HX.out]; rfl, hu1] at h
      exact h
    have U1 := Lib.hid hu1
    rw [hu1] at t1
    clear hu1
    have m1 : (u1 : Int) % 256 = (u1 : Int) := by omega
    have z1 : (0 : Int) ≤ (u1 : Int) := Int.natCast_nonneg _
    go_wp2_with fail
    refine t1.mono ?_
    clear t1
    rintro e w2 ⟨rfl, hw⟩
    replace bB := bB.set_other (p := ⟨B + 1, 0, none⟩) (by show B ≠ B + 1; omega) (.int .i64 ((0 + 1 : Nat) : Int))
    replace bT := bT.set 0 (.int .i64 ((0 + 1 : Nat) : Int))
    replace bP := bP.set_other (p := ⟨B + 1, 0, none⟩) (by show p ≠ B + 1; omega) (.int .i64 ((0 + 1 : Nat) : Int))
    replace hb1 := hb1.setCell (p := ⟨B + 1, 0, none⟩) (by show w.heap.size ≤ B + 1; omega) (.int .i64 ((0 + 1 : Nat) : Int))
    rw [← hw] at bB bT bP hb1
    change BoxAt _ (B + 1) #[.int .i64 ((0 + 1 : Nat) : Int)] at bT
    clear hw
    have t2 := take_any (k := 1) (a := 1) bB bT (HR.out.below ByR.stable hb1) hc (by omega) (by omega) (by omega)
    obtain ⟨u2, hu2⟩ : ∃ u, unN ((xs.drop 1).take 1) = u := ⟨_, rfl⟩
    have l2 : u2 < 2 ^ (8 * 1) := by
      have h := unN_lt (l := (xs.drop 1).take 1) fun x hx => HBY.out x (List.mem_of_mem_drop (List.mem_of_mem_take hx))
      rw [show ((xs.drop 1).take 1).length = 1 by rw [List.length_take, List.length_drop, HX.out]; rfl, hu2] at h
      exact h
    have U2 := Lib.hid hu2
    rw [hu2] at t2
    clear hu2
    have m2 : (u2 : Int) % 256 = (u2 : Int) := by omega
    have z2 : (0 : Int) ≤ (u2 : Int) := Int.natCast_nonneg _
    go_wp2_with fail
    refine t2.mono ?_
    clear t2
    rintro e w3 ⟨rfl, hw⟩
    replace bB := bB.set_other (p := ⟨B + 1, 0, none⟩) (by show B ≠ B + 1; omega) (.int .i64 ((1 + 1 : Nat) : Int))
    replace bT := bT.set 0 (.int .i64 ((1 + 1 : Nat) : Int))
    replace bP := bP.set_other (p := ⟨B + 1, 0, none⟩) (by show p ≠ B + 1; omega) (.int .i64 ((1 + 1 : Nat) : Int))
    replace hb1 := hb1.setCell (p := ⟨B + 1, 0, none⟩) (by show w.heap.size ≤ B + 1; omega) (.int .i64 ((1 + 1 : Nat) : Int))
    rw [← hw] at bB bT bP hb1
    change BoxAt _ (B + 1) #[.int .i64 ((1 + 1 : Nat) : Int)] at bT
    clear hw
    have hst4 := run_storeS (y := ⟨u1, u2, 0, 0, 0, z44⟩) (BoxAt.new w3 (shC sh0) 193) sh0_ok.l z44_len
    have bQ := shC_set (y := ⟨u1, u2, 0, 0, 0, z44⟩) (BoxAt.new w3 (shC sh0) 193) sh0_ok.l z44_len
    have lB := bB.lt
    have lT := bT.lt
    replace bB := (bB.alloc (.cells (shC sh0) 193)).keep (setCells_other _ w3.heap.size 0 B (shV ⟨u1, u2, 0, 0, 0, z44⟩) (by omega))
    replace bT := (bT.alloc (.cells (shC sh0) 193)).keep (setCells_other _ w3.heap.size 0 (B + 1) (shV ⟨u1, u2, 0, 0, 0, z44⟩) (by omega))
    replace bP := (bP.alloc (.cells (shC sh0) 193)).keep (setCells_other _ w3.heap.size 0 p (shV ⟨u1, u2, 0, 0, 0, z44⟩) (by omega))
    have hsz3 := hb1.size
    replace hb1 := setS_below (hb1.alloc hsz3 (.cells (shC sh0) 193)) (p := w3.heap.size) hsz3 (shV ⟨u1, u2, 0, 0, 0, z44⟩)
    obtain ⟨W4, hW4⟩ : ∃ W, (w3.alloc (.cells (shC sh0) 193)).setCells w3.heap.size 0 (shV ⟨u1, u2, 0, 0, 0, z44⟩) = W := ⟨_, rfl⟩
    rw [hW4] at hst4 bB bT bP bQ hb1
    obtain ⟨q, hq⟩ : ∃ q, w3.heap.size = q := ⟨_, rfl⟩
    have HST := Lib.hid hq
    rw [hq] at bQ hst4
    have hqB : B + 1 < q := by omega
    have t3 := take_any (k := 2) (a := 2) bB bT (HR.out.below ByR.stable hb1) hc (by omega) (by omega) (by omega)
    obtain ⟨u3, hu3⟩ : ∃ u, unN ((xs.drop 2).take 2) = u := ⟨_, rfl⟩
    have l3 : u3 < 2 ^ (8 * 2) := by
      have h := unN_lt (l := (xs.drop 2).take 2) fun x hx => HBY.out x (List.mem_of_mem_drop (List.mem_of_mem_take hx))
      rw [show ((xs.drop 2).take 2).length = 2 by rw [List.length_take, List.length_drop, HX.out]; rfl, hu3] at h
      exact h
    have U3 := Lib.hid hu3
    rw [hu3] at t3
    clear hu3
    have m3 : (u3 : Int) % 65536 = (u3 : Int) := by omega
    have z3 : (0 : Int) ≤ (u3 : Int) := Int.natCast_nonneg _
    go_wp2_with fail
    clear hst4 hW4
    refine t3.mono ?_
    clear t3
    rintro e w4 ⟨rfl, hw⟩
    replace bB := bB.set_other (p := ⟨B + 1, 0, none⟩) (by show B ≠ B + 1; omega) (.int .i64 ((2 + 2 : Nat) : Int))
    replace bT := bT.set 0 (.int .i64 ((2 + 2 : Nat) : Int))
    replace bP := bP.set_other (p := ⟨B + 1, 0, none⟩) (by show p ≠ B + 1; omega) (.int .i64 ((2 + 2 : Nat) : Int))
    replace bQ := bQ.set_other (p := ⟨B + 1, 0, none⟩) (by show q ≠ B + 1; omega) (.int .i64 ((2 + 2 : Nat) : Int))
    replace hb1 := hb1.setCell (p := ⟨B + 1, 0, none⟩) (by show w.heap.size ≤ B + 1; omega) (.int .i64 ((2 + 2 : Nat) : Int))
    rw [← hw] at bB bT bP bQ hb1
    change BoxAt _ (B + 1) #[.int .i64 ((2 + 2 : Nat) : Int)] at bT
    clear hw
    have t4 := take_any (k := 8) (a := 4) bB bT (HR.out.below ByR.stable hb1) hc (by omega) (by omega) (by omega)
    obtain ⟨u4, hu4⟩ : ∃ u, unN ((xs.drop 4).take 8) = u := ⟨_, rfl⟩
    have l4 : u4 < 2 ^ (8 * 8) := by
      have h := unN_lt (l := (xs.drop 4).take 8) fun x hx => HBY.out x (List.mem_of_mem_drop (List.mem_of_mem_take hx))
      rw [show ((xs.drop 4).take 8).length = 8 by rw [List.length_take, List.length_drop, HX.out]; rfl, hu4] at h
      exact h
    have U4 := Lib.hid hu4
    have L4 := Lib.hid l4
    clear l4
    rw [hu4] at t4
    clear hu4
    go_wp2_with fail
    refine t4.mono ?_
    clear t4
    rintro e w5 ⟨rfl, hw⟩
    replace bB := bB.set_other (p := ⟨B + 1, 0, none⟩) (by show B ≠ B + 1; omega) (.int .i64 ((4 + 8 : Nat) : Int))
    replace bT := bT.set 0 (.int .i64 ((4 + 8 : Nat) : Int))
    replace bP := bP.set_other (p := ⟨B + 1, 0, none⟩) (by show p ≠ B + 1; omega) (.int .i64 ((4 + 8 : Nat) : Int))
    replace bQ := bQ.set_other (p := ⟨B + 1, 0, none⟩) (by show q ≠ B + 1; omega) (.int .i64 ((4 + 8 : Nat) : Int))
    replace hb1 := hb1.setCell (p := ⟨B + 1, 0, none⟩) (by show w.heap.size ≤ B + 1; omega) (.int .i64 ((4 + 8 : Nat) : Int))
    rw [← hw] at bB bT bP bQ hb1
    change BoxAt _ (B + 1) #[.int .i64 ((4 + 8 : Nat) : Int)] at bT
    clear hw
    have c2 := (bQ.cell 2).trans (shC_2 _)
    have c3 := (bQ.cell 3).trans (shC_3 _)
    have f2 := bQ.frozen 2
    have f3 := bQ.frozen 3
    replace bB := bB.set_other (p := ⟨q, 2, none⟩) (by show B ≠ q; omega) (.int .u16 (u3 : Int))
    replace bT := bT.set_other (p := ⟨q, 2, none⟩) (by show B + 1 ≠ q; omega) (.int .u16 (u3 : Int))
    replace bP := bP.set_other (p := ⟨q, 2, none⟩) (by show p ≠ q; omega) (.int .u16 (u3 : Int))
    replace bQ := bQ.set 2 (.int .u16 (u3 : Int))
    replace hb1 := hb1.setCell (p := ⟨q, 2, none⟩) (by show w.heap.size ≤ q; omega) (.int .u16 (u3 : Int))
    replace bB := bB.set_other (p := ⟨q, 3, none⟩) (by show B ≠ q; omega) (.int .u64 (u4 : Int))
    replace bT := bT.set_other (p := ⟨q, 3, none⟩) (by show B + 1 ≠ q; omega) (.int .u64 (u4 : Int))
    replace bP := bP.set_other (p := ⟨q, 3, none⟩) (by show p ≠ q; omega) (.int .u64 (u4 : Int))
    replace bQ := bQ.set 3 (.int .u64 (u4 : Int))
    replace hb1 := hb1.setCell (p := ⟨q, 3, none⟩) (by show w.heap.size ≤ q; omega) (.int .u64 (u4 : Int))
    rw [shC_23] at bQ
    obtain ⟨W6, hW6⟩ : ∃ W, (w5.setCell ⟨q, 2, none⟩ (.int .u16 (u3 : Int))).setCell ⟨q, 3, none⟩ (.int .u64 (u4 : Int)) = W := ⟨_, rfl⟩
    rw [hW6] at bB bT bP bQ hb1
    have t5 := take_any (k := 2) (a := 12) bB bT (HR.out.below ByR.stable hb1) hc (by omega) (by omega) (by omega)
    obtain ⟨u5, hu5⟩ : ∃ u, unN ((xs.drop 12).take 2) = u := ⟨_, rfl⟩
    have l5 : u5 < 2 ^ (8 * 2) := by
      have h := unN_lt (l := (xs.drop 12).take 2) fun x hx => HBY.out x (List.mem_of_mem_drop (List.mem_of_mem_take hx))
      rw [show ((xs.drop 12).take 2).length = 2 by rw [List.length_take, List.length_drop, HX.out]; rfl, hu5] at h
      exact h
    have U5 := Lib.hid hu5
    rw [hu5] at t5
    clear hu5
    have m5 : (u5 : Int) % 65536 = (u5 : Int) := by omega
    have z5 : (0 : Int) ≤ (u5 : Int) := Int.natCast_nonneg _
    clear l1 l2 l3 l5
    go_wp2_with fail
    clear hW6 c2 c3 f2 f3
    refine t5.mono ?_
    clear t5
    rintro e w6 ⟨rfl, hw⟩
    replace bB := bB.set_other (p := ⟨B + 1, 0, none⟩) (by show B ≠ B + 1; omega) (.int .i64 ((12 + 2 : Nat) : Int))
    replace bT := bT.set 0 (.int .i64 ((12 + 2 : Nat) : Int))
    replace bP := bP.set_other (p := ⟨B + 1, 0, none⟩) (by show p ≠ B + 1; omega) (.int .i64 ((12 + 2 : Nat) : Int))
    replace bQ := bQ.set_other (p := ⟨B + 1, 0, none⟩) (by show q ≠ B + 1; omega) (.int .i64 ((12 + 2 : Nat) : Int))
    replace hb1 := hb1.setCell (p := ⟨B + 1, 0, none⟩) (by show w.heap.size ≤ B + 1; omega) (.int .i64 ((12 + 2 : Nat) : Int))
    rw [← hw] at bB bT bP bQ hb1
    change BoxAt _ (B + 1) #[.int .i64 ((12 + 2 : Nat) : Int)] at bT
    clear hw
    have c4 := (bQ.cell 4).trans (shC_4 _)
    have f4 := bQ.frozen 4
    replace bB := bB.set_other (p := ⟨q, 4, none⟩) (by show B ≠ q; omega) (.int .u16 (u5 : Int))
    replace bT := bT.set_other (p := ⟨q, 4, none⟩) (by show B + 1 ≠ q; omega) (.int .u16 (u5 : Int))
    replace bP := bP.set_other (p := ⟨q, 4, none⟩) (by show p ≠ q; omega) (.int .u16 (u5 : Int))
    replace bQ := bQ.set 4 (.int .u16 (u5 : Int))
    replace hb1 := hb1.setCell (p := ⟨q, 4, none⟩) (by show w.heap.size ≤ q; omega) (.int .u16 (u5 : Int))
    rw [shC_44] at bQ
    obtain ⟨W7, hW7⟩ : ∃ W, w6.setCell ⟨q, 4, none⟩ (.int .u16 (u5 : Int)) = W := ⟨_, rfl⟩
    rw [hW7] at bB bT bP bQ hb1
    have c0 := (bQ.cell 0).trans (shC_0 _)
    have hkd := kind_any (w := W7) (k := u1)
    go_wp2_with fail
    refine hkd.mono ?_
    rintro e w8 ⟨rfl, hw8⟩
    rw [hw8]
    clear hw8 hkd hW7 c4 f4
    obtain ⟨K, hK⟩ : ∃ K, kindB u1 = K := ⟨_, rfl⟩
    have HK := Lib.hid hK
    rw [hK]
    clear hK
    cases K with
    | false =>
      have HFB := Lib.hid (show frmB xs = false by unfold frmB; rw [U1.out, HK.out]; rfl)
      have hst := run_storeS (y := sh0) bP sh0_ok.l sh0_ok.l
      have hb2 := shC_set (y := sh0) bP sh0_ok.l sh0_ok.l
      go_wp2_with fail
      have hld := run_loadS hb2 sh0_ok.l
      refine bodyPost_ret (v := .tuple #[.agg (shC sh0), .int .i64 3]) (results_cellS Tryz.results170 _ _ _ _ _ rfl rfl hld) rfl ?_
      exact ⟨setS_below hb1 (by omega) _, .inr (.inl ⟨HOK.out, HFB.out, rfl⟩)⟩
    | true =>
      have t6 := take_any (k := 2) (a := 14) bB bT (HR.out.below ByR.stable hb1) hc (by omega) (by omega) (by omega)
      obtain ⟨u6, hu6⟩ : ∃ u, unN ((xs.drop 14).take 2) = u := ⟨_, rfl⟩
      have U6 := Lib.hid hu6
      rw [hu6] at t6
      clear hu6
      go_wp2_with fail
      refine t6.mono ?_
      clear t6
      rintro e w9 ⟨rfl, hw⟩
      replace bB := bB.set_other (p := ⟨B + 1, 0, none⟩) (by show B ≠ B + 1; omega) (.int .i64 ((14 + 2 : Nat) : Int))
      replace bT := bT.set 0 (.int .i64 ((14 + 2 : Nat) : Int))
      replace bP := bP.set_other (p := ⟨B + 1, 0, none⟩) (by show p ≠ B + 1; omega) (.int .i64 ((14 + 2 : Nat) : Int))
      replace bQ := bQ.set_other (p := ⟨B + 1, 0, none⟩) (by show q ≠ B + 1; omega) (.int .i64 ((14 + 2 : Nat) : Int))
      replace hb1 := hb1.setCell (p := ⟨B + 1, 0, none⟩) (by show w.heap.size ≤ B + 1; omega) (.int .i64 ((14 + 2 : Nat) : Int))
      rw [← hw] at bB bT bP bQ hb1
      clear hw
      by_cases h6 : u6 = 0
      · have HFB := Lib.hid (show frmB xs = true by unfold frmB; rw [U1.out, HK.out, U6.out]; simp [h6])
        have q6 : ((u6 : Int) != 0) = false := by rw [h6]; rfl
        clear h6
        obtain ⟨ba, oa, rfl, _, _⟩ := HR.out.addr (k := 0) (by omega)
        have hr9 := HR.out.below ByR.stable hb1
        have hrd := RdL.take (RdL.drop hr9 (k := 16) (by omega)) (k := 44) (by omega)
        rw [Nat.mul_one] at hrd
        obtain ⟨ys, hys⟩ : ∃ ys, (xs.drop 16).take 44 = ys := ⟨_, rfl⟩
        have HYS := Lib.hid hys
        rw [hys] at hrd
        have hyl : ys.length = 44 := hrd.1
        have hlb := run_loadB hrd
        have hsb := run_storeB bQ z44_len hyl
        replace bQ := shC_body bQ z44_len hyl
        replace bP := bP.keep (setCells_other _ q 5 p (ys.map fun b : Nat => Value.int .u8 (b : Int)) (by omega))
        have hb10 : Below w.heap.size w (w9.setCells q 5 (ys.map fun b : Nat => Value.int .u8 (b : Int))) := ((Keep.of_below (F := fun _ => False) hb1).trans (G := (· = q)) (setCells_keep _ _ _ _) (fun k hk hlt => by subst hk; omega)).below (Nat.le_refl _) (fun _ h => h.elim)
        obtain ⟨W10, hW10⟩ : ∃ W, w9.setCells q 5 (ys.map fun b : Nat => Value.int .u8 (b : Int)) = W := ⟨_, rfl⟩
        rw [hW10] at hsb bQ bP hb10
        have hlq := run_loadS bQ hyl
        have hst := run_storeS (y := ⟨u1, u2, u3, u4, u5, ys⟩) bP sh0_ok.l hyl
        have hb2 := shC_set (y := ⟨u1, u2, u3, u4, u5, ys⟩) bP sh0_ok.l hyl
        have hld := run_loadS hb2 hyl
        have haa : ∀ w, (Instr.arrayAt 191 (.slice (some ⟨ba, oa + 16, none⟩) 44 (c - 16))).run Tryz.prog w = .ok (.pointer (some ⟨ba, oa + 16, none⟩)) w := fun w => run_arrayAt w _ _ 44 _ _ _ bodyRow (Nat.le_refl _)
        have hdc : decS xs = ⟨u1, u2, u3, u4, u5, ys⟩ := by unfold decS; rw [U1.out, U2.out, U3.out, U4.out, U5.out, HYS.out]
        have HDC := Lib.hid hdc
        clear hr9 hrd hys hW10 hdc
        go_wp2_with fail
        refine bodyPost_ret (v := .tuple #[.agg (shC ⟨u1, u2, u3, u4, u5, ys⟩), .int .i64 0]) (results_cellS Tryz.results170 _ _ _ _ _ rfl rfl hld) rfl ?_
        refine ⟨setS_below hb10 (by omega) _, .inr (.inr ⟨HOK.out, HFB.out, ?_⟩)⟩
        rw [HDC.out]
      · have HFB := Lib.hid (show frmB xs = false by unfold frmB; rw [U1.out, HK.out, U6.out]; simp [h6])
        have q6 : ((u6 : Int) != 0) = true := by simp; omega
        clear h6
        have hst := run_storeS (y := sh0) bP sh0_ok.l sh0_ok.l
        have hb2 := shC_set (y := sh0) bP sh0_ok.l sh0_ok.l
        go_wp2_with fail
        have hld := run_loadS hb2 sh0_ok.l
        refine bodyPost_ret (v := .tuple #[.agg (shC sh0), .int .i64 3]) (results_cellS Tryz.results170 _ _ _ _ _ rfl rfl hld) rfl ?_
        exact ⟨setS_below hb1 (by omega) _, .inr (.inl ⟨HOK.out, HFB.out, rfl⟩)⟩
  · have q3 : ((n4 : Int) != (cs : Int)) = true := by simp; omega
    have HOK := Lib.hid (fun h => hok (hoi.1 h))
    have hst := run_storeS (y := sh0) b0 sh0_ok.l sh0_ok.l
    have hb2 := shC_set (y := sh0) b0 sh0_ok.l sh0_ok.l
    clear hok hoi hn4e hcse hl4 hcl
    go_wp2_with fail
    have hld := run_loadS hb2 sh0_ok.l
    refine bodyPost_ret (v := .tuple #[.agg (shC sh0), .int .i64 4]) (results_cellS Tryz.results170 _ _ _ _ _ rfl rfl hld) rfl ?_
    exact ⟨setS_below hb0 (by omega) _, .inl ⟨HOK.out, rfl⟩⟩
end
section
structure Ref where
  kind : Nat
  place : Nat
  gen : Nat
def refC (r : Ref) : Array Value := #[.int .u8 (r.kind : Int), .int .i64 (r.place : Int), .int .u64 (r.gen : Int)]
def isB (x : Shd) (r : Ref) (i : Nat) : Bool := decide (x.kind = r.kind) && decide (x.place = r.place) && decide (x.gen = r.gen) && decide (x.index = i)
theorem unN_le (k : Nat) : ∀ v, v < 2 ^ (8 * k) → unN (leN k v) = v := by
  induction k with
  | zero => intro v h; simp at h; subst h; rfl
  | succ k ih =>
    intro v h
    rw [leN_next, unN_snoc, leN_len]
    have e : unN (leN k v) = v % 2 ^ (8 * k) := by
      have h2 := ih (v % 2 ^ (8 * k)) (Nat.mod_lt _ (Nat.two_pow_pos _))
      rw [← h2]
      congr 1
      unfold leN
      refine List.map_congr_left fun i hi => ?_
      have hik := List.mem_range.1 hi
      have e1 : v % 2 ^ (8 * k) / 2 ^ (8 * i) % 2 ^ 8 = v / 2 ^ (8 * i) % 2 ^ 8 := by
        obtain ⟨d, hd⟩ : ∃ d, 8 * k = 8 * i + (8 + d) := ⟨8 * k - 8 * i - 8, by omega⟩
        rw [hd, Nat.pow_add, Nat.mod_mul_right_div_self, Nat.pow_add, Nat.mod_mul_right_mod]
      exact e1.symm
    have h3 : v / 2 ^ (8 * k) < 256 := by
      refine Nat.div_lt_of_lt_mul ?_
      rw [show 8 * (k + 1) = 8 * k + 8 by omega, Nat.pow_add] at h
      exact h
    rw [e, Nat.mod_eq_of_lt h3, Nat.mod_add_div]
theorem sncS_len {x : Shd} (h : x.body.length = 44) : (sncS x).length = 64 := by unfold sncS snc60; rw [List.length_append, List.length_append, sncH_len, h, leN_len]
theorem le4_leN (n : Nat) : le4 n = leN 4 n := by unfold le4 leN; simp [List.range, List.range.loop]
theorem sncS_sum {x : Shd} (h : x.body.length = 44) : okSum (sncS x) := by
  have hl : (snc60 x).length = 60 := by unfold snc60; rw [List.length_append, sncH_len, h]
  unfold okSum sncS
  rw [List.take_left' hl, List.drop_left' hl, le4_leN]
theorem mid_of {L A B C : List Nat} {a b : Nat} (h : L = A ++ (B ++ C)) (ha : A.length = a) (hb : B.length = b) : (L.drop a).take b = B := by
  subst h; subst ha; subst hb
  rw [List.drop_left, List.take_left]
/-- What is put is read. -/
theorem dec_snc {x : Shd} (hx : x.ok) : decS (sncS x) = x ∧ frmB (sncS x) = kindB x.kind := by
  have e : sncS x = leN 1 x.kind ++ (leN 1 x.index ++ (leN 2 x.place ++ (leN 8 x.gen ++ (leN 2 x.size ++ (leN 2 0 ++ (x.body ++ leN 4 (csum (snc60 x)))))))) := by
    unfold sncS snc60 sncH sncU hdF
    simp [List.append_assoc]
  have t1 : unN (((sncS x).drop 0).take 1) = x.kind := by rw [e, List.drop_zero, List.take_left' (leN_len _ _), unN_le 1 _ hx.k]
  have t2 : unN (((sncS x).drop 1).take 1) = x.index := by rw [mid_of (A := leN 1 x.kind) e (leN_len _ _) (leN_len _ _), unN_le 1 _ hx.i]
  have t3 : unN (((sncS x).drop 2).take 2) = x.place := by
    rw [mid_of (A := leN 1 x.kind ++ leN 1 x.index) (B := leN 2 x.place) (C := leN 8 x.gen ++ (leN 2 x.size ++ (leN 2 0 ++ (x.body ++ leN 4 (csum (snc60 x)))))) (by rw [e]; simp only [List.append_assoc]) (by simp [leN_len]) (leN_len _ _), unN_le 2 _ hx.p]
  have t4 : unN (((sncS x).drop 4).take 8) = x.gen := by
    rw [mid_of (A := leN 1 x.kind ++ leN 1 x.index ++ leN 2 x.place) (B := leN 8 x.gen) (C := leN 2 x.size ++ (leN 2 0 ++ (x.body ++ leN 4 (csum (snc60 x))))) (by rw [e]; simp only [List.append_assoc]) (by simp [leN_len]) (leN_len _ _), unN_le 8 _ hx.g]
  have t5 : unN (((sncS x).drop 12).take 2) = x.size := by
    rw [mid_of (A := leN 1 x.kind ++ leN 1 x.index ++ leN 2 x.place ++ leN 8 x.gen) (B := leN 2 x.size) (C := leN 2 0 ++ (x.body ++ leN 4 (csum (snc60 x)))) (by rw [e]; simp only [List.append_assoc]) (by simp [leN_len]) (leN_len _ _), unN_le 2 _ hx.s]
  have t6 : unN (((sncS x).drop 14).take 2) = 0 := by
    rw [mid_of (A := leN 1 x.kind ++ leN 1 x.index ++ leN 2 x.place ++ leN 8 x.gen ++ leN 2 x.size) (B := leN 2 0) (C := x.body ++ leN 4 (csum (snc60 x))) (by rw [e]; simp only [List.append_assoc]) (by simp [leN_len]) (leN_len _ _), unN_le 2 0 (by decide)]
  have t7 : ((sncS x).drop 16).take 44 = x.body :=
    mid_of (A := leN 1 x.kind ++ leN 1 x.index ++ leN 2 x.place ++ leN 8 x.gen ++ leN 2 x.size ++ leN 2 0) (B := x.body) (C := leN 4 (csum (snc60 x))) (by rw [e]; simp only [List.append_assoc]) (by simp [leN_len]) hx.l
  constructor
  · unfold decS
    rw [t1, t2, t3, t4, t5, t7]
  · unfold frmB
    rw [t1, t6]; simp
set_option maxRecDepth 100000 in
set_option maxHeartbeats 4000000 in
theorem shis_any {w : World} {x : Shd} {r : Ref} {i : Nat} (hx : x.ok) : Calls Tryz.prog 171 #[.agg (shC x), .agg (refC r), .int .i64 (i : Int)] w fun e w' => e = .returned (.bool (isB x r i)) ∧ Below w.heap.size w w' := by
  have c0 := shC_0 x
  have c1 := shC_1 x
  have c2 := shC_2 x
  have c3 := shC_3 x
  have l2 := hx.p
  have l1 := hx.i
  have q2 : (x.place : Int) < 65536 := by omega
  have q3 : (0 : Int) ≤ (x.place : Int) := Int.natCast_nonneg _
  have q4 : (x.index : Int) < 256 := by omega
  have q5 : (0 : Int) ≤ (x.index : Int) := Int.natCast_nonneg _
  clear hx
  unfold refC
  go_enter Tryz.func171, Tryz.ntmps171
  by_cases h1 : x.kind = r.kind
  · have e1 : ((x.kind : Int) == (r.kind : Int)) = true := by rw [h1]; simp
    by_cases h2 : x.place = r.place
    · have e2 : ((x.place : Int) == (r.place : Int)) = true := by rw [h2]; simp
      by_cases h3 : x.gen = r.gen
      · have e3 : ((x.gen : Int) == (r.gen : Int)) = true := by rw [h3]; simp
        by_cases h4 : x.index = i
        · have e4 : ((x.index : Int) == (i : Int)) = true := by rw [h4]; simp
          have HR := Lib.hid (show isB x r i = true by unfold isB; simp [h1, h2, h3, h4])
          clear h1 h2 h3 h4
          go_wp2_with fail
          go_ret
          exact ⟨by rw [HR.out]; rfl, ((Below.refl _ _).alloc (Nat.le_refl _) _).alloc (by rw [World.size_alloc]; omega) _⟩
        · have e4 : ((x.index : Int) == (i : Int)) = false := by simp; omega
          have HR := Lib.hid (show isB x r i = false by unfold isB; simp [h4])
          clear h1 h2 h3 h4
          go_wp2_with fail
          go_ret
          exact ⟨by rw [HR.out]; rfl, ((Below.refl _ _).alloc (Nat.le_refl _) _).alloc (by rw [World.size_alloc]; omega) _⟩
      · have e3 : ((x.gen : Int) == (r.gen : Int)) = false := by simp; omega
        have HR := Lib.hid (show isB x r i = false by unfold isB; simp [h3])
        clear h1 h2 h3
        go_wp2_with fail
        go_ret
        exact ⟨by rw [HR.out]; rfl, ((Below.refl _ _).alloc (Nat.le_refl _) _).alloc (by rw [World.size_alloc]; omega) _⟩
    · have e2 : ((x.place : Int) == (r.place : Int)) = false := by simp; omega
      have HR := Lib.hid (show isB x r i = false by unfold isB; simp [h2])
      clear h1 h2
      go_wp2_with fail
      go_ret
      exact ⟨by rw [HR.out]; rfl, ((Below.refl _ _).alloc (Nat.le_refl _) _).alloc (by rw [World.size_alloc]; omega) _⟩
  · have e1 : ((x.kind : Int) == (r.kind : Int)) = false := by simp; omega
    have HR := Lib.hid (show isB x r i = false by unfold isB; simp [h1])
    clear h1
    go_wp2_with fail
    go_ret
    exact ⟨by rw [HR.out]; rfl, ((Below.refl _ _).alloc (Nat.le_refl _) _).alloc (by rw [World.size_alloc]; omega) _⟩
end
section
structure CodF (C : Nat → Prop) (w : World) (cb b k m : Nat) : Prop where
  box : ∃ A c, BoxAt w cb #[.int .i64 (k : Int), .int .i64 (m : Int), .pointer (some ⟨b, 0, none⟩), .int .i64 (m : Int), .int .i64 (k : Int), .slice A (m * k) c] ∧ m * k ≤ c ∧
    RdL ByR 1 C w A (m * k) (flatF (cauF (risF k (k + m)) (risF 0 k)) m k)
  cc : C cb
  cf : C b
  fld : Fld w b
  k1 : 1 ≤ k
  m1 : 1 ≤ m
  km : k + m ≤ 255
theorem CodF.at {C : Nat → Prop} {w : World} {cb b k m : Nat} (h : CodF C w cb b k m) : CodAt w cb b k m := by
  obtain ⟨A, c, h1, h2, h3⟩ := h.box
  exact ⟨⟨A, c, h1, h2, h3.weaken ByR.stable fun _ _ => trivial⟩, h.fld, h.k1, h.m1, h.km⟩
theorem CodF.keep {C G : Nat → Prop} {w w' : World} {cb b k m : Nat} (h : CodF C w cb b k m) (hk : Keep G w w') (hd : ∀ j, C j → ¬ G j) : CodF C w' cb b k m := by
  obtain ⟨A, c, h1, h2, h3⟩ := h.box
  exact ⟨⟨A, c, h1.keeps hk (hd cb h.cc), h2, h3.stable ByR.stable fun j hj hl => ⟨hj, hk.block j hl (hd j hj)⟩⟩, h.cc, h.cf, h.fld.keep (hk.block b h.fld.lt (hd b h.cf)), h.k1, h.m1, h.km⟩
theorem CodF.below {C : Nat → Prop} {w w' : World} {cb b k m : Nat} (h : CodF C w cb b k m) (hk : Below w.heap.size w w') : CodF C w' cb b k m := h.keep (Keep.of_below (F := fun _ => False) hk) (fun _ _ h => h)
set_option maxRecDepth 100000 in
set_option maxHeartbeats 8000000 in
theorem new_anyS {w : World} {b k m base : Nat} (F : FldNew w b) (hbase : base ≤ b) (h1 : 1 ≤ k) (h2 : 1 ≤ m) (hkm : k + m ≤ 255) :
    Calls Tryz.prog 80 #[.pointer (some ⟨b, 0, none⟩), .int .i64 (k : Int), .int .i64 (m : Int)] w fun e w' => ∃ cb, e = .returned (.pointer (some ⟨cb, 0, none⟩)) ∧ CodF (fun j => base ≤ j) w' cb b k m ∧ Keep (· = b) w w' := by
  have q1 : ¬ (k : Int) < 1 := by omega
  have q2 : ¬ (m : Int) < 1 := by omega
  have q3 : ¬ (k : Int) > 255 := by omega
  have q4 : ¬ (m : Int) > 255 - (k : Int) := by omega
  have q5 : IntKind.i64.wrap (255 - (k : Int)) = 255 - (k : Int) := by rw [IntKind.wrap_i64]; omega
  have q6 : IntKind.i64.wrap ((k : Int) + (m : Int)) = ((k + m : Nat) : Int) := by rw [IntKind.wrap_i64]; omega
  have hbl : b < w.heap.size := by obtain ⟨cs, hb, _⟩ := F.ex; exact hb.lt
  have HF := Lib.hid F
  clear F
  have hri1 := fun w' => rising_any (w := w') (a := k) (b := k + m) (by omega) hkm
  have hri2 := fun w' => rising_any (w := w') (a := 0) (b := k) (by omega) (by omega)
  rw [show k + m - k = m by omega] at hri1
  rw [Nat.sub_zero] at hri2
  go_enter Tryz.func80, Tryz.ntmps80
  go_wp2_with fail
  refine (hri1 _).mono ?_
  rintro e w1 ⟨A1, c1, rfl, hc1, r1, t1⟩
  go_wp2_with fail
  refine (hri2 _).mono ?_
  rintro e w2 ⟨A2, c2, rfl, hc2, r2, t2⟩
  go_wp2_with fail
  have t12 := t1.trans (t2.mono t1.size)
  have hF2 : FldNew w2 b := by
    obtain ⟨cs, h5, h6⟩ := HF.out.ex
    exact ⟨cs, h5.below t12, h6⟩
  have r1' := r1.below ByR.stable t2
  have hsz := t1.size
  refine (cauchy_new (S := fun j => w.heap.size ≤ j) hF2 r1' (r2.weaken ByR.stable (fun j hj => Nat.le_trans hsz hj)) (by omega) h2 (by omega) h1 (by omega) hc1 hc2 (risF_nodup k m)).mono ?_
  rintro e w3 ⟨A, c, rfl, hc, hr, hF3, hk3⟩
  have HR3 := Lib.hid hr
  have HF3 := Lib.hid hF3
  have HK3 := Lib.hid ((Keep.of_below (F := (· = b)) t12).trans hk3 (fun _ h _ => h))
  have hs13 : w.heap.size ≤ w3.heap.size := HK3.out.size
  have hs12 : w.heap.size ≤ w2.heap.size := Nat.le_trans hsz t2.size
  clear hri1 hri2 r1 t1 r2 t2 t12 hF2 r1' hr hF3 hk3
  go_wp2_with fail
  go_ret
  have hal : Below w3.heap.size w3 ((w3.alloc (.cells #[.int .i64 (m : Int), .int .i64 (k : Int), .slice A (m * k) c] 181)).alloc (.cells #[.int .i64 (k : Int), .int .i64 (m : Int), .pointer (some ⟨b, 0, none⟩), .int .i64 (m : Int), .int .i64 (k : Int), .slice A (m * k) c] 183)) := (by repeat (first | (with_reducible exact Below.refl _ _) | (with_reducible assumption) | (with_reducible refine Below.drew ?_) | (with_reducible refine Below.setCell ?_ ?_ _) | (with_reducible refine Below.alloc ?_ ?_ _) | (with_reducible refine Below.later ?_ ?_ _) | (first | (with_reducible exact Nat.le_refl _) | omega | (simp only [World.size_alloc, World.size_setCell, World.size_drew] <;> omega))))
  have hbx := BoxAt.new (w3.alloc (.cells #[.int .i64 (m : Int), .int .i64 (k : Int), .slice A (m * k) c] 181)) #[.int .i64 (k : Int), .int .i64 (m : Int), .pointer (some ⟨b, 0, none⟩), .int .i64 (m : Int), .int .i64 (k : Int), .slice A (m * k) c] 183
  rw [World.size_alloc] at hbx
  exact ⟨w3.heap.size + 1, rfl, ⟨⟨A, c, hbx, hc, (HR3.out.below ByR.stable hal).weaken ByR.stable fun j hj => by have h9 : w2.heap.size ≤ j := hj; show base ≤ j; omega⟩, (by show base ≤ w3.heap.size + 1; omega), hbase, HF3.out.below hal, h1, h2, hkm⟩, (HK3.out.alloc _).alloc _⟩
def homeN (n place i : Nat) : Nat := (place % n + i % n) % n
set_option maxRecDepth 100000 in
set_option maxHeartbeats 4000000 in
theorem home_any {w : World} {n place i : Nat} (hn : 1 ≤ n) (hn2 : n ≤ 1000) : Calls Tryz.prog 65 #[.int .i64 (n : Int), .int .i64 (place : Int), .int .i64 (i : Int)] w fun e w' => e = .returned (.int .i64 (homeN n place i : Int)) ∧ Below w.heap.size w w' := by
  have q0 : ¬ (n : Int) < 1 := by omega
  have q1 : ¬ (place : Int) < 0 := by omega
  have q2 : ¬ (i : Int) < 0 := by omega
  have q3 : ¬ n = 0 := by omega
  have q31 : ((n : Int) == 0) = false := by simp; omega
  have t1 : (place : Int).tmod (n : Int) = ((place % n : Nat) : Int) := by rw [Int.tmod_eq_emod_of_nonneg (Int.natCast_nonneg _)]; push_cast; rfl
  have t2 : (i : Int).tmod (n : Int) = ((i % n : Nat) : Int) := by rw [Int.tmod_eq_emod_of_nonneg (Int.natCast_nonneg _)]; push_cast; rfl
  have l1 : place % n < n := Nat.mod_lt _ (by omega)
  have l2 : i % n < n := Nat.mod_lt _ (by omega)
  obtain ⟨u, hu⟩ : ∃ u, place % n = u := ⟨_, rfl⟩
  obtain ⟨v, hv⟩ : ∃ v, i % n = v := ⟨_, rfl⟩
  rw [hu] at t1 l1
  rw [hv] at t2 l2
  have t3 : ((u : Int) + (v : Int)).tmod (n : Int) = (((u + v) % n : Nat) : Int) := by rw [show (u : Int) + (v : Int) = ((u + v : Nat) : Int) by push_cast; rfl, Int.tmod_eq_emod_of_nonneg (Int.natCast_nonneg _)]; push_cast; rfl
  have q4 : IntKind.i64.wrap ((u : Int) + (v : Int)) = (u : Int) + (v : Int) := by rw [IntKind.wrap_i64]; omega
  have HH := Lib.hid (show homeN n place i = (u + v) % n by unfold homeN; rw [hu, hv])
  obtain ⟨x, hx⟩ : ∃ x, (u + v) % n = x := ⟨_, rfl⟩
  rw [hx] at t3 HH
  clear hu hv hx
  go_enter Tryz.func65, Tryz.ntmps65
  go_wp2_with fail
  refine wp_region_held_drew (S := fun _ => True) (by kernel_rfl) (trivial) (fun hHeld => ?_)
  refine tkH 0 rfl ?_
  refine tkH 1 rfl ?_
  refine tkH 2 rfl ?_
  refine tkH 3 rfl ?_
  refine tkH 4 rfl ?_
  refine tkH 5 rfl ?_
  refine tkH 6 rfl ?_
  refine tkH 7 rfl ?_
  refine tkH 8 rfl ?_
  refine tkH 9 rfl ?_
  refine wpAnyH_done (by kernel_rfl) ?_ _
  go_wp2_with fail
  go_ret
  exact ⟨by rw [HH.out]; rfl, (Below.refl _ _).drew⟩
def setC (a cb : Nat) (r : Ref) : Array Value := #[.pointer (some ⟨a, 0, none⟩), .pointer (some ⟨cb, 0, none⟩), .int .u8 (r.kind : Int), .int .i64 (r.place : Int), .int .u64 (r.gen : Int)]
section
variable {U : Nat → Prop} {w : World} {a n s cb : Nat} {v : Value} {Fs : Nat → Nat → Prop} {ps : List Nat} {sts : List DSt} {r : Ref}
set_option maxRecDepth 100000 in
set_option maxHeartbeats 4000000 in
theorem shome_any (hS : BoxAt w s (setC a cb r)) (h : Hid (ArrB U w a v Fs ps n sts)) (h1 : 1 ≤ sts.length) (h2 : sts.length ≤ 1000) (i : Nat) :
    Calls Tryz.prog 169 #[.pointer (some ⟨s, 0, none⟩), .int .i64 (i : Int)] w fun e w' => e = .returned (.int .i64 (homeN sts.length r.place i : Int)) ∧ Below w.heap.size w w' := by
  have hSd : BoxAt w.drew s (setC a cb r) := hS.keep rfl
  have s0 : w.drew.cell? ⟨s, 0, none⟩ = some (.pointer (some ⟨a, 0, none⟩)) ∧ w.drew.cell? ⟨s, 3, none⟩ = some (.int .i64 (r.place : Int)) := ⟨hSd.cell 0, hSd.cell 3⟩
  have hd : Below w.heap.size w w.drew := (Below.refl _ _).drew
  have hN := an_any (Lib.hid (h.out.below hd)) (by omega)
  have hH := fun w => home_any (w := w) (n := sts.length) (place := r.place) (i := i) h1 h2
  obtain ⟨l, hl⟩ : ∃ l, sts.length = l := ⟨_, rfl⟩
  rw [hl] at hN hH ⊢
  clear hl h hS
  go_enter Tryz.func169, Tryz.ntmps169
  go_wp2_with fail
  refine wp_region_held_drew (S := fun w' => w'.cell? ⟨s, 0, none⟩ = some (.pointer (some ⟨a, 0, none⟩)) ∧ w'.cell? ⟨s, 3, none⟩ = some (.int .i64 (r.place : Int))) (by kernel_rfl) (by first | exact s0 | exact s5 | exact s6) (fun hHeld => ?_)
  refine tkH 0 rfl ?_
  refine tkH 1 rfl ?_
  refine tkH 2 rfl ?_
  refine tkH 3 rfl ?_
  refine tkH 5 rfl ?_
  refine tkH 6 rfl ?_
  refine tkH 7 rfl ?_
  refine tkH 8 rfl ?_
  refine tkH 9 rfl ?_
  refine tkH 10 rfl ?_
  refine rdH 4 rfl fun K hK => ?_
  try simp (maxSteps := 2000000) only [zz1, zz2, zz3]
  go_simp
  go_at_call 83
  refine hN.mono ?_
  clear hN
  rintro e w5 ⟨rfl, hb5⟩
  have hS5 := hSd.below hb5
  have s5 : w5.cell? ⟨s, 0, none⟩ = some (.pointer (some ⟨a, 0, none⟩)) ∧ w5.cell? ⟨s, 3, none⟩ = some (.int .i64 (r.place : Int)) := ⟨hS5.cell 0, hS5.cell 3⟩
  try (go_wp2_with fail)
  refine hK.out _ _ (by first | exact s0 | exact s5 | exact s6) (fun hHeld => ?_)
  clear hK K
  try simp (maxSteps := 2000000) only [zz1, zz2, zz3, Act.put, zz4, zz5, zz6]
  refine rdH 11 rfl fun K hK => ?_
  try simp (maxSteps := 2000000) only [zz1, zz2, zz3]
  go_simp
  go_at_call 65
  refine (hH _).mono ?_
  clear hH
  rintro e w6 ⟨rfl, hb6⟩
  have hS6 := hS5.below hb6
  have s6 : w6.cell? ⟨s, 0, none⟩ = some (.pointer (some ⟨a, 0, none⟩)) ∧ w6.cell? ⟨s, 3, none⟩ = some (.int .i64 (r.place : Int)) := ⟨hS6.cell 0, hS6.cell 3⟩
  have hb56 : Below w.heap.size w w6 := hd.trans (hb5.trans (hb6.mono hb5.size))
  try (go_wp2_with fail)
  refine hK.out _ _ (by first | exact s0 | exact s5 | exact s6) (fun hHeld => ?_)
  clear hK K
  try simp (maxSteps := 2000000) only [zz1, zz2, zz3, Act.put, zz4, zz5, zz6]
  refine tkH 12 rfl ?_
  refine wpAnyH_done (by kernel_rfl) ?_ _
  go_wp2_with fail
  go_ret
  exact ⟨rfl, hb56⟩
end
end
section
theorem by_of_u8 {S : Nat → Prop} {w : World} {A : Option Addr} {n : Nat} {xs : List Int} (h : RdL U8R 1 S w A n xs) (hb : ∀ x ∈ xs, 0 ≤ x ∧ x < 256) : RdL ByR 1 S w A n (xs.map Int.toNat) := by
  refine ⟨by rw [List.length_map]; exact h.1, fun hn => ?_⟩
  obtain ⟨b, o, hA, hS, hlt, hc⟩ := h.2 hn
  refine ⟨b, o, hA, hS, hlt, fun i x hx => ?_⟩
  rw [List.getElem?_map] at hx
  cases hl : xs[i]? with
  | none => rw [hl] at hx; cases hx
  | some y =>
    rw [hl] at hx
    injection hx with hx
    obtain ⟨cs, h1, h2, h3⟩ := hc i y hl
    have hy := hb y (List.mem_of_getElem? hl)
    refine ⟨cs, h1, ⟨by omega, ?_⟩, h3⟩
    have h4 : cs = [.int .u8 y] := h2
    rw [h4, ← hx, Int.toNat_of_nonneg hy.1]
/-- A drive's sectors are bytes. -/
def StB (st : DSt) (z : Nat) : Prop := ∀ x ∈ st.seen z, 0 ≤ x ∧ x < 256
def secN (st : DSt) (z : Nat) : List Nat := (st.seen z).map Int.toNat
section
variable {U : Nat → Prop} {w : World} {a n s cb : Nat} {v : Value} {Fs : Nat → Nat → Prop} {ps : List Nat} {sts : List DSt} {r : Ref}
set_option maxRecDepth 100000 in
theorem aread2 (h : Hid (ArrB U w a v Fs ps n sts)) (d : Nat) {st : DSt} (hst : sts[d]? = some st) (z : Nat) (hz : z < n) (hb : StB st z) :
    Calls Tryz.prog 168 #[.pointer (some ⟨a, 0, none⟩), .int .i64 (d : Int), .int .i64 (z : Int)] w fun e w' => Below w.heap.size w w' ∧
      ((st.dead = true ∧ e = .returned (.tuple #[.slice none 0 0, .int .i64 90])) ∨
       (st.dead = false ∧ ∃ A, e = .returned (.tuple #[.slice A 64 64, .int .i64 0]) ∧ RdL ByR 1 (w.heap.size ≤ ·) w' A 64 (secN st z))) := by
  have hd : d < sts.length := (List.getElem?_eq_some_iff.1 hst).1
  have hp : ps[d]? = some (ps[d]'(by rw [← h.out.len]; exact hd)) := List.getElem?_eq_getElem _
  have hre := areach_in h d hd hp
  have HB := Lib.hid hb
  go_enter Tryz.func168, Tryz.ntmps168
  go_wp2_with fail
  refine hre.mono ?_
  rintro e w1 ⟨rfl, t1⟩
  have D1 := Lib.hid ((h.out.drv d _ _ hp hst).below t1)
  have T1 := Lib.hid t1
  have s1 := t1.size
  clear t1 hre hb
  cases hdd : st.dead with
  | false =>
    have hrd := read_good D1 hdd z hz
    have HDD := Lib.hid hdd
    clear hdd
    go_wp2_with fail
    refine hrd.mono ?_
    rintro e w2 ⟨A, rfl, r2, t2⟩
    have R2 := Lib.hid (by_of_u8 r2 HB.out)
    clear r2 hrd
    go_wp2_with fail
    go_ret2
    exact ⟨T1.out.trans (t2.mono s1),   .inr ⟨HDD.out, A, rfl, R2.out.weaken ByR.stable (fun k hk => Nat.le_trans s1 hk)⟩⟩
  | true =>
    have hrE : readyE st.dead n (z : Int) = 90 := by unfold readyE; rw [hdd]; rfl
    have hrd := read_bad D1 (z : Int) (by rw [hrE]; decide)
    rw [hrE] at hrd
    have HDD := Lib.hid hdd
    clear hdd hrE
    go_wp2_with fail
    refine hrd.mono ?_
    rintro e w2 ⟨rfl, t2⟩
    clear hrd
    go_wp2_with fail
    go_ret2
    exact ⟨T1.out.trans (t2.mono s1),   .inl ⟨HDD.out, rfl⟩⟩
end
end
section
theorem decS_ok {xs : List Nat} (hl : xs.length = 64) (hb : Byt xs) : (decS xs).ok := by
  have h : ∀ a k, a + k ≤ 64 → unN ((xs.drop a).take k) < 2 ^ (8 * k) := fun a k hak => by
    have h := unN_lt (l := (xs.drop a).take k) fun x hx => hb x (List.mem_of_mem_drop (List.mem_of_mem_take hx))
    rwa [show ((xs.drop a).take k).length = k by rw [List.length_take, List.length_drop, hl]; omega] at h
  exact ⟨h 0 1 (by omega), h 1 1 (by omega), h 2 2 (by omega), h 4 8 (by omega), h 12 2 (by omega), by show ((xs.drop 16).take 44).length = 44; rw [List.length_take, List.length_drop, hl]; omega, fun x hx => hb x (List.mem_of_mem_drop (List.mem_of_mem_take hx))⟩
def rdX (xs : List Nat) (k : Nat) (r : Ref) (i : Nat) : Option Shd := if okSum xs ∧ frmB xs = true ∧ isB (decS xs) r i = true ∧ (decS xs).size ≤ k * 44 then some (decS xs) else none
def rdS (st : DSt) (k : Nat) (r : Ref) (i : Nat) : Option Shd := if st.dead = true then none else rdX (secN st r.place) k r i
attribute [local go_sem ↓] shut_loadS shut_zeroS shut_buildS shut_storeS
attribute [local go_sem] run_zeroS run_build0
section
variable {U C : Nat → Prop} {w : World} {a n s cb b k m : Nat} {v : Value} {Fs : Nat → Nat → Prop} {ps : List Nat} {sts : List DSt} {r : Ref}
set_option maxRecDepth 100000 in
set_option maxHeartbeats 4000000 in
theorem room_any (h : CodAt w cb b k m) : Calls Tryz.prog 93 #[.pointer (some ⟨cb, 0, none⟩)] w fun e w' => e = .returned (.int .i64 ((k * 44 : Nat) : Int)) ∧ w' = w := by
  have hk := ck_any h
  have q0 : (k : Int) ≤ 255 := by have := h.km; omega
  clear h
  go_enter Tryz.func93, Tryz.ntmps93
  go_wp2_with fail
  refine hk.mono ?_
  rintro e w5 ⟨rfl, hw5⟩
  rw [hw5]
  clear hw5 hk
  go_wp2_with fail
  go_ret
  exact ⟨by push_cast; rfl, rfl⟩
def ReadE (w : World) (R : Option Shd) (e : Ending) (w' : World) : Prop := Below w.heap.size w w' ∧ ∃ y B, e = .returned (.tuple #[.agg (shC y), .bool B]) ∧ y.ok ∧ ((B = true ∧ R = some y) ∨ (B = false ∧ R = none))
set_option maxRecDepth 100000 in
set_option maxHeartbeats 8000000 in
theorem sread_any (hS : BoxAt w s (setC a cb r)) (h : Hid (ArrB U w a v Fs ps n sts)) (HC : CodAt w cb b k m) (hlen : sts.length = k + m) (hz : r.place < n) (i : Nat) {st : DSt} (hst : sts[homeN sts.length r.place i]? = some st) (hb : StB st r.place) (h64 : (secN st r.place).length = 64) :
    Calls Tryz.prog 139 #[.pointer (some ⟨s, 0, none⟩), .int .i64 (i : Int)] w fun e w' => ReadE w (rdS st k r i) e w' := by
  have hkm := HC.km
  have hk1 := HC.k1
  go_enter Tryz.func139, Tryz.ntmps139
  go_wp2_with fail
  have b0 := BoxAt.new w (shC sh0) 193
  have hb0 : Below w.heap.size w (w.alloc (.cells (shC sh0) 193)) := (Below.refl _ _).alloc (Nat.le_refl _) _
  obtain ⟨wA, hwA⟩ : ∃ wA, w.alloc (.cells (shC sh0) 193) = wA := ⟨_, rfl⟩
  rw [hwA] at b0 hb0 ⊢
  clear hwA
  obtain ⟨p, hp⟩ : ∃ p, w.heap.size = p := ⟨_, rfl⟩
  rw [hp] at b0 ⊢
  have hd : Below w.heap.size w wA.drew := hb0.drew
  have hSd : BoxAt wA.drew s (setC a cb r) := hS.below hd
  have s0 : wA.drew.cell? ⟨s, 0, none⟩ = some (.pointer (some ⟨a, 0, none⟩)) ∧ wA.drew.cell? ⟨s, 3, none⟩ = some (.int .i64 (r.place : Int)) := ⟨hSd.cell 0, hSd.cell 3⟩
  have hH := shome_any hSd (Lib.hid (h.out.below hd)) (by omega) (by omega) i
  have hrd := fun w' (hb' : Below w.heap.size w w') => aread2 (w := w') (Lib.hid (h.out.below hb')) _ hst r.place hz hb
  have bPd : BoxAt wA.drew p (shC sh0) := b0.keep rfl
  have HCH := Lib.hid HC
  obtain ⟨d, hde⟩ : ∃ d, homeN sts.length r.place i = d := ⟨_, rfl⟩
  rw [hde] at hH hrd
  have HLEN := Lib.hid hlen
  clear h HC hst b0 hde hlen
  refine wp_region_held_drew (S := fun w' => w'.cell? ⟨s, 0, none⟩ = some (.pointer (some ⟨a, 0, none⟩)) ∧ w'.cell? ⟨s, 3, none⟩ = some (.int .i64 (r.place : Int))) (by kernel_rfl) (by first | exact s0 | exact s5 | exact s6) (fun hHeld => ?_)
  refine tkH 0 rfl ?_
  refine tkH 1 rfl ?_
  refine tkH 2 rfl ?_
  refine tkH 3 rfl ?_
  refine tkH 4 rfl ?_
  refine tkH 5 rfl ?_
  refine tkH 7 rfl ?_
  refine tkH 8 rfl ?_
  refine tkH 9 rfl ?_
  refine tkH 10 rfl ?_
  refine tkH 11 rfl ?_
  refine rdH 6 rfl fun K hK => ?_
  try simp (maxSteps := 2000000) only [zz1, zz2, zz3]
  go_simp
  go_at_call 169
  refine hH.mono ?_
  clear hH
  rintro e w5 ⟨rfl, hb5⟩
  have hS5 := hSd.below hb5
  have bP5 := bPd.below hb5
  have s5 : w5.cell? ⟨s, 0, none⟩ = some (.pointer (some ⟨a, 0, none⟩)) ∧ w5.cell? ⟨s, 3, none⟩ = some (.int .i64 (r.place : Int)) := ⟨hS5.cell 0, hS5.cell 3⟩
  have hw5 : Below w.heap.size w w5 := hd.trans (hb5.mono hd.size)
  try (go_wp2_with fail)
  refine hK.out _ _ (by first | exact s0 | exact s5 | exact s6) (fun hHeld => ?_)
  clear hK K
  try simp (maxSteps := 2000000) only [zz1, zz2, zz3, Act.put, zz4, zz5, zz6]
  refine rdH 12 rfl fun K hK => ?_
  try simp (maxSteps := 2000000) only [zz1, zz2, zz3]
  go_simp
  go_at_call 168
  refine (hrd _ hw5).mono ?_
  clear hrd
  rintro e w6 ⟨hb6, hres⟩
  have hS6 := hS5.below hb6
  have bP6 := bP5.below hb6
  have s6 : w6.cell? ⟨s, 0, none⟩ = some (.pointer (some ⟨a, 0, none⟩)) ∧ w6.cell? ⟨s, 3, none⟩ = some (.int .i64 (r.place : Int)) := ⟨hS6.cell 0, hS6.cell 3⟩
  have hw6 : Below w.heap.size w w6 := hw5.trans (hb6.mono hw5.size)
  obtain ⟨AR, mR, eR, hres2⟩ : ∃ A m E, e = .returned (.tuple #[.slice A m m, .int .i64 E]) ∧ ((st.dead = true ∧ E = 90 ∧ m = 0) ∨ (st.dead = false ∧ E = 0 ∧ m = 64 ∧ RdL ByR 1 (w5.heap.size ≤ ·) w6 A 64 (secN st r.place))) := by
    rcases hres with ⟨h1, rfl⟩ | ⟨h1, A, rfl, h2⟩
    · exact ⟨none, 0, 90, rfl, .inl ⟨h1, rfl, rfl⟩⟩
    · exact ⟨A, 64, 0, rfl, .inr ⟨h1, rfl, rfl, h2⟩⟩
  obtain ⟨rfl, hres3⟩ := hres2
  have HRES := Lib.hid hres3
  clear hres hres3
  try (go_wp2_with fail)
  refine hK.out _ _ (by first | exact s0 | exact s5 | exact s6) (fun hHeld => ?_)
  clear hK K
  try simp (maxSteps := 2000000) only [zz1, zz2, zz3, Act.put, zz4, zz5, zz6]
  refine tkH 13 rfl ?_
  refine tkH 14 rfl ?_
  refine tkH 15 rfl ?_
  refine tkH 16 rfl ?_
  refine tkH 17 rfl ?_
  refine wpAnyH_done (by kernel_rfl) ?_ _
  have HS6 := Lib.hid hS6
  have HW6 := Lib.hid hw6
  have lP6 := bP6.lt
  have hpw : w.heap.size ≤ p := by omega
  clear s0 s5 s6 hSd hS5 bPd bP5 hb5 hw5 hHeld hS6 hw6 hd hb0
  rcases HRES.out with ⟨hdd, rfl, rfl⟩ | ⟨hdd, rfl, rfl, hr6⟩
  · have HRD := Lib.hid (show rdS st k r i = none by unfold rdS; rw [if_pos hdd])
    have hst := run_storeS (y := sh0) bP6 sh0_ok.l sh0_ok.l
    have hb2 := shC_set (y := sh0) bP6 sh0_ok.l sh0_ok.l
    clear HRES hdd
    go_wp2_with fail
    have hld := run_loadS hb2 sh0_ok.l
    refine bodyPost_ret (v := .tuple #[.agg (shC sh0), .bool false]) (results_cellS Tryz.results139 _ _ _ _ _ rfl rfl hld) rfl ?_
    exact ⟨setS_below HW6.out hpw _, sh0, false, rfl, sh0_ok, .inr ⟨rfl, HRD.out⟩⟩
  · have hbx := by_byt hr6
    have hgt := shget_any hr6 (Nat.le_refl _)
    have HBX := Lib.hid hbx
    have HDD := Lib.hid hdd
    clear HRES hdd hr6 hbx
    go_wp2_with fail
    refine hgt.mono ?_
    clear hgt
    rintro e w7 ⟨hb7, hres⟩
    obtain ⟨y, E, he, hy, hcase⟩ : ∃ y E, e = .returned (.tuple #[.agg (shC y), .int .i64 E]) ∧ y.ok ∧ ((E ≠ 0 ∧ rdX (secN st r.place) k r i = none) ∨ (E = 0 ∧ rdX (secN st r.place) k r i = if isB y r i = true ∧ y.size ≤ k * 44 then some y else none)) := by
      rcases hres with ⟨h1, rfl⟩ | ⟨h1, h2, rfl⟩ | ⟨h1, h2, rfl⟩
      · exact ⟨sh0, 4, rfl, sh0_ok, .inl ⟨by decide, by unfold rdX; rw [if_neg (fun h => h1 h.1)]⟩⟩
      · exact ⟨sh0, 3, rfl, sh0_ok, .inl ⟨by decide, by unfold rdX; rw [if_neg (fun h => by rw [h2] at h; exact absurd h.2.1 (by decide))]⟩⟩
      · refine ⟨decS (secN st r.place), 0, rfl, decS_ok h64 HBX.out, .inr ⟨rfl, ?_⟩⟩
        unfold rdX
        by_cases h3 : isB (decS (secN st r.place)) r i = true ∧ (decS (secN st r.place)).size ≤ k * 44
        · rw [if_pos ⟨h1, h2, h3⟩, if_pos h3]
        · rw [if_neg (fun h => h3 h.2.2), if_neg h3]
    subst he
    have HRX := Lib.hid (show rdS st k r i = rdX (secN st r.place) k r i by unfold rdS; rw [if_neg (by rw [HDD.out]; simp)])
    have HY := Lib.hid hy
    have hyl := hy.l
    have HCASE := Lib.hid hcase
    have bP7 := bP6.below hb7
    have bS7 := HS6.out.below hb7
    have hw7 : Below w.heap.size w w7 := HW6.out.trans (hb7.mono HW6.out.size)
    have hst := run_storeS (y := y) (BoxAt.new w7 (shC sh0) 193) sh0_ok.l hyl
    have bQ := shC_set (y := y) (BoxAt.new w7 (shC sh0) 193) sh0_ok.l hyl
    have lP := bP7.lt
    have lS := bS7.lt
    have bP8 := (bP7.alloc (.cells (shC sh0) 193)).keep (setCells_other _ w7.heap.size 0 p (shV y) (by omega))
    have bS8 := (bS7.alloc (.cells (shC sh0) 193)).keep (setCells_other _ w7.heap.size 0 s (shV y) (by omega))
    have hw8 := setS_below (hw7.alloc hw7.size (.cells (shC sh0) 193)) (p := w7.heap.size) hw7.size (shV y)
    obtain ⟨W8, hW8⟩ : ∃ W, (w7.alloc (.cells (shC sh0) 193)).setCells w7.heap.size 0 (shV y) = W := ⟨_, rfl⟩
    rw [hW8] at hst bQ bP8 bS8 hw8
    obtain ⟨q, hq⟩ : ∃ q, w7.heap.size = q := ⟨_, rfl⟩
    rw [hq] at hst bQ
    have hpq : p ≠ q := by omega
    have hsq : s ≠ q := by omega
    clear hres hcase hy hb7 bP6 bP7 bS7 hw7
    go_wp2_with fail
    have f1 : ∀ w', BoxAt w' q (shC y) → (shutLoad 193 ⟨q, 0, none⟩).run Tryz.prog w' = .ok (.agg (shC y)) w' := fun w' h => run_loadS h hyl
    have f2 : ∀ w', BoxAt w' q (shC y) → w'.cell? ⟨q, 4, none⟩ = some (.int .u16 (y.size : Int)) := fun w' h => (h.cell 4).trans (shC_4 y)
    have g1 : ∀ w', BoxAt w' s (setC a cb r) → w'.cell? ⟨s, 1, none⟩ = some (.pointer (some ⟨cb, 0, none⟩)) := fun w' h => h.cell 1
    have g2 : ∀ w', BoxAt w' s (setC a cb r) → w'.cell? ⟨s, 2, none⟩ = some (.int .u8 (r.kind : Int)) := fun w' h => h.cell 2
    have g3 : ∀ w', BoxAt w' s (setC a cb r) → w'.cell? ⟨s, 3, none⟩ = some (.int .i64 (r.place : Int)) := fun w' h => h.cell 3
    have g4 : ∀ w', BoxAt w' s (setC a cb r) → w'.cell? ⟨s, 4, none⟩ = some (.int .u64 (r.gen : Int)) := fun w' h => h.cell 4
    have bPd : BoxAt W8.drew p (shC sh0) := bP8.keep rfl
    have bQd : BoxAt W8.drew q (shC y) := bQ.keep rfl
    have bSd : BoxAt W8.drew s (setC a cb r) := bS8.keep rfl
    have hw8d : Below w.heap.size w W8.drew := hw8.drew
    have s8 : BoxAt W8.drew q (shC y) ∧ BoxAt W8.drew s (setC a cb r) := ⟨bQd, bSd⟩
    have hps : p ≠ s := by
      intro e
      rw [e] at bPd
      have h1 := bPd.cell 0
      have h2 := bSd.cell 0
      rw [h1, shC_0] at h2
      cases h2
    clear hst bP8 bQ bS8 hW8 hw8 lP lS hq
    rcases HCASE.out with ⟨hE, hnone⟩ | ⟨rfl, hsome⟩
    · have e0 : (E == 0) = false := by simpa using hE
      have HRD := Lib.hid (show rdS st k r i = none by rw [HRX.out, hnone])
      have hst := run_storeS (y := y) bPd sh0_ok.l hyl
      have hb2 := shC_set (y := y) bPd sh0_ok.l hyl
      have bQ2 := bQd.keep (setCells_other _ p 0 q (shV y) hpq.symm)
      have bS2 := bSd.keep (setCells_other _ p 0 s (shV y) hps.symm)
      obtain ⟨W9, hW9⟩ : ∃ W, W8.drew.setCells p 0 (shV y) = W := ⟨_, rfl⟩
      have hw9 := setS_below hw8d hpw (shV y)
      rw [hW9] at hst hb2 bQ2 bS2 hw9
      have s9 : BoxAt W9 q (shC y) ∧ BoxAt W9 s (setC a cb r) := ⟨bQ2, bS2⟩
      clear HCASE hE hnone hW9 bQ2 bS2 bPd bQd bSd hw8d
      refine wp_region_held_drew (S := fun w' => BoxAt w' q (shC y) ∧ BoxAt w' s (setC a cb r)) (by kernel_rfl) (by first | exact s8 | exact s9) (fun hHeld => ?_)
      refine tkH 0 rfl ?_
      refine tkH 1 rfl ?_
      refine tkH 2 rfl ?_
      refine tkH 3 rfl ?_
      refine skH 4 rfl ?_
      refine skH 5 rfl ?_
      refine skH 6 rfl ?_
      refine skH 7 rfl ?_
      refine skH 8 rfl ?_
      refine skH 9 rfl ?_
      refine skH 10 rfl ?_
      refine tkH 11 rfl ?_
      refine tkH 12 rfl ?_
      refine skH 13 rfl ?_
      refine skH 14 rfl ?_
      refine skH 15 rfl ?_
      refine skH 16 rfl ?_
      refine skH 17 rfl ?_
      refine skH 18 rfl ?_
      refine skH 19 rfl ?_
      refine skH 20 rfl ?_
      refine skH 21 rfl ?_
      refine tkH 22 rfl ?_
      refine rdH 23 rfl fun K hK => ?_
      try simp (maxSteps := 2000000) only [zz1, zz2, zz3]
      go_simp
      refine hK.out _ _ (by first | exact s8 | exact s9) (fun hHeld => ?_)
      clear hK K
      try simp (maxSteps := 2000000) only [zz1, zz2, zz3, Act.put, zz4, zz5, zz6]
      refine tkH 24 rfl ?_
      refine wpAnyH_done (by kernel_rfl) ?_ _
      go_wp2_with fail
      have hld := run_loadS hb2 hyl
      refine bodyPost_ret (v := .tuple #[.agg (shC y), .bool false]) (results_cellS Tryz.results139 _ _ _ _ _ rfl rfl hld) rfl ?_
      exact ⟨hw9, y, false, rfl, HY.out, .inr ⟨rfl, HRD.out⟩⟩
    · have his := shis_any (w := W8.drew) (r := r) (i := i) HY.out
      unfold refC at his
      obtain ⟨B, hB⟩ : ∃ B, isB y r i = B := ⟨_, rfl⟩
      rw [hB] at his hsome
      clear HCASE
      cases B with
      | false =>
        have HRD := Lib.hid (show rdS st k r i = none by rw [HRX.out, hsome, if_neg (by simp)])
        have hsz : True := trivial
        clear hsome hB
        refine wp_region_held_drew (S := fun w' => BoxAt w' q (shC y) ∧ BoxAt w' s (setC a cb r)) (by kernel_rfl) (by first | exact s8 | exact s10 | exact s9) (fun hHeld => ?_)
        refine tkH 0 rfl ?_
        refine tkH 1 rfl ?_
        refine tkH 2 rfl ?_
        refine tkH 3 rfl ?_
        refine tkH 4 rfl ?_
        refine tkH 5 rfl ?_
        refine tkH 6 rfl ?_
        refine tkH 7 rfl ?_
        refine tkH 8 rfl ?_
        refine tkH 9 rfl ?_
        refine rdH 10 rfl fun K hK => ?_
        try simp (maxSteps := 2000000) only [zz1, zz2, zz3]
        go_simp
        go_at_call 171
        refine his.mono ?_
        clear his
        rintro e w9 ⟨rfl, hb9⟩
        have bP9 := bPd.below hb9
        have bQ9 := bQd.below hb9
        have bS9 := bSd.below hb9
        have hw9 := hw8d.trans (hb9.mono hw8d.size)
        have s9 : BoxAt w9 q (shC y) ∧ BoxAt w9 s (setC a cb r) := ⟨bQ9, bS9⟩
        have hst := run_storeS (y := y) bP9 sh0_ok.l hyl
        have hb2 := shC_set (y := y) bP9 sh0_ok.l hyl
        have bQ2 := bQ9.keep (setCells_other _ p 0 q (shV y) hpq.symm)
        have bS2 := bS9.keep (setCells_other _ p 0 s (shV y) hps.symm)
        have hw10 := setS_below hw9 hpw (shV y)
        obtain ⟨W10, hW10⟩ : ∃ W, w9.setCells p 0 (shV y) = W := ⟨_, rfl⟩
        rw [hW10] at hst hb2 bQ2 bS2 hw10
        have s10 : BoxAt W10 q (shC y) ∧ BoxAt W10 s (setC a cb r) := ⟨bQ2, bS2⟩
        try (go_wp2_with fail)
        refine hK.out _ _ (by first | exact s8 | exact s10 | exact s9) (fun hHeld => ?_)
        clear hK K
        try simp (maxSteps := 2000000) only [zz1, zz2, zz3, Act.put, zz4, zz5, zz6]
        refine tkH 11 rfl ?_
        refine tkH 12 rfl ?_
        refine skH 13 rfl ?_
        refine skH 14 rfl ?_
        refine skH 15 rfl ?_
        refine skH 16 rfl ?_
        refine skH 17 rfl ?_
        refine skH 18 rfl ?_
        refine skH 19 rfl ?_
        refine skH 20 rfl ?_
        refine skH 21 rfl ?_
        refine tkH 22 rfl ?_
        refine rdH 23 rfl fun K hK => ?_
        try simp (maxSteps := 2000000) only [zz1, zz2, zz3]
        go_simp
        refine hK.out _ _ (by first | exact s8 | exact s10 | exact s9) (fun hHeld => ?_)
        clear hK K
        try simp (maxSteps := 2000000) only [zz1, zz2, zz3, Act.put, zz4, zz5, zz6]
        refine tkH 24 rfl ?_
        refine wpAnyH_done (by kernel_rfl) ?_ _
        go_wp2_with fail
        have hld := run_loadS hb2 hyl
        refine bodyPost_ret (v := .tuple #[.agg (shC y), .bool false]) (results_cellS Tryz.results139 _ _ _ _ _ rfl (by first | rfl | (simp [hsz]; done) | (simp; omega)) hld) rfl ?_
        exact ⟨hw10, y, false, rfl, HY.out, .inr ⟨rfl, HRD.out⟩⟩
      | true =>
        have hyp := HY.out.s
        have z0 : (0 : Int) ≤ (y.size : Int) := Int.natCast_nonneg _
        have z1 : (y.size : Int) < 65536 := by omega
        have pw : IntKind.i64.wrap (y.size : Int) = (y.size : Int) := by rw [IntKind.wrap_i64]; omega
        have hro := fun w' (h : Below w.heap.size w w') => room_any (HCH.out.below h)
        by_cases hsz0 : y.size ≤ k * 44
        · have HRD := Lib.hid (show rdS st k r i = some y by rw [HRX.out, hsome, if_pos ⟨rfl, hsz0⟩])
          have hsz : (y.size : Int) ≤ ((k * 44 : Nat) : Int) := by omega
          clear hsome hB hsz0
          obtain ⟨rm, hrm⟩ : ∃ rm, k * 44 = rm := ⟨_, rfl⟩
          rw [hrm] at hsz
          simp only [hrm] at hro
          clear hrm
          refine wp_region_held_drew (S := fun w' => BoxAt w' q (shC y) ∧ BoxAt w' s (setC a cb r)) (by kernel_rfl) (by first | exact s8 | exact s10 | exact s9) (fun hHeld => ?_)
          refine tkH 0 rfl ?_
          refine tkH 1 rfl ?_
          refine tkH 2 rfl ?_
          refine tkH 3 rfl ?_
          refine tkH 4 rfl ?_
          refine tkH 5 rfl ?_
          refine tkH 6 rfl ?_
          refine tkH 7 rfl ?_
          refine tkH 8 rfl ?_
          refine tkH 9 rfl ?_
          refine rdH 10 rfl fun K hK => ?_
          try simp (maxSteps := 2000000) only [zz1, zz2, zz3]
          go_simp
          go_at_call 171
          refine his.mono ?_
          clear his
          rintro e w9 ⟨rfl, hb9⟩
          have bP9 := bPd.below hb9
          have bQ9 := bQd.below hb9
          have bS9 := bSd.below hb9
          have hw9 := hw8d.trans (hb9.mono hw8d.size)
          have s9 : BoxAt w9 q (shC y) ∧ BoxAt w9 s (setC a cb r) := ⟨bQ9, bS9⟩
          try (go_wp2_with fail)
          refine hK.out _ _ (by first | exact s8 | exact s10 | exact s9) (fun hHeld => ?_)
          clear hK K
          try simp (maxSteps := 2000000) only [zz1, zz2, zz3, Act.put, zz4, zz5, zz6]
          refine tkH 11 rfl ?_
          refine tkH 12 rfl ?_
          refine tkH 13 rfl ?_
          refine tkH 14 rfl ?_
          refine tkH 15 rfl ?_
          refine tkH 16 rfl ?_
          refine tkH 17 rfl ?_
          refine tkH 18 rfl ?_
          refine tkH 19 rfl ?_
          refine rdH 20 rfl fun K hK => ?_
          try simp (maxSteps := 2000000) only [zz1, zz2, zz3]
          go_simp
          go_at_call 93
          refine (hro _ hw9).mono ?_
          clear hro
          rintro e w11 ⟨rfl, hw11⟩
          rw [hw11]
          clear hw11
          have hst := run_storeS (y := y) bP9 sh0_ok.l hyl
          have hb2 := shC_set (y := y) bP9 sh0_ok.l hyl
          have bQ2 := bQ9.keep (setCells_other _ p 0 q (shV y) hpq.symm)
          have bS2 := bS9.keep (setCells_other _ p 0 s (shV y) hps.symm)
          have hw10 := setS_below hw9 hpw (shV y)
          obtain ⟨W10, hW10⟩ : ∃ W, w9.setCells p 0 (shV y) = W := ⟨_, rfl⟩
          rw [hW10] at hst hb2 bQ2 bS2 hw10
          have s10 : BoxAt W10 q (shC y) ∧ BoxAt W10 s (setC a cb r) := ⟨bQ2, bS2⟩
          try (go_wp2_with fail)
          refine hK.out _ _ (by first | exact s8 | exact s10 | exact s9) (fun hHeld => ?_)
          clear hK K
          try simp (maxSteps := 2000000) only [zz1, zz2, zz3, Act.put, zz4, zz5, zz6]
          refine tkH 21 rfl ?_
          refine tkH 22 rfl ?_
          refine rdH 23 rfl fun K hK => ?_
          try simp (maxSteps := 2000000) only [zz1, zz2, zz3]
          go_simp
          refine hK.out _ _ (by first | exact s8 | exact s10 | exact s9) (fun hHeld => ?_)
          clear hK K
          try simp (maxSteps := 2000000) only [zz1, zz2, zz3, Act.put, zz4, zz5, zz6]
          refine tkH 24 rfl ?_
          refine wpAnyH_done (by kernel_rfl) ?_ _
          go_wp2_with fail
          have hld := run_loadS hb2 hyl
          refine bodyPost_ret (v := .tuple #[.agg (shC y), .bool true]) (results_cellS Tryz.results139 _ _ _ _ _ rfl (by first | rfl | (simp [hsz]; done) | (simp; omega)) hld) rfl ?_
          exact ⟨hw10, y, true, rfl, HY.out, .inl ⟨rfl, HRD.out⟩⟩
        · have HRD := Lib.hid (show rdS st k r i = none by rw [HRX.out, hsome, if_neg (fun h => hsz0 h.2)])
          have hsz : ¬ (y.size : Int) ≤ ((k * 44 : Nat) : Int) := by omega
          clear hsome hB hsz0
          obtain ⟨rm, hrm⟩ : ∃ rm, k * 44 = rm := ⟨_, rfl⟩
          rw [hrm] at hsz
          simp only [hrm] at hro
          clear hrm
          refine wp_region_held_drew (S := fun w' => BoxAt w' q (shC y) ∧ BoxAt w' s (setC a cb r)) (by kernel_rfl) (by first | exact s8 | exact s10 | exact s9) (fun hHeld => ?_)
          refine tkH 0 rfl ?_
          refine tkH 1 rfl ?_
          refine tkH 2 rfl ?_
          refine tkH 3 rfl ?_
          refine tkH 4 rfl ?_
          refine tkH 5 rfl ?_
          refine tkH 6 rfl ?_
          refine tkH 7 rfl ?_
          refine tkH 8 rfl ?_
          refine tkH 9 rfl ?_
          refine rdH 10 rfl fun K hK => ?_
          try simp (maxSteps := 2000000) only [zz1, zz2, zz3]
          go_simp
          go_at_call 171
          refine his.mono ?_
          clear his
          rintro e w9 ⟨rfl, hb9⟩
          have bP9 := bPd.below hb9
          have bQ9 := bQd.below hb9
          have bS9 := bSd.below hb9
          have hw9 := hw8d.trans (hb9.mono hw8d.size)
          have s9 : BoxAt w9 q (shC y) ∧ BoxAt w9 s (setC a cb r) := ⟨bQ9, bS9⟩
          try (go_wp2_with fail)
          refine hK.out _ _ (by first | exact s8 | exact s10 | exact s9) (fun hHeld => ?_)
          clear hK K
          try simp (maxSteps := 2000000) only [zz1, zz2, zz3, Act.put, zz4, zz5, zz6]
          refine tkH 11 rfl ?_
          refine tkH 12 rfl ?_
          refine tkH 13 rfl ?_
          refine tkH 14 rfl ?_
          refine tkH 15 rfl ?_
          refine tkH 16 rfl ?_
          refine tkH 17 rfl ?_
          refine tkH 18 rfl ?_
          refine tkH 19 rfl ?_
          refine rdH 20 rfl fun K hK => ?_
          try simp (maxSteps := 2000000) only [zz1, zz2, zz3]
          go_simp
          go_at_call 93
          refine (hro _ hw9).mono ?_
          clear hro
          rintro e w11 ⟨rfl, hw11⟩
          rw [hw11]
          clear hw11
          have hst := run_storeS (y := y) bP9 sh0_ok.l hyl
          have hb2 := shC_set (y := y) bP9 sh0_ok.l hyl
          have bQ2 := bQ9.keep (setCells_other _ p 0 q (shV y) hpq.symm)
          have bS2 := bS9.keep (setCells_other _ p 0 s (shV y) hps.symm)
          have hw10 := setS_below hw9 hpw (shV y)
          obtain ⟨W10, hW10⟩ : ∃ W, w9.setCells p 0 (shV y) = W := ⟨_, rfl⟩
          rw [hW10] at hst hb2 bQ2 bS2 hw10
          have s10 : BoxAt W10 q (shC y) ∧ BoxAt W10 s (setC a cb r) := ⟨bQ2, bS2⟩
          try (go_wp2_with fail)
          refine hK.out _ _ (by first | exact s8 | exact s10 | exact s9) (fun hHeld => ?_)
          clear hK K
          try simp (maxSteps := 2000000) only [zz1, zz2, zz3, Act.put, zz4, zz5, zz6]
          refine tkH 21 rfl ?_
          refine tkH 22 rfl ?_
          refine rdH 23 rfl fun K hK => ?_
          try simp (maxSteps := 2000000) only [zz1, zz2, zz3]
          go_simp
          refine hK.out _ _ (by first | exact s8 | exact s10 | exact s9) (fun hHeld => ?_)
          clear hK K
          try simp (maxSteps := 2000000) only [zz1, zz2, zz3, Act.put, zz4, zz5, zz6]
          refine tkH 24 rfl ?_
          refine wpAnyH_done (by kernel_rfl) ?_ _
          go_wp2_with fail
          have hld := run_loadS hb2 hyl
          refine bodyPost_ret (v := .tuple #[.agg (shC y), .bool false]) (results_cellS Tryz.results139 _ _ _ _ _ rfl (by first | rfl | (simp [hsz]; done) | (simp; omega)) hld) rfl ?_
          exact ⟨hw10, y, false, rfl, HY.out, .inr ⟨rfl, HRD.out⟩⟩
end
end
section
/-- The whole shards among the first, and the stripe's length. -/
def wholeF (R : Nat → Option Shd) : Nat → List (Nat × Shd) × Nat
  | 0 => ([], 0)
  | i + 1 => match R i with
    | none => wholeF R i
    | some x => if 0 < (wholeF R i).1.length ∧ x.size ≠ (wholeF R i).2 then wholeF R i else ((wholeF R i).1 ++ [(i, x)], x.size)
def mapE (l : List (Nat × Shd)) : List (Int × Value) := l.map fun p => ((p.1 : Int), Value.agg (shC p.2))
theorem wholeF_lt (R : Nat → Option Shd) : ∀ i, ∀ p ∈ (wholeF R i).1, p.1 < i
  | 0, p, h => by simp [wholeF] at h
  | i + 1, p, h => by
    unfold wholeF at h
    have ih := wholeF_lt R i
    split at h
    · exact Nat.lt_succ_of_lt (ih p h)
    · split at h
      · exact Nat.lt_succ_of_lt (ih p h)
      · rcases List.mem_append.1 h with h1 | h1
        · exact Nat.lt_succ_of_lt (ih p h1)
        · simp at h1; subst h1; exact Nat.lt_succ_self i
theorem wholeF_size (R : Nat → Option Shd) (hR : ∀ i x, R i = some x → x.size < 65536) : ∀ i, (wholeF R i).2 < 65536
  | 0 => by simp [wholeF]
  | i + 1 => by
    unfold wholeF
    split
    · exact wholeF_size R hR i
    · rename_i x hx
      split
      · exact wholeF_size R hR i
      · exact hR i x hx
theorem mput_new : ∀ (es : List (Int × Value)) (k : Int) (v : Value), (∀ p ∈ es, p.1 ≠ k) → mput es k v = es ++ [(k, v)]
  | [], k, v, _ => rfl
  | p :: es, k, v, h => by
    have h1 := h p (List.mem_cons_self ..)
    have ih := mput_new es k v fun q hq => h q (List.mem_cons_of_mem _ hq)
    unfold mput
    rw [if_neg h1, ih]; rfl
theorem un_smap : Tryz.prog.underlying 148 = some (.map 3 193) := by kernel_rfl
theorem kt_intS : KeyTy Tryz.prog 3 (Value.int .i64) := keyTy_int (by kernel_rfl)
attribute [local go_sem ↓] shut_loadS shut_zeroS shut_buildS shut_storeS
attribute [local go_sem] run_zeroS run_build0
section
variable {w : World} {a s cb b k m : Nat} {r : Ref}
set_option maxRecDepth 100000 in
set_option maxHeartbeats 8000000 in
theorem whole_any (hS : BoxAt w s (setC a cb r)) (HC : CodAt w cb b k m) (R : Nat → Option Shd) (hR : ∀ i x, R i = some x → x.ok) (hread : Hid (∀ i, i < k + m → ∀ w', Below w.heap.size w w' → Calls Tryz.prog 139 #[.pointer (some ⟨s, 0, none⟩), .int .i64 (i : Int)] w' fun e w'' => ReadE w' (R i) e w'')) :
    Calls Tryz.prog 87 #[.pointer (some ⟨s, 0, none⟩)] w fun e w' => ∃ mb, e = .returned (.tuple #[.map (some mb), .int .i64 ((wholeF R (k + m)).2 : Nat)]) ∧ MapAt (Value.int .i64) w' mb (mapE (wholeF R (k + m)).1) ∧ Below w.heap.size w w' ∧ w.heap.size ≤ mb := by
  have hkm := HC.km
  have hmm := @run_makeMap Tryz.prog
  have hb0 : Below w.heap.size w (w.alloc (.map #[] 0)) := (Below.refl _ _).alloc (Nat.le_refl _) _
  have hm0 : MapAt (Value.int .i64) (w.alloc (.map #[] 0)) w.heap.size (mapE (wholeF R 0).1) := MapAt.new _ w
  have hS0 := hS.below hb0
  have c1 := hS0.cell 1
  have hn := cn_any (HC.below hb0)
  obtain ⟨wA, hwA⟩ : ∃ wA, w.alloc (.map #[] 0) = wA := ⟨_, rfl⟩
  rw [hwA] at hb0 hm0 hS0 c1 hn
  replace c1 : wA.cell? ⟨s, 1, none⟩ = some (.pointer (some ⟨cb, 0, none⟩)) := c1
  obtain ⟨mb, hmb⟩ : ∃ mb, w.heap.size = mb := ⟨_, rfl⟩
  have HMB := Lib.hid (show w.heap.size ≤ mb by omega)
  rw [hmb] at hm0
  have hsz : ∀ i, (wholeF R i).2 < 65536 := wholeF_size R fun i x h => (hR i x h).s
  have HSZ := Lib.hid hsz
  have HR := Lib.hid hR
  obtain ⟨N, hN⟩ : ∃ N, k + m = N := ⟨_, rfl⟩
  rw [hN] at hn hread ⊢
  have hN2 : N ≤ 255 := by omega
  clear HC hsz hR hS hN
  go_enter Tryz.func87, Tryz.ntmps87
  go_wp2_with fail
  refine hn.mono ?_
  clear hn
  rintro e w1 ⟨rfl, hb1⟩
  have HM := Lib.hid (hm0.below hb1)
  have HB := Lib.hid (hb0.trans (hb1.mono hb0.size))
  have hmm2 : mb < w1.heap.size := (hm0.below hb1).lt
  clear hm0 hb1 hb0 hmm hwA
  go_wp2_with fail
  go_loopw [5, 15] (fun vs vi wr => ∃ i : Nat, i ≤ N ∧ vi = .int .i64 i ∧ vs = .int .i64 ((wholeF R i).2 : Nat) ∧ Hid (MapAt (Value.int .i64) wr mb (mapE (wholeF R i).1)) ∧ Hid (Below w.heap.size w wr)) (fun _ vi _ => N - (intOf vi).toNat)
  case atStart => exact ⟨0, Nat.zero_le _, rfl, rfl, HM, HB⟩
  case round =>
    clear HM HB
    obtain ⟨i, hi, rfl, rfl, HM, HB⟩ := hrel
    have p0 : (0 : Int) ≤ (i : Int) := Int.natCast_nonneg _
    by_cases hlt : i < N
    · have p1 : (i : Int) < (N : Int) := by omega
      have hrd := hread.out i hlt wr HB.out
      go_wp2_with fail
      refine hrd.mono ?_
      clear hrd
      rintro e w5 ⟨hb5, y, B, rfl, hy, hcase⟩
      have hyl := hy.l
      have hys := hy.s
      have hm5 := HM.out.below hb5
      have hw5 : Below w.heap.size w w5 := HB.out.trans (hb5.mono HB.out.size)
      have hst := run_storeS (y := y) (BoxAt.new w5 (shC sh0) 193) sh0_ok.l hyl
      have bQ6 := shC_set (y := y) (BoxAt.new w5 (shC sh0) 193) sh0_ok.l hyl
      have hm6 : MapAt (Value.int .i64) ((w5.alloc (.cells (shC sh0) 193)).setCells w5.heap.size 0 (shV y)) mb (mapE (wholeF R i).1) := (hm5.alloc (.cells (shC sh0) 193)).keep (setCells_other _ w5.heap.size 0 mb (shV y) (by have := hm5.lt; omega))
      have hw6 := setS_below (hw5.alloc hw5.size (.cells (shC sh0) 193)) (p := w5.heap.size) hw5.size (shV y)
      have hqm : mb < w5.heap.size := hm5.lt
      obtain ⟨W6, hW6⟩ : ∃ W, (w5.alloc (.cells (shC sh0) 193)).setCells w5.heap.size 0 (shV y) = W := ⟨_, rfl⟩
      rw [hW6] at hst bQ6 hm6 hw6
      obtain ⟨q, hq⟩ : ∃ q, w5.heap.size = q := ⟨_, rfl⟩
      rw [hq] at hst bQ6 hqm
      have HM6 := Lib.hid hm6
      have HB6 := Lib.hid hw6
      have k4 : W6.cell? ⟨q, 4, none⟩ = some (.int .u16 (y.size : Int)) := (bQ6.cell 4).trans (shC_4 y)
      have hml := fun ty => run_lenMap (P := Tryz.prog) un_smap hm6 ty
      have hmel : (mapE (wholeF R i).1).length = (wholeF R i).1.length := by unfold mapE; rw [List.length_map]
      rw [hmel] at hml
      have z0 : (0 : Int) ≤ (y.size : Int) := Int.natCast_nonneg _
      have z1 : (y.size : Int) < 65536 := by omega
      have pw : IntKind.i64.wrap (y.size : Int) = (y.size : Int) := by rw [IntKind.wrap_i64]; omega
      clear hm5 hw5 hb5 hm6 hw6 hmel HM HB
      rcases hcase with ⟨rfl, hRi⟩ | ⟨rfl, hRi⟩
      · obtain ⟨L, hL⟩ : ∃ L, (wholeF R i).1.length = L := ⟨_, rfl⟩
        obtain ⟨sz, hsz⟩ : ∃ sz, (wholeF R i).2 = sz := ⟨_, rfl⟩
        rw [hL] at hml
        rw [hsz]
        by_cases hpos : 0 < L
        · have x1 : (L : Int) > 0 := by omega
          by_cases hne : y.size = sz
          · have x2 : ((y.size : Int) != (sz : Int)) = false := by rw [hne]; simp
            have HW := Lib.hid (show wholeF R (i + 1) = ((wholeF R i).1 ++ [(i, y)], y.size) by conv => lhs; unfold wholeF; rw [hRi]; dsimp only; rw [if_neg (by rw [hsz]; exact fun h => h.2 hne)])
            clear hne hRi hL hsz
            have hnew := mput_new (mapE (wholeF R i).1) (i : Int) (.agg (shC y)) (fun p hp => by
              obtain ⟨p', hp', rfl⟩ := List.mem_map.1 hp
              have := wholeF_lt R i p' hp'
              show ((p'.1 : Nat) : Int) ≠ _
              omega)
            obtain ⟨w7, hu, hM7, hg7, hs7⟩ := run_mapUpdate (P := Tryz.prog) kt_intS un_smap (HM6.out.keep (w' := W6.drew) rfl) (i : Int) (.agg (shC y))
            rw [hnew] at hM7
            have hb7 : Below w.heap.size w w7 := HB6.out.drew.grown hg7 HB6.out.size (fun k e => by cases e; exact HMB.out)
            have hQ7 := (bQ6.keep (w' := W6.drew) rfl).grw hg7 (fun e => by injection e with e; omega)
            have hQd : BoxAt W6.drew q (shC y) := bQ6.keep rfl
            have HM7 := Lib.hid hM7
            have HB7 := Lib.hid hb7
            have f1 : ∀ w', BoxAt w' q (shC y) → (shutLoad 193 ⟨q, 0, none⟩).run Tryz.prog w' = .ok (.agg (shC y)) w' := fun w' h => run_loadS h hyl
            have f3 : ∀ w', BoxAt w' q (shC y) → w'.cell? ⟨q, 4, none⟩ = some (.int .u16 (y.size : Int)) := fun w' h => (h.cell 4).trans (shC_4 y)
            clear hnew hM7 hb7 hg7 hs7 bQ6 HM6 HB6
            go_wp2_with fail
            refine wp_region_held_drew (S := fun w' => BoxAt w' q (shC y)) (by kernel_rfl) (by first | exact hQd | exact hQ7) (fun hHeld => ?_)
            refine tkH 0 rfl ?_
            refine tkH 1 rfl ?_
            refine tkH 2 rfl ?_
            refine tkH 3 rfl ?_
            refine tkH 4 rfl ?_
            refine tkH 5 rfl ?_
            refine rdH 6 rfl fun K hK => ?_
            try simp (maxSteps := 2000000) only [zz1, zz2, zz3]
            go_simp
            refine hK.out _ _ (by first | exact hQd | exact hQ7) (fun hHeld => ?_)
            clear hK K
            try simp (maxSteps := 2000000) only [zz1, zz2, zz3, Act.put, zz4, zz5, zz6]
            refine tkH 7 rfl ?_
            refine wpAnyH_done (by kernel_rfl) ?_ _
            go_wp2_with fail
            exact ⟨⟨i + 1, by omega, by go_num, by rw [HW.out], by rw [HW.out]; unfold mapE; rw [List.map_append]; exact HM7, HB7⟩, by simp [intOf]; omega⟩
          · have x2 : ((y.size : Int) != (sz : Int)) = true := by simp; omega
            have HW := Lib.hid (show wholeF R (i + 1) = wholeF R i by conv => lhs; unfold wholeF; rw [hRi]; dsimp only; rw [if_pos (by rw [hsz, hL]; exact ⟨hpos, hne⟩)])
            have HSZ2 := Lib.hid hsz
            clear hne hRi hL hsz bQ6
            go_wp2_with fail
            exact ⟨⟨i + 1, by omega, by go_num, by rw [HW.out, HSZ2.out], by rw [HW.out]; exact HM6, HB6⟩, by simp [intOf]; omega⟩
        · have x1 : ¬ (L : Int) > 0 := by omega
          have HW := Lib.hid (show wholeF R (i + 1) = ((wholeF R i).1 ++ [(i, y)], y.size) by conv => lhs; unfold wholeF; rw [hRi]; dsimp only; rw [if_neg (by rw [hL]; exact fun h => hpos h.1)])
          clear hRi hL hsz
          have hnew := mput_new (mapE (wholeF R i).1) (i : Int) (.agg (shC y)) (fun p hp => by
            obtain ⟨p', hp', rfl⟩ := List.mem_map.1 hp
            have := wholeF_lt R i p' hp'
            show ((p'.1 : Nat) : Int) ≠ _
            omega)
          obtain ⟨w7, hu, hM7, hg7, hs7⟩ := run_mapUpdate (P := Tryz.prog) kt_intS un_smap (HM6.out.keep (w' := W6.drew) rfl) (i : Int) (.agg (shC y))
          rw [hnew] at hM7
          have hb7 : Below w.heap.size w w7 := HB6.out.drew.grown hg7 HB6.out.size (fun k e => by cases e; exact HMB.out)
          have hQ7 := (bQ6.keep (w' := W6.drew) rfl).grw hg7 (fun e => by injection e with e; omega)
          have hQd : BoxAt W6.drew q (shC y) := bQ6.keep rfl
          have HM7 := Lib.hid hM7
          have HB7 := Lib.hid hb7
          have f1 : ∀ w', BoxAt w' q (shC y) → (shutLoad 193 ⟨q, 0, none⟩).run Tryz.prog w' = .ok (.agg (shC y)) w' := fun w' h => run_loadS h hyl
          have f3 : ∀ w', BoxAt w' q (shC y) → w'.cell? ⟨q, 4, none⟩ = some (.int .u16 (y.size : Int)) := fun w' h => (h.cell 4).trans (shC_4 y)
          clear hnew hM7 hb7 hg7 hs7 bQ6 HM6 HB6
          go_wp2_with fail
          refine wp_region_held_drew (S := fun w' => BoxAt w' q (shC y)) (by kernel_rfl) (by first | exact hQd | exact hQ7) (fun hHeld => ?_)
          refine tkH 0 rfl ?_
          refine tkH 1 rfl ?_
          refine tkH 2 rfl ?_
          refine tkH 3 rfl ?_
          refine tkH 4 rfl ?_
          refine tkH 5 rfl ?_
          refine rdH 6 rfl fun K hK => ?_
          try simp (maxSteps := 2000000) only [zz1, zz2, zz3]
          go_simp
          refine hK.out _ _ (by first | exact hQd | exact hQ7) (fun hHeld => ?_)
          clear hK K
          try simp (maxSteps := 2000000) only [zz1, zz2, zz3, Act.put, zz4, zz5, zz6]
          refine tkH 7 rfl ?_
          refine wpAnyH_done (by kernel_rfl) ?_ _
          go_wp2_with fail
          exact ⟨⟨i + 1, by omega, by go_num, by rw [HW.out], by rw [HW.out]; unfold mapE; rw [List.map_append]; exact HM7, HB7⟩, by simp [intOf]; omega⟩
      · have HW := Lib.hid (show wholeF R (i + 1) = wholeF R i by conv => lhs; unfold wholeF; rw [hRi])
        clear hRi bQ6
        go_wp2_with fail
        exact ⟨⟨i + 1, by omega, by go_num, by rw [HW.out], by rw [HW.out]; exact HM6, HB6⟩, by simp [intOf]; omega⟩
    · have p1 : ¬ (i : Int) < (N : Int) := by omega
      obtain rfl : N = i := by omega
      go_wp2_with fail
      go_ret2
      exact ⟨mb, rfl, HM.out, by first | exact HB.out | (rw [← hmb]; exact HB.out), by first | exact HMB.out | omega⟩
end
end
section
def lookS (l : List (Nat × Shd)) (i : Nat) : Option Shd := (l.find? fun p => decide (p.1 = i)).map (·.2)
theorem mlook_mapE : ∀ (l : List (Nat × Shd)) (i : Nat), mlook (mapE l) (i : Int) = (lookS l i).map fun x => Value.agg (shC x)
  | [], i => rfl
  | p :: l, i => by
    have ih := mlook_mapE l i
    show (if ((p.1 : Nat) : Int) = (i : Int) then some (Value.agg (shC p.2)) else mlook (mapE l) (i : Int)) = _
    unfold lookS
    by_cases h : p.1 = i
    · rw [if_pos (by rw [h]), List.find?_cons_of_pos (by simpa using h)]; rfl
    · rw [if_neg (by omega), List.find?_cons_of_neg (by simpa using h), ih]; rfl
def bodyO (o : Option Shd) : List Nat := match o with
  | some x => x.body
  | none => []
def rowsU (l : List (Nat × Shd)) (N i : Nat) : Rws := (List.range i).map (fun j => bodyO (lookS l j)) ++ List.replicate (N - i) []
def rowsS (l : List (Nat × Shd)) (N : Nat) : Rws := (List.range N).map fun j => bodyO (lookS l j)
theorem rowsU_next {l : List (Nat × Shd)} {N i : Nat} (h : i < N) : (rowsU l N i).set i (bodyO (lookS l i)) = rowsU l N (i + 1) := by
  unfold rowsU
  rw [List.set_append_right _ _ (by simp), List.range_succ, List.map_append, List.append_assoc]
  congr 1
  obtain ⟨d, hd⟩ : ∃ d, N - i = d + 1 := ⟨N - i - 1, by omega⟩
  rw [hd, show N - (i + 1) = d by omega, List.replicate_succ]
  simp
theorem rowsU_none {l : List (Nat × Shd)} {N i : Nat} (h : i < N) (hn : lookS l i = none) : rowsU l N i = rowsU l N (i + 1) := by
  unfold rowsU
  rw [List.range_succ, List.map_append, List.append_assoc]
  congr 1
  obtain ⟨d, hd⟩ : ∃ d, N - i = d + 1 := ⟨N - i - 1, by omega⟩
  rw [hd, show N - (i + 1) = d by omega, List.replicate_succ, List.map_cons, List.map_nil, hn]
  rfl
theorem lookS_ok {l : List (Nat × Shd)} (h : ∀ p ∈ l, p.2.ok) {i : Nat} {x : Shd} (hx : lookS l i = some x) : x.ok := by
  unfold lookS at hx
  cases hf : l.find? (fun p => decide (p.1 = i)) with
  | none => rw [hf] at hx; cases hx
  | some p =>
    rw [hf] at hx
    injection hx with hx
    rw [← hx]
    exact h p (List.mem_of_find?_eq_some hf)
attribute [local go_sem ↓] shut_loadS shut_zeroS shut_buildS shut_storeS
attribute [local go_sem] run_zeroS run_build0
end
section
structure Ref.ok (r : Ref) (n : Nat) : Prop where
  k1 : 1 ≤ r.kind
  k4 : r.kind ≤ 4
  p : r.place < n
section
variable {U : Nat → Prop} {w : World} {a n cb b k m : Nat} {v : Value} {Fs : Nat → Nat → Prop} {ps : List Nat} {sts : List DSt} {r : Ref}
set_option maxRecDepth 100000 in
set_option maxHeartbeats 8000000 in
theorem meant_good (h : Hid (ArrB U w a v Fs ps n sts)) (HC : CodAt w cb b k m) (hlen : sts.length = k + m) (hr : r.ok n) :
    Calls Tryz.prog 86 #[.pointer (some ⟨a, 0, none⟩), .pointer (some ⟨cb, 0, none⟩), .agg (refC r)] w fun e w' => ∃ s, e = .returned (.tuple #[.pointer (some ⟨s, 0, none⟩), .int .i64 0]) ∧ w.heap.size ≤ s ∧ BoxAt w' s (setC a cb r) ∧ Below w.heap.size w w' := by
  have hk1 := HC.k1
  have hN := fun w' (hb : Below w.heap.size w w') => an_any (w := w') (Lib.hid (h.out.below hb)) (by omega)
  have hSc := fun w' (hb : Below w.heap.size w w') => asectors_any (w := w') (Lib.hid (h.out.below hb)) (by omega)
  have hCn := fun w' (hb : Below w.heap.size w w') => cn_any (HC.below hb)
  obtain ⟨N, hNe⟩ : ∃ N, k + m = N := ⟨_, rfl⟩
  simp only [hlen] at hN
  rw [hNe] at hN hCn
  have hN1 : 1 ≤ N := by omega
  have e0 : ((N : Int) == 0) = false := by simp; omega
  have e1 : ((N : Int) != (N : Int)) = false := by simp
  have z1 : decide ((r.kind : Int) < 1) = false := decide_eq_false (by have := hr.k1; omega)
  have z2 : decide ((r.kind : Int) > 4) = false := decide_eq_false (by have := hr.k4; omega)
  have z3 : decide ((r.place : Int) < 0) = false := decide_eq_false (by omega)
  have z4 : decide ((r.place : Int) ≥ (n : Int)) = false := decide_eq_false (by have := hr.p; omega)
  have y1 : decide (r.kind < 1) = false := decide_eq_false (by have := hr.k1; omega)
  have y2 : decide (4 < (r.kind : Int)) = false := decide_eq_false (by have := hr.k4; omega)
  have y3 : decide (4 < r.kind) = false := decide_eq_false (by have := hr.k4; omega)
  have y4 : decide ((n : Int) ≤ (r.place : Int)) = false := decide_eq_false (by have := hr.p; omega)
  have y5 : decide (n ≤ r.place) = false := decide_eq_false (by have := hr.p; omega)
  clear h HC hlen hr hNe hk1
  unfold refC
  go_enter Tryz.func86, Tryz.ntmps86
  go_wp2_with fail
  have bR := BoxAt.new w (refC r) 38
  have hb0 : Below w.heap.size w (w.alloc (.cells (refC r) 38)) := (Below.refl _ _).alloc (Nat.le_refl _) _
  change Calls _ _ _ (w.alloc (.cells (refC r) 38)) _
  obtain ⟨wA, hwA⟩ : ∃ wA, w.alloc (.cells (refC r) 38) = wA := ⟨_, rfl⟩
  rw [hwA] at bR hb0 ⊢
  clear hwA
  obtain ⟨q, hq⟩ : ∃ q, w.heap.size = q := ⟨_, rfl⟩
  have HQ := Lib.hid (show w.heap.size ≤ q by omega)
  rw [hq] at bR ⊢
  refine (hN _ hb0).mono ?_
  rintro e w1 ⟨rfl, hb1⟩
  have hw1 := hb0.trans (hb1.mono hb0.size)
  have bR1 := bR.below hb1
  go_wp2_with fail
  refine (hCn _ hw1).mono ?_
  rintro e w2 ⟨rfl, hb2⟩
  have hw2 := hw1.trans (hb2.mono hw1.size)
  have bR2 := bR1.below hb2
  clear bR hb0 hb1 hw1 bR1 hb2
  have bRd : BoxAt w2.drew q (refC r) := bR2.keep rfl
  have hwd : Below w.heap.size w w2.drew := hw2.drew
  have s0 : w2.drew.cell? ⟨q, 0, none⟩ = some (.int .u8 (r.kind : Int)) ∧ w2.drew.cell? ⟨q, 1, none⟩ = some (.int .i64 (r.place : Int)) := ⟨bRd.cell 0, bRd.cell 1⟩
  clear bR2 hw2
  go_wp2_with fail
  refine wp_region_held_drew (S := fun w' => w'.cell? ⟨q, 0, none⟩ = some (.int .u8 (r.kind : Int)) ∧ w'.cell? ⟨q, 1, none⟩ = some (.int .i64 (r.place : Int))) (by kernel_rfl) (by first | exact s0 | exact s5 | exact s6 | exact s7) (fun hHeld => ?_)
  refine tkH 0 rfl ?_
  refine tkH 2 rfl ?_
  refine rdH 1 rfl fun K hK => ?_
  try simp (maxSteps := 2000000) only [zz1, zz2, zz3]
  go_simp
  go_at_call 83
  refine (hN _ hwd).mono ?_
  rintro e w5 ⟨rfl, hb5⟩
  have hw5 := hwd.trans (hb5.mono hwd.size)
  have bR5 := bRd.below hb5
  have s5 : w5.cell? ⟨q, 0, none⟩ = some (.int .u8 (r.kind : Int)) ∧ w5.cell? ⟨q, 1, none⟩ = some (.int .i64 (r.place : Int)) := ⟨bR5.cell 0, bR5.cell 1⟩
  try (go_wp2_with fail)
  refine hK.out _ _ (by first | exact s0 | exact s5 | exact s6 | exact s7) (fun hHeld => ?_)
  clear hK K
  try simp (maxSteps := 2000000) only [zz1, zz2, zz3, Act.put, zz4, zz5, zz6]
  refine rdH 3 rfl fun K hK => ?_
  try simp (maxSteps := 2000000) only [zz1, zz2, zz3]
  go_simp
  go_at_call 57
  refine (hCn _ hw5).mono ?_
  rintro e w6 ⟨rfl, hb6⟩
  have hw6 := hw5.trans (hb6.mono hw5.size)
  have bR6 := bR5.below hb6
  have s6 : w6.cell? ⟨q, 0, none⟩ = some (.int .u8 (r.kind : Int)) ∧ w6.cell? ⟨q, 1, none⟩ = some (.int .i64 (r.place : Int)) := ⟨bR6.cell 0, bR6.cell 1⟩
  try (go_wp2_with fail)
  refine hK.out _ _ (by first | exact s0 | exact s5 | exact s6 | exact s7) (fun hHeld => ?_)
  clear hK K
  try simp (maxSteps := 2000000) only [zz1, zz2, zz3, Act.put, zz4, zz5, zz6]
  refine tkH 4 rfl ?_
  refine tkH 5 rfl ?_
  refine tkH 6 rfl ?_
  refine tkH 7 rfl ?_
  refine tkH 8 rfl ?_
  refine tkH 9 rfl ?_
  refine tkH 10 rfl ?_
  refine tkH 11 rfl ?_
  refine tkH 12 rfl ?_
  refine tkH 13 rfl ?_
  refine tkH 14 rfl ?_
  refine tkH 15 rfl ?_
  refine tkH 16 rfl ?_
  refine tkH 17 rfl ?_
  refine tkH 18 rfl ?_
  refine tkH 19 rfl ?_
  refine tkH 20 rfl ?_
  refine tkH 21 rfl ?_
  refine tkH 22 rfl ?_
  refine tkH 23 rfl ?_
  refine rdH 24 rfl fun K hK => ?_
  try simp (maxSteps := 2000000) only [zz1, zz2, zz3]
  go_simp
  go_at_call 138
  refine (hSc _ hw6).mono ?_
  rintro e w7 ⟨rfl, hb7⟩
  have hw7 := hw6.trans (hb7.mono hw6.size)
  have bR7 := bR6.below hb7
  have s7 : w7.cell? ⟨q, 0, none⟩ = some (.int .u8 (r.kind : Int)) ∧ w7.cell? ⟨q, 1, none⟩ = some (.int .i64 (r.place : Int)) := ⟨bR7.cell 0, bR7.cell 1⟩
  try (go_wp2_with fail)
  refine hK.out _ _ (by first | exact s0 | exact s5 | exact s6 | exact s7) (fun hHeld => ?_)
  clear hK K
  try simp (maxSteps := 2000000) only [zz1, zz2, zz3, Act.put, zz4, zz5, zz6]
  refine tkH 25 rfl ?_
  refine tkH 26 rfl ?_
  refine tkH 27 rfl ?_
  refine wpAnyH_done (by kernel_rfl) ?_ _
  have HW7 := Lib.hid hw7
  have r0 : w7.cell? ⟨q, 0, none⟩ = some (.int .u8 (r.kind : Int)) := bR7.cell 0
  have r1 : w7.cell? ⟨q, 1, none⟩ = some (.int .i64 (r.place : Int)) := bR7.cell 1
  have r2 : w7.cell? ⟨q, 2, none⟩ = some (.int .u64 (r.gen : Int)) := bR7.cell 2
  clear hN hCn hSc hw5 hw6 hw7 bR5 bR6 bRd hwd
  go_wp2_with fail
  go_ret2
  refine ⟨w7.heap.size, rfl, HW7.out.size, ?_, HW7.out.alloc HW7.out.size _⟩
  exact BoxAt.new w7 (setC a cb r) 220
end
end
section
theorem wholeF_ok (R : Nat → Option Shd) (hR : ∀ i x, R i = some x → x.ok) : ∀ i, ∀ p ∈ (wholeF R i).1, p.2.ok
  | 0, p, h => by simp [wholeF] at h
  | i + 1, p, h => by
    have ih := wholeF_ok R hR i
    unfold wholeF at h
    split at h
    · exact ih p h
    · rename_i x hx
      split at h
      · exact ih p h
      · rcases List.mem_append.1 h with h1 | h1
        · exact ih p h1
        · simp at h1; subst h1; exact hR i x hx
section
variable {R : Nat → Option Shd} {N k m : Nat} (hR : ∀ i x, R i = some x → x.ok)
include hR
end
end
section
/-- Each drive's sector at this place reads as 64 bytes. -/
structure RdOk (sts : List DSt) (z : Nat) : Prop where
  b : ∀ st ∈ sts, StB st z
  l : ∀ st ∈ sts, (secN st z).length = 64
def stR (sts : List DSt) (k : Nat) (r : Ref) (i : Nat) : Option Shd := match sts[homeN sts.length r.place i]? with
  | none => none
  | some st => rdS st k r i
theorem rdX_ok {xs : List Nat} {k : Nat} {r : Ref} {i : Nat} {x : Shd} (hl : xs.length = 64) (hb : Byt xs) (h : rdX xs k r i = some x) : x.ok ∧ x.size ≤ k * 44 := by
  unfold rdX at h
  split at h
  · rename_i h2
    cases h
    exact ⟨decS_ok hl hb, h2.2.2.2⟩
  · cases h
theorem secN_byt {st : DSt} {z : Nat} (h : StB st z) : Byt (secN st z) := fun x hx => by
  obtain ⟨y, hy, rfl⟩ := List.mem_map.1 hx
  have := h y hy
  omega
theorem stR_ok {sts : List DSt} {k : Nat} {r : Ref} (h : RdOk sts r.place) (i : Nat) (x : Shd) (hx : stR sts k r i = some x) : x.ok ∧ x.size ≤ k * 44 := by
  unfold stR at hx
  split at hx
  · cases hx
  · rename_i st hst
    have hm := List.mem_of_getElem? hst
    unfold rdS at hx
    split at hx
    · cases hx
    · exact rdX_ok (h.l st hm) (secN_byt (h.b st hm)) hx
theorem homeN_lt {n p i : Nat} (h : 1 ≤ n) : homeN n p i < n := Nat.mod_lt _ h
section
variable {U : Nat → Prop} {w : World} {a n s cb b k m : Nat} {v : Value} {Fs : Nat → Nat → Prop} {ps : List Nat} {sts : List DSt} {r : Ref}
theorem swhole_any (hS : BoxAt w s (setC a cb r)) (h : Hid (ArrB U w a v Fs ps n sts)) (HC : CodAt w cb b k m) (hlen : sts.length = k + m) (hz : r.place < n) (hR : RdOk sts r.place) :
    Calls Tryz.prog 87 #[.pointer (some ⟨s, 0, none⟩)] w fun e w' => ∃ mb, e = .returned (.tuple #[.map (some mb), .int .i64 ((wholeF (stR sts k r) (k + m)).2 : Nat)]) ∧ MapAt (Value.int .i64) w' mb (mapE (wholeF (stR sts k r) (k + m)).1) ∧ Below w.heap.size w w' ∧ w.heap.size ≤ mb := by
  refine whole_any hS HC (stR sts k r) (fun i x hx => (stR_ok hR i x hx).1) (Lib.hid fun i hi w' hb => ?_)
  have hk1 := HC.k1
  have hlt : homeN sts.length r.place i < sts.length := homeN_lt (by omega)
  have hst : sts[homeN sts.length r.place i]? = some sts[homeN sts.length r.place i] := List.getElem?_eq_getElem hlt
  have hm := List.getElem_mem hlt
  have e : stR sts k r i = rdS sts[homeN sts.length r.place i] k r i := by unfold stR; rw [hst]
  rw [e]
  exact sread_any (hS.below hb) (Lib.hid (h.out.below hb)) (HC.below hb) hlen hz i hst (hR.b _ hm) (hR.l _ hm)
end
section
variable {U : Nat → Prop} {w : World} {a n cb b k m : Nat} {v : Value} {Fs : Nat → Nat → Prop} {ps : List Nat} {sts : List DSt} {r : Ref}
end
end
end Go.Proofs.YtihnlhfngmbglaaGreat
