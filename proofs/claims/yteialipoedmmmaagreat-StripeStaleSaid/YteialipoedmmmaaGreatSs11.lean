/-
  A sector read as a shard, or why it is none.
  Whether a shard is one of a stripe; what is put is read.
  A coder whose blocks are known; where a shard lies.
  A shard read from its drive.
-/
import Derived.Test.YteialipoedmmmaaGreatSs10
set_option linter.unusedSimpArgs false
set_option linter.unusedVariables false
namespace Go.Proofs.YteialipoedmmmaaGreat
open Go.RowKit Go.Cib
attribute [local go_sem] cell_set Later.cell Later.frozen Grw.cell Grw.frozen
theorem setS_below {B : Nat} {w w' : World} (h : Below B w w') {p : Nat} (hp : B ≤ p) (vs : List Value) : Below B w (w'.setCells p 0 vs) := by
  have gen : ∀ (vs : List Value) (o : Nat) (w' : World), Below B w w' → Below B w (w'.setCells p o vs) := by
    intro vs
    induction vs with
    | nil => intro o w' h; exact h
    | cons v vs ih => intro o w' h; exact ih (o + 1) _ (h.setCell (p := ⟨p, o, none⟩) hp v)
  exact gen vs 0 w' h
def decS (xs : List Nat) : Shd := ⟨unN ((xs.drop 0).take 1), unN ((xs.drop 1).take 1), unN ((xs.drop 2).take 2), unN ((xs.drop 4).take 8), unN ((xs.drop 12).take 2), (xs.drop 16).take 44⟩
def frmB (xs : List Nat) : Bool := kindB (unN ((xs.drop 0).take 1)) && decide (unN ((xs.drop 14).take 2) = 0)
attribute [local go_sem ↓] shut_loadS shut_zeroS shut_buildS shut_storeS shut_loadB shut_storeB
attribute [local go_sem] run_zeroS run_build0 run_build2
set_option maxRecDepth 100000 in
set_option maxHeartbeats 4000000 in
theorem taker_any {w : World} {A : Option Addr} {n c : Nat} : Calls Tryz.prog 109 #[.slice A n c] w fun e w' => e = .returned (.func (.func 124) #[] #[.pointer (some ⟨w.heap.size, 0, none⟩), .pointer (some ⟨w.heap.size + 1, 0, none⟩)]) ∧
    w' = (w.alloc (.cells #[.slice A n c] 24)).alloc (.cells #[.int .i64 0] 3) := by
  go_enter Tryz.func109, Tryz.ntmps109
  go_wp2_with fail
  go_ret
  exact ⟨rfl, rfl⟩
set_option maxRecDepth 100000 in
set_option maxHeartbeats 8000000 in
theorem shget_any {w : World} {c : Nat} {A : Option Addr} {S : Nat → Prop} {xs : List Nat} (R : RdL ByR 1 S w A 64 xs) (hc : 64 ≤ c) :
    Calls Tryz.prog 90 #[.slice A 64 c] w fun e w' => Below w.heap.size w w' ∧
    ((¬ okSum xs ∧ e = .returned (.tuple #[.agg (shC sh0), .int .i64 4])) ∨
     (okSum xs ∧ frmB xs = false ∧ e = .returned (.tuple #[.agg (shC sh0), .int .i64 3])) ∨
     (okSum xs ∧ frmB xs = true ∧ e = .returned (.tuple #[.agg (shC (decS xs)), .int .i64 0]))) := by
  have HR := Lib.hid R
  have HX := Lib.hid R.1
  have HBY := Lib.hid (by_byt R)
  clear R
  have q9 : ((64 : Int) != 64) = false := by decide
  go_enter Tryz.func90, Tryz.ntmps90
  go_wp2_with fail
  have b0 := BoxAt.new w (shC sh0) 95
  have hb0 : Below w.heap.size w (w.alloc (.cells (shC sh0) 95)) := (Below.refl _ _).alloc (Nat.le_refl _) _
  obtain ⟨wA, hwA⟩ : ∃ wA, w.alloc (.cells (shC sh0) 95) = wA := ⟨_, rfl⟩
  rw [hwA] at b0 hb0 ⊢
  clear hwA
  obtain ⟨p, hp⟩ : ∃ p, w.heap.size = p := ⟨_, rfl⟩
  rw [hp] at b0 ⊢
  have hlp := b0.lt
  have hrA := HR.out.below ByR.stable hb0
  have hn4 := nget_any (c := c) (a := 60) (k := 4) hrA hc (by omega) (by omega) (by omega) (by omega)
  have hcs := csum_any (cp := c) (RdL.take hrA (k := 60) (by omega)) (by omega)
  have hoi := okSum_un HX.out HBY.out
  have hl4 := unN_lt (l := (xs.drop 60).take 4) fun x hx => HBY.out x (List.mem_of_mem_drop (List.mem_of_mem_take hx))
  rw [show ((xs.drop 60).take 4).length = 4 by rw [List.length_take, List.length_drop, HX.out]; rfl] at hl4
  have hcl := csum_lt (l := xs.take 60) fun x hx => HBY.out x (List.mem_of_mem_take hx)
  obtain ⟨n4, hn4e⟩ : ∃ y, unN ((xs.drop 60).take 4) = y := ⟨_, rfl⟩
  obtain ⟨cs, hcse⟩ : ∃ y, csum (xs.take 60) = y := ⟨_, rfl⟩
  rw [hn4e] at hn4 hoi hl4
  rw [hcse] at hcs hoi hcl
  have q0 : (0 : Int) ≤ (n4 : Int) := Int.natCast_nonneg _
  have q1 : (n4 : Int) < 4294967296 := by omega
  have q2 : (n4 : Int) % 4294967296 = (n4 : Int) := by omega
  push_cast at hn4
  have hsl := fun w => piece_pre sl_by (A := A) (N := 64) (c := c) (k := 60) (by omega) w
  push_cast at hsl
  refine hn4.mono ?_
  clear hn4
  rintro e w1 ⟨rfl, hw1⟩
  rw [hw1]
  clear hw1
  go_wp2_with fail
  refine hcs.mono ?_
  clear hcs
  rintro e w1 ⟨rfl, hw1⟩
  rw [hw1]
  clear hw1
  by_cases hok : n4 = cs
  · have q3 : ((n4 : Int) != (cs : Int)) = false := by rw [hok]; simp
    have HOK := Lib.hid (hoi.2 hok)
    clear hok hoi hn4e hcse hl4 hcl
    go_wp2_with fail
    refine taker_any.mono ?_
    rintro e w1 ⟨rfl, hw1⟩
    have bB := (BoxAt.new wA #[.slice A 64 c] 24).alloc (.cells #[.int .i64 0] 3)
    have bT := BoxAt.new (wA.alloc (.cells #[.slice A 64 c] 24)) #[.int .i64 ((0 : Nat) : Int)] 3
    rw [World.size_alloc] at bT
    have bP := (b0.alloc (.cells #[.slice A 64 c] 24)).alloc (.cells #[.int .i64 0] 3)
    have hb1 := (hb0.alloc (by omega) (.cells #[.slice A 64 c] 24)).alloc (by rw [World.size_alloc]; omega) (.cells #[.int .i64 0] 3)
    change BoxAt ((wA.alloc (.cells #[.slice A 64 c] 24)).alloc (.cells #[.int .i64 0] 3)) _ _ at bT
    rw [← hw1] at bB bT bP hb1
    clear hw1
    obtain ⟨B, hBe⟩ : ∃ B, wA.heap.size = B := ⟨_, rfl⟩
    rw [hBe] at bB bT ⊢
    have hBp : p < B := by omega
    have t1 := take_any (k := 1) (a := 0) bB bT (HR.out.below ByR.stable hb1) hc (by omega) (by omega) (by omega)
    obtain ⟨u1, hu1⟩ : ∃ u, unN ((xs.drop 0).take 1) = u := ⟨_, rfl⟩
    have l1 : u1 < 2 ^ (8 * 1) := by
      have h := unN_lt (l := (xs.drop 0).take 1) fun x hx => HBY.out x (List.mem_of_mem_drop (List.mem_of_mem_take hx))
      rw [show ((xs.drop 0).take 1).length = 1 by rw [List.length_take, List.length_drop, HX.out]; rfl, hu1] at h
      exact h
    have U1 := Lib.hid hu1
    rw [hu1] at t1
    clear hu1
    have m1 : (u1 : Int) % 256 = (u1 : Int) := by omega
    have z1 : (0 : Int) ≤ (u1 : Int) := Int.natCast_nonneg _
    go_wp2_with fail
    refine t1.mono ?_
    clear t1
    rintro e w2 ⟨rfl, hw⟩
    replace bB := bB.set_other (p := ⟨B + 1, 0, none⟩) (by show B ≠ B + 1; omega) (.int .i64 ((0 + 1 : Nat) : Int))
    replace bT := bT.set 0 (.int .i64 ((0 + 1 : Nat) : Int))
    replace bP := bP.set_other (p := ⟨B + 1, 0, none⟩) (by show p ≠ B + 1; omega) (.int .i64 ((0 + 1 : Nat) : Int))
    replace hb1 := hb1.setCell (p := ⟨B + 1, 0, none⟩) (by show w.heap.size ≤ B + 1; omega) (.int .i64 ((0 + 1 : Nat) : Int))
    rw [← hw] at bB bT bP hb1
    change BoxAt _ (B + 1) #[.int .i64 ((0 + 1 : Nat) : Int)] at bT
    clear hw
    have t2 := take_any (k := 1) (a := 1) bB bT (HR.out.below ByR.stable hb1) hc (by omega) (by omega) (by omega)
    obtain ⟨u2, hu2⟩ : ∃ u, unN ((xs.drop 1).take 1) = u := ⟨_, rfl⟩
    have l2 : u2 < 2 ^ (8 * 1) := by
      have h := unN_lt (l := (xs.drop 1).take 1) fun x hx => HBY.out x (List.mem_of_mem_drop (List.mem_of_mem_take hx))
      rw [show ((xs.drop 1).take 1).length = 1 by rw [List.length_take, List.length_drop, HX.out]; rfl, hu2] at h
      exact h
    have U2 := Lib.hid hu2
    rw [hu2] at t2
    clear hu2
    have m2 : (u2 : Int) % 256 = (u2 : Int) := by omega
    have z2 : (0 : Int) ≤ (u2 : Int) := Int.natCast_nonneg _
    go_wp2_with fail
    refine t2.mono ?_
    clear t2
    rintro e w3 ⟨rfl, hw⟩
    replace bB := bB.set_other (p := ⟨B + 1, 0, none⟩) (by show B ≠ B + 1; omega) (.int .i64 ((1 + 1 : Nat) : Int))
    replace bT := bT.set 0 (.int .i64 ((1 + 1 : Nat) : Int))
    replace bP := bP.set_other (p := ⟨B + 1, 0, none⟩) (by show p ≠ B + 1; omega) (.int .i64 ((1 + 1 : Nat) : Int))
    replace hb1 := hb1.setCell (p := ⟨B + 1, 0, none⟩) (by show w.heap.size ≤ B + 1; omega) (.int .i64 ((1 + 1 : Nat) : Int))
    rw [← hw] at bB bT bP hb1
    change BoxAt _ (B + 1) #[.int .i64 ((1 + 1 : Nat) : Int)] at bT
    clear hw
    have hst4 := run_storeS (y := ⟨u1, u2, 0, 0, 0, z44⟩) (BoxAt.new w3 (shC sh0) 95) sh0_ok.l z44_len
    have bQ := shC_set (y := ⟨u1, u2, 0, 0, 0, z44⟩) (BoxAt.new w3 (shC sh0) 95) sh0_ok.l z44_len
    have lB := bB.lt
    have lT := bT.lt
    replace bB := (bB.alloc (.cells (shC sh0) 95)).keep (setCells_other _ w3.heap.size 0 B (shV ⟨u1, u2, 0, 0, 0, z44⟩) (by omega))
    replace bT := (bT.alloc (.cells (shC sh0) 95)).keep (setCells_other _ w3.heap.size 0 (B + 1) (shV ⟨u1, u2, 0, 0, 0, z44⟩) (by omega))
    replace bP := (bP.alloc (.cells (shC sh0) 95)).keep (setCells_other _ w3.heap.size 0 p (shV ⟨u1, u2, 0, 0, 0, z44⟩) (by omega))
    have hsz3 := hb1.size
    replace hb1 := setS_below (hb1.alloc hsz3 (.cells (shC sh0) 95)) (p := w3.heap.size) hsz3 (shV ⟨u1, u2, 0, 0, 0, z44⟩)
    obtain ⟨W4, hW4⟩ : ∃ W, (w3.alloc (.cells (shC sh0) 95)).setCells w3.heap.size 0 (shV ⟨u1, u2, 0, 0, 0, z44⟩) = W := ⟨_, rfl⟩
    rw [hW4] at hst4 bB bT bP bQ hb1
    obtain ⟨q, hq⟩ : ∃ q, w3.heap.size = q := ⟨_, rfl⟩
    have HST := Lib.hid hq
    rw [hq] at bQ hst4
    have hqB : B + 1 < q := by omega
    have t3 := take_any (k := 2) (a := 2) bB bT (HR.out.below ByR.stable hb1) hc (by omega) (by omega) (by omega)
    obtain ⟨u3, hu3⟩ : ∃ u, unN ((xs.drop 2).take 2) = u := ⟨_, rfl⟩
    have l3 : u3 < 2 ^ (8 * 2) := by
      have h := unN_lt (l := (xs.drop 2).take 2) fun x hx => HBY.out x (List.mem_of_mem_drop (List.mem_of_mem_take hx))
      rw [show ((xs.drop 2).take 2).length = 2 by rw [List.length_take, List.length_drop, HX.out]; rfl, hu3] at h
      exact h
    have U3 := Lib.hid hu3
    rw [hu3] at t3
    clear hu3
    have m3 : (u3 : Int) % 65536 = (u3 : Int) := by omega
    have z3 : (0 : Int) ≤ (u3 : Int) := Int.natCast_nonneg _
    go_wp2_with fail
    clear hst4 hW4
    refine t3.mono ?_
    clear t3
    rintro e w4 ⟨rfl, hw⟩
    replace bB := bB.set_other (p := ⟨B + 1, 0, none⟩) (by show B ≠ B + 1; omega) (.int .i64 ((2 + 2 : Nat) : Int))
    replace bT := bT.set 0 (.int .i64 ((2 + 2 : Nat) : Int))
    replace bP := bP.set_other (p := ⟨B + 1, 0, none⟩) (by show p ≠ B + 1; omega) (.int .i64 ((2 + 2 : Nat) : Int))
    replace bQ := bQ.set_other (p := ⟨B + 1, 0, none⟩) (by show q ≠ B + 1; omega) (.int .i64 ((2 + 2 : Nat) : Int))
    replace hb1 := hb1.setCell (p := ⟨B + 1, 0, none⟩) (by show w.heap.size ≤ B + 1; omega) (.int .i64 ((2 + 2 : Nat) : Int))
    rw [← hw] at bB bT bP bQ hb1
    change BoxAt _ (B + 1) #[.int .i64 ((2 + 2 : Nat) : Int)] at bT
    clear hw
    have t4 := take_any (k := 8) (a := 4) bB bT (HR.out.below ByR.stable hb1) hc (by omega) (by omega) (by omega)
    obtain ⟨u4, hu4⟩ : ∃ u, unN ((xs.drop 4).take 8) = u := ⟨_, rfl⟩
    have l4 : u4 < 2 ^ (8 * 8) := by
      have h := unN_lt (l := (xs.drop 4).take 8) fun x hx => HBY.out x (List.mem_of_mem_drop (List.mem_of_mem_take hx))
      rw [show ((xs.drop 4).take 8).length = 8 by rw [List.length_take, List.length_drop, HX.out]; rfl, hu4] at h
      exact h
    have U4 := Lib.hid hu4
    have L4 := Lib.hid l4
    clear l4
    rw [hu4] at t4
    clear hu4
    go_wp2_with fail
    refine t4.mono ?_
    clear t4
    rintro e w5 ⟨rfl, hw⟩
    replace bB := bB.set_other (p := ⟨B + 1, 0, none⟩) (by show B ≠ B + 1; omega) (.int .i64 ((4 + 8 : Nat) : Int))
    replace bT := bT.set 0 (.int .i64 ((4 + 8 : Nat) : Int))
    replace bP := bP.set_other (p := ⟨B + 1, 0, none⟩) (by show p ≠ B + 1; omega) (.int .i64 ((4 + 8 : Nat) : Int))
    replace bQ := bQ.set_other (p := ⟨B + 1, 0, none⟩) (by show q ≠ B + 1; omega) (.int .i64 ((4 + 8 : Nat) : Int))
    replace hb1 := hb1.setCell (p := ⟨B + 1, 0, none⟩) (by show w.heap.size ≤ B + 1; omega) (.int .i64 ((4 + 8 : Nat) : Int))
    rw [← hw] at bB bT bP bQ hb1
    change BoxAt _ (B + 1) #[.int .i64 ((4 + 8 : Nat) : Int)] at bT
    clear hw
    have c2 := (bQ.cell 2).trans (shC_2 _)
    have c3 := (bQ.cell 3).trans (shC_3 _)
    have f2 := bQ.frozen 2
    have f3 := bQ.frozen 3
    replace bB := bB.set_other (p := ⟨q, 2, none⟩) (by show B ≠ q; omega) (.int .u16 (u3 : Int))
    replace bT := bT.set_other (p := ⟨q, 2, none⟩) (by show B + 1 ≠ q; omega) (.int .u16 (u3 : Int))
    replace bP := bP.set_other (p := ⟨q, 2, none⟩) (by show p ≠ q; omega) (.int .u16 (u3 : Int))
    replace bQ := bQ.set 2 (.int .u16 (u3 : Int))
    replace hb1 := hb1.setCell (p := ⟨q, 2, none⟩) (by show w.heap.size ≤ q; omega) (.int .u16 (u3 : Int))
    replace bB := bB.set_other (p := ⟨q, 3, none⟩) (by show B ≠ q; omega) (.int .u64 (u4 : Int))
    replace bT := bT.set_other (p := ⟨q, 3, none⟩) (by show B + 1 ≠ q; omega) (.int .u64 (u4 : Int))
    replace bP := bP.set_other (p := ⟨q, 3, none⟩) (by show p ≠ q; omega) (.int .u64 (u4 : Int))
    replace bQ := bQ.set 3 (.int .u64 (u4 : Int))
    replace hb1 := hb1.setCell (p := ⟨q, 3, none⟩) (by show w.heap.size ≤ q; omega) (.int .u64 (u4 : Int))
    rw [shC_23] at bQ
    obtain ⟨W6, hW6⟩ : ∃ W, (w5.setCell ⟨q, 2, none⟩ (.int .u16 (u3 : Int))).setCell ⟨q, 3, none⟩ (.int .u64 (u4 : Int)) = W := ⟨_, rfl⟩
    rw [hW6] at bB bT bP bQ hb1
    have t5 := take_any (k := 2) (a := 12) bB bT (HR.out.below ByR.stable hb1) hc (by omega) (by omega) (by omega)
    obtain ⟨u5, hu5⟩ : ∃ u, unN ((xs.drop 12).take 2) = u := ⟨_, rfl⟩
    have l5 : u5 < 2 ^ (8 * 2) := by
      have h := unN_lt (l := (xs.drop 12).take 2) fun x hx => HBY.out x (List.mem_of_mem_drop (List.mem_of_mem_take hx))
      rw [show ((xs.drop 12).take 2).length = 2 by rw [List.length_take, List.length_drop, HX.out]; rfl, hu5] at h
      exact h
    have U5 := Lib.hid hu5
    rw [hu5] at t5
    clear hu5
    have m5 : (u5 : Int) % 65536 = (u5 : Int) := by omega
    have z5 : (0 : Int) ≤ (u5 : Int) := Int.natCast_nonneg _
    clear l1 l2 l3 l5
    go_wp2_with fail
    clear hW6 c2 c3 f2 f3
    refine t5.mono ?_
    clear t5
    rintro e w6 ⟨rfl, hw⟩
    replace bB := bB.set_other (p := ⟨B + 1, 0, none⟩) (by show B ≠ B + 1; omega) (.int .i64 ((12 + 2 : Nat) : Int))
    replace bT := bT.set 0 (.int .i64 ((12 + 2 : Nat) : Int))
    replace bP := bP.set_other (p := ⟨B + 1, 0, none⟩) (by show p ≠ B + 1; omega) (.int .i64 ((12 + 2 : Nat) : Int))
    replace bQ := bQ.set_other (p := ⟨B + 1, 0, none⟩) (by show q ≠ B + 1; omega) (.int .i64 ((12 + 2 : Nat) : Int))
    replace hb1 := hb1.setCell (p := ⟨B + 1, 0, none⟩) (by show w.heap.size ≤ B + 1; omega) (.int .i64 ((12 + 2 : Nat) : Int))
    rw [← hw] at bB bT bP bQ hb1
    change BoxAt _ (B + 1) #[.int .i64 ((12 + 2 : Nat) : Int)] at bT
    clear hw
    have c4 := (bQ.cell 4).trans (shC_4 _)
    have f4 := bQ.frozen 4
    replace bB := bB.set_other (p := ⟨q, 4, none⟩) (by show B ≠ q; omega) (.int .u16 (u5 : Int))
    replace bT := bT.set_other (p := ⟨q, 4, none⟩) (by show B + 1 ≠ q; omega) (.int .u16 (u5 : Int))
    replace bP := bP.set_other (p := ⟨q, 4, none⟩) (by show p ≠ q; omega) (.int .u16 (u5 : Int))
    replace bQ := bQ.set 4 (.int .u16 (u5 : Int))
    replace hb1 := hb1.setCell (p := ⟨q, 4, none⟩) (by show w.heap.size ≤ q; omega) (.int .u16 (u5 : Int))
    rw [shC_44] at bQ
    obtain ⟨W7, hW7⟩ : ∃ W, w6.setCell ⟨q, 4, none⟩ (.int .u16 (u5 : Int)) = W := ⟨_, rfl⟩
    rw [hW7] at bB bT bP bQ hb1
    have c0 := (bQ.cell 0).trans (shC_0 _)
    have hkd := kind_any (w := W7) (k := u1)
    go_wp2_with fail
    refine hkd.mono ?_
    rintro e w8 ⟨rfl, hw8⟩
    rw [hw8]
    clear hw8 hkd hW7 c4 f4
    obtain ⟨K, hK⟩ : ∃ K, kindB u1 = K := ⟨_, rfl⟩
    have HK := Lib.hid hK
    rw [hK]
    clear hK
    cases K with
    | false =>
      have HFB := Lib.hid (show frmB xs = false by unfold frmB; rw [U1.out, HK.out]; rfl)
      have hst := run_storeS (y := sh0) bP sh0_ok.l sh0_ok.l
      have hb2 := shC_set (y := sh0) bP sh0_ok.l sh0_ok.l
      go_wp2_with fail
      have hld := run_loadS hb2 sh0_ok.l
      refine bodyPost_ret (v := .tuple #[.agg (shC sh0), .int .i64 3]) (results_cellS Tryz.results90 _ _ _ _ _ rfl rfl hld) rfl ?_
      exact ⟨setS_below hb1 (by omega) _, .inr (.inl ⟨HOK.out, HFB.out, rfl⟩)⟩
    | true =>
      have t6 := take_any (k := 2) (a := 14) bB bT (HR.out.below ByR.stable hb1) hc (by omega) (by omega) (by omega)
      obtain ⟨u6, hu6⟩ : ∃ u, unN ((xs.drop 14).take 2) = u := ⟨_, rfl⟩
      have U6 := Lib.hid hu6
      rw [hu6] at t6
      clear hu6
      go_wp2_with fail
      refine t6.mono ?_
      clear t6
      rintro e w9 ⟨rfl, hw⟩
      replace bB := bB.set_other (p := ⟨B + 1, 0, none⟩) (by show B ≠ B + 1; omega) (.int .i64 ((14 + 2 : Nat) : Int))
      replace bT := bT.set 0 (.int .i64 ((14 + 2 : Nat) : Int))
      replace bP := bP.set_other (p := ⟨B + 1, 0, none⟩) (by show p ≠ B + 1; omega) (.int .i64 ((14 + 2 : Nat) : Int))
      replace bQ := bQ.set_other (p := ⟨B + 1, 0, none⟩) (by show q ≠ B + 1; omega) (.int .i64 ((14 + 2 : Nat) : Int))
      replace hb1 := hb1.setCell (p := ⟨B + 1, 0, none⟩) (by show w.heap.size ≤ B + 1; omega) (.int .i64 ((14 + 2 : Nat) : Int))
      rw [← hw] at bB bT bP bQ hb1
      clear hw
      by_cases h6 : u6 = 0
      · have HFB := Lib.hid (show frmB xs = true by unfold frmB; rw [U1.out, HK.out, U6.out]; simp [h6])
        have q6 : ((u6 : Int) != 0) = false := by rw [h6]; rfl
        clear h6
        obtain ⟨ba, oa, rfl, _, _⟩ := HR.out.addr (k := 0) (by omega)
        have hr9 := HR.out.below ByR.stable hb1
        have hrd := RdL.take (RdL.drop hr9 (k := 16) (by omega)) (k := 44) (by omega)
        rw [Nat.mul_one] at hrd
        obtain ⟨ys, hys⟩ : ∃ ys, (xs.drop 16).take 44 = ys := ⟨_, rfl⟩
        have HYS := Lib.hid hys
        rw [hys] at hrd
        have hyl : ys.length = 44 := hrd.1
        have hlb := run_loadB hrd
        have hsb := run_storeB bQ z44_len hyl
        replace bQ := shC_body bQ z44_len hyl
        replace bP := bP.keep (setCells_other _ q 5 p (ys.map fun b : Nat => Value.int .u8 (b : Int)) (by omega))
        have hb10 : Below w.heap.size w (w9.setCells q 5 (ys.map fun b : Nat => Value.int .u8 (b : Int))) := ((Keep.of_below (F := fun _ => False) hb1).trans (G := (· = q)) (setCells_keep _ _ _ _) (fun k hk hlt => by subst hk; omega)).below (Nat.le_refl _) (fun _ h => h.elim)
        obtain ⟨W10, hW10⟩ : ∃ W, w9.setCells q 5 (ys.map fun b : Nat => Value.int .u8 (b : Int)) = W := ⟨_, rfl⟩
        rw [hW10] at hsb bQ bP hb10
        have hlq := run_loadS bQ hyl
        have hst := run_storeS (y := ⟨u1, u2, u3, u4, u5, ys⟩) bP sh0_ok.l hyl
        have hb2 := shC_set (y := ⟨u1, u2, u3, u4, u5, ys⟩) bP sh0_ok.l hyl
        have hld := run_loadS hb2 hyl
        have haa : ∀ w, (Instr.arrayAt 93 (.slice (some ⟨ba, oa + 16, none⟩) 44 (c - 16))).run Tryz.prog w = .ok (.pointer (some ⟨ba, oa + 16, none⟩)) w := fun w => run_arrayAt w _ _ 44 _ _ _ bodyRow (Nat.le_refl _)
        have hdc : decS xs = ⟨u1, u2, u3, u4, u5, ys⟩ := by unfold decS; rw [U1.out, U2.out, U3.out, U4.out, U5.out, HYS.out]
        have HDC := Lib.hid hdc
        clear hr9 hrd hys hW10 hdc
        go_wp2_with fail
        refine bodyPost_ret (v := .tuple #[.agg (shC ⟨u1, u2, u3, u4, u5, ys⟩), .int .i64 0]) (results_cellS Tryz.results90 _ _ _ _ _ rfl rfl hld) rfl ?_
        refine ⟨setS_below hb10 (by omega) _, .inr (.inr ⟨HOK.out, HFB.out, ?_⟩)⟩
        rw [HDC.out]
      · have HFB := Lib.hid (show frmB xs = false by unfold frmB; rw [U1.out, HK.out, U6.out]; simp [h6])
        have q6 : ((u6 : Int) != 0) = true := by simp; omega
        clear h6
        have hst := run_storeS (y := sh0) bP sh0_ok.l sh0_ok.l
        have hb2 := shC_set (y := sh0) bP sh0_ok.l sh0_ok.l
        go_wp2_with fail
        have hld := run_loadS hb2 sh0_ok.l
        refine bodyPost_ret (v := .tuple #[.agg (shC sh0), .int .i64 3]) (results_cellS Tryz.results90 _ _ _ _ _ rfl rfl hld) rfl ?_
        exact ⟨setS_below hb1 (by omega) _, .inr (.inl ⟨HOK.out, HFB.out, rfl⟩)⟩
  · have q3 : ((n4 : Int) != (cs : Int)) = true := by simp; omega
    have HOK := Lib.hid (fun h => hok (hoi.1 h))
    have hst := run_storeS (y := sh0) b0 sh0_ok.l sh0_ok.l
    have hb2 := shC_set (y := sh0) b0 sh0_ok.l sh0_ok.l
    clear hok hoi hn4e hcse hl4 hcl
    go_wp2_with fail
    have hld := run_loadS hb2 sh0_ok.l
    refine bodyPost_ret (v := .tuple #[.agg (shC sh0), .int .i64 4]) (results_cellS Tryz.results90 _ _ _ _ _ rfl rfl hld) rfl ?_
    exact ⟨setS_below hb0 (by omega) _, .inl ⟨HOK.out, rfl⟩⟩
end Go.Proofs.YteialipoedmmmaaGreat

set_option linter.unusedSimpArgs false
set_option linter.unusedVariables false
namespace Go.Proofs.YteialipoedmmmaaGreat
open Go.RowKit Go.Cib
attribute [local go_sem] cell_set Later.cell Later.frozen Grw.cell Grw.frozen
structure Ref where
  kind : Nat
  place : Nat
  gen : Nat
def refC (r : Ref) : Array Value := #[.int .u8 (r.kind : Int), .int .i64 (r.place : Int), .int .u64 (r.gen : Int)]
def isB (x : Shd) (r : Ref) (i : Nat) : Bool := decide (x.kind = r.kind) && decide (x.place = r.place) && decide (x.gen = r.gen) && decide (x.index = i)
theorem unN_le (k : Nat) : ∀ v, v < 2 ^ (8 * k) → unN (leN k v) = v := by
  induction k with
  | zero => intro v h; simp at h; subst h; rfl
  | succ k ih =>
    intro v h
    rw [leN_next, unN_snoc, leN_len]
    have e : unN (leN k v) = v % 2 ^ (8 * k) := by
      have h2 := ih (v % 2 ^ (8 * k)) (Nat.mod_lt _ (Nat.two_pow_pos _))
      rw [← h2]
      congr 1
      unfold leN
      refine List.map_congr_left fun i hi => ?_
      have hik := List.mem_range.1 hi
      have e1 : v % 2 ^ (8 * k) / 2 ^ (8 * i) % 2 ^ 8 = v / 2 ^ (8 * i) % 2 ^ 8 := by
        obtain ⟨d, hd⟩ : ∃ d, 8 * k = 8 * i + (8 + d) := ⟨8 * k - 8 * i - 8, by omega⟩
        rw [hd, Nat.pow_add, Nat.mod_mul_right_div_self, Nat.pow_add, Nat.mod_mul_right_mod]
      exact e1.symm
    have h3 : v / 2 ^ (8 * k) < 256 := by
      refine Nat.div_lt_of_lt_mul ?_
      rw [show 8 * (k + 1) = 8 * k + 8 by omega, Nat.pow_add] at h
      exact h
    rw [e, Nat.mod_eq_of_lt h3, Nat.mod_add_div]
theorem sncS_len {x : Shd} (h : x.body.length = 44) : (sncS x).length = 64 := by unfold sncS snc60; rw [List.length_append, List.length_append, sncH_len, h, leN_len]
theorem le4_leN (n : Nat) : le4 n = leN 4 n := by unfold le4 leN; simp [List.range, List.range.loop]
theorem sncS_sum {x : Shd} (h : x.body.length = 44) : okSum (sncS x) := by
  have hl : (snc60 x).length = 60 := by unfold snc60; rw [List.length_append, sncH_len, h]
  unfold okSum sncS
  rw [List.take_left' hl, List.drop_left' hl, le4_leN]
theorem mid_of {L A B C : List Nat} {a b : Nat} (h : L = A ++ (B ++ C)) (ha : A.length = a) (hb : B.length = b) : (L.drop a).take b = B := by
  subst h; subst ha; subst hb
  rw [List.drop_left, List.take_left]
/-- What is put is read. -/
theorem dec_snc {x : Shd} (hx : x.ok) : decS (sncS x) = x ∧ frmB (sncS x) = kindB x.kind := by
  have e : sncS x = leN 1 x.kind ++ (leN 1 x.index ++ (leN 2 x.place ++ (leN 8 x.gen ++ (leN 2 x.size ++ (leN 2 0 ++ (x.body ++ leN 4 (csum (snc60 x)))))))) := by
    unfold sncS snc60 sncH sncU hdF
    simp [List.append_assoc]
  have t1 : unN (((sncS x).drop 0).take 1) = x.kind := by rw [e, List.drop_zero, List.take_left' (leN_len _ _), unN_le 1 _ hx.k]
  have t2 : unN (((sncS x).drop 1).take 1) = x.index := by rw [mid_of (A := leN 1 x.kind) e (leN_len _ _) (leN_len _ _), unN_le 1 _ hx.i]
  have t3 : unN (((sncS x).drop 2).take 2) = x.place := by
    rw [mid_of (A := leN 1 x.kind ++ leN 1 x.index) (B := leN 2 x.place) (C := leN 8 x.gen ++ (leN 2 x.size ++ (leN 2 0 ++ (x.body ++ leN 4 (csum (snc60 x)))))) (by rw [e]; simp only [List.append_assoc]) (by simp [leN_len]) (leN_len _ _), unN_le 2 _ hx.p]
  have t4 : unN (((sncS x).drop 4).take 8) = x.gen := by
    rw [mid_of (A := leN 1 x.kind ++ leN 1 x.index ++ leN 2 x.place) (B := leN 8 x.gen) (C := leN 2 x.size ++ (leN 2 0 ++ (x.body ++ leN 4 (csum (snc60 x))))) (by rw [e]; simp only [List.append_assoc]) (by simp [leN_len]) (leN_len _ _), unN_le 8 _ hx.g]
  have t5 : unN (((sncS x).drop 12).take 2) = x.size := by
    rw [mid_of (A := leN 1 x.kind ++ leN 1 x.index ++ leN 2 x.place ++ leN 8 x.gen) (B := leN 2 x.size) (C := leN 2 0 ++ (x.body ++ leN 4 (csum (snc60 x)))) (by rw [e]; simp only [List.append_assoc]) (by simp [leN_len]) (leN_len _ _), unN_le 2 _ hx.s]
  have t6 : unN (((sncS x).drop 14).take 2) = 0 := by
    rw [mid_of (A := leN 1 x.kind ++ leN 1 x.index ++ leN 2 x.place ++ leN 8 x.gen ++ leN 2 x.size) (B := leN 2 0) (C := x.body ++ leN 4 (csum (snc60 x))) (by rw [e]; simp only [List.append_assoc]) (by simp [leN_len]) (leN_len _ _), unN_le 2 0 (by decide)]
  have t7 : ((sncS x).drop 16).take 44 = x.body :=
    mid_of (A := leN 1 x.kind ++ leN 1 x.index ++ leN 2 x.place ++ leN 8 x.gen ++ leN 2 x.size ++ leN 2 0) (B := x.body) (C := leN 4 (csum (snc60 x))) (by rw [e]; simp only [List.append_assoc]) (by simp [leN_len]) hx.l
  constructor
  · unfold decS
    rw [t1, t2, t3, t4, t5, t7]
  · unfold frmB
    rw [t1, t6]; simp
set_option maxRecDepth 100000 in
set_option maxHeartbeats 4000000 in
theorem shis_any {w : World} {x : Shd} {r : Ref} {i : Nat} (hx : x.ok) : Calls Tryz.prog 91 #[.agg (shC x), .agg (refC r), .int .i64 (i : Int)] w fun e w' => e = .returned (.bool (isB x r i)) ∧ Below w.heap.size w w' := by
  have c0 := shC_0 x
  have c1 := shC_1 x
  have c2 := shC_2 x
  have c3 := shC_3 x
  have l2 := hx.p
  have l1 := hx.i
  have q2 : (x.place : Int) < 65536 := by omega
  have q3 : (0 : Int) ≤ (x.place : Int) := Int.natCast_nonneg _
  have q4 : (x.index : Int) < 256 := by omega
  have q5 : (0 : Int) ≤ (x.index : Int) := Int.natCast_nonneg _
  clear hx
  unfold refC
  go_enter Tryz.func91, Tryz.ntmps91
  by_cases h1 : x.kind = r.kind
  · have e1 : ((x.kind : Int) == (r.kind : Int)) = true := by rw [h1]; simp
    by_cases h2 : x.place = r.place
    · have e2 : ((x.place : Int) == (r.place : Int)) = true := by rw [h2]; simp
      by_cases h3 : x.gen = r.gen
      · have e3 : ((x.gen : Int) == (r.gen : Int)) = true := by rw [h3]; simp
        by_cases h4 : x.index = i
        · have e4 : ((x.index : Int) == (i : Int)) = true := by rw [h4]; simp
          have HR := Lib.hid (show isB x r i = true by unfold isB; simp [h1, h2, h3, h4])
          clear h1 h2 h3 h4
          go_wp2_with fail
          go_ret
          exact ⟨by rw [HR.out]; rfl, ((Below.refl _ _).alloc (Nat.le_refl _) _).alloc (by rw [World.size_alloc]; omega) _⟩
        · have e4 : ((x.index : Int) == (i : Int)) = false := by simp; omega
          have HR := Lib.hid (show isB x r i = false by unfold isB; simp [h4])
          clear h1 h2 h3 h4
          go_wp2_with fail
          go_ret
          exact ⟨by rw [HR.out]; rfl, ((Below.refl _ _).alloc (Nat.le_refl _) _).alloc (by rw [World.size_alloc]; omega) _⟩
      · have e3 : ((x.gen : Int) == (r.gen : Int)) = false := by simp; omega
        have HR := Lib.hid (show isB x r i = false by unfold isB; simp [h3])
        clear h1 h2 h3
        go_wp2_with fail
        go_ret
        exact ⟨by rw [HR.out]; rfl, ((Below.refl _ _).alloc (Nat.le_refl _) _).alloc (by rw [World.size_alloc]; omega) _⟩
    · have e2 : ((x.place : Int) == (r.place : Int)) = false := by simp; omega
      have HR := Lib.hid (show isB x r i = false by unfold isB; simp [h2])
      clear h1 h2
      go_wp2_with fail
      go_ret
      exact ⟨by rw [HR.out]; rfl, ((Below.refl _ _).alloc (Nat.le_refl _) _).alloc (by rw [World.size_alloc]; omega) _⟩
  · have e1 : ((x.kind : Int) == (r.kind : Int)) = false := by simp; omega
    have HR := Lib.hid (show isB x r i = false by unfold isB; simp [h1])
    clear h1
    go_wp2_with fail
    go_ret
    exact ⟨by rw [HR.out]; rfl, ((Below.refl _ _).alloc (Nat.le_refl _) _).alloc (by rw [World.size_alloc]; omega) _⟩
end Go.Proofs.YteialipoedmmmaaGreat

set_option linter.unusedSimpArgs false
set_option linter.unusedVariables false
namespace Go.Proofs.YteialipoedmmmaaGreat
open Go.RowKit Go.Cib
attribute [local go_sem] cell_set Later.cell Later.frozen Grw.cell Grw.frozen
structure CodF (C : Nat → Prop) (w : World) (cb b k m : Nat) : Prop where
  box : ∃ A c, BoxAt w cb #[.int .i64 (k : Int), .int .i64 (m : Int), .pointer (some ⟨b, 0, none⟩), .int .i64 (m : Int), .int .i64 (k : Int), .slice A (m * k) c] ∧ m * k ≤ c ∧
    RdL ByR 1 C w A (m * k) (flatF (cauF (risF k (k + m)) (risF 0 k)) m k)
  cc : C cb
  cf : C b
  fld : Fld w b
  k1 : 1 ≤ k
  m1 : 1 ≤ m
  km : k + m ≤ 255
theorem CodF.at {C : Nat → Prop} {w : World} {cb b k m : Nat} (h : CodF C w cb b k m) : CodAt w cb b k m := by
  obtain ⟨A, c, h1, h2, h3⟩ := h.box
  exact ⟨⟨A, c, h1, h2, h3.weaken ByR.stable fun _ _ => trivial⟩, h.fld, h.k1, h.m1, h.km⟩
theorem CodF.keep {C G : Nat → Prop} {w w' : World} {cb b k m : Nat} (h : CodF C w cb b k m) (hk : Keep G w w') (hd : ∀ j, C j → ¬ G j) : CodF C w' cb b k m := by
  obtain ⟨A, c, h1, h2, h3⟩ := h.box
  exact ⟨⟨A, c, h1.keeps hk (hd cb h.cc), h2, h3.stable ByR.stable fun j hj hl => ⟨hj, hk.block j hl (hd j hj)⟩⟩, h.cc, h.cf, h.fld.keep (hk.block b h.fld.lt (hd b h.cf)), h.k1, h.m1, h.km⟩
theorem CodF.below {C : Nat → Prop} {w w' : World} {cb b k m : Nat} (h : CodF C w cb b k m) (hk : Below w.heap.size w w') : CodF C w' cb b k m := h.keep (Keep.of_below (F := fun _ => False) hk) (fun _ _ h => h)
set_option maxRecDepth 100000 in
set_option maxHeartbeats 8000000 in
theorem new_anyS {w : World} {b k m base : Nat} (F : FldNew w b) (hbase : base ≤ b) (h1 : 1 ≤ k) (h2 : 1 ≤ m) (hkm : k + m ≤ 255) :
    Calls Tryz.prog 26 #[.pointer (some ⟨b, 0, none⟩), .int .i64 (k : Int), .int .i64 (m : Int)] w fun e w' => ∃ cb, e = .returned (.pointer (some ⟨cb, 0, none⟩)) ∧ CodF (fun j => base ≤ j) w' cb b k m ∧ Keep (· = b) w w' := by
  have q1 : ¬ (k : Int) < 1 := by omega
  have q2 : ¬ (m : Int) < 1 := by omega
  have q3 : ¬ (k : Int) > 255 := by omega
  have q4 : ¬ (m : Int) > 255 - (k : Int) := by omega
  have q5 : IntKind.i64.wrap (255 - (k : Int)) = 255 - (k : Int) := by rw [IntKind.wrap_i64]; omega
  have q6 : IntKind.i64.wrap ((k : Int) + (m : Int)) = ((k + m : Nat) : Int) := by rw [IntKind.wrap_i64]; omega
  have hbl : b < w.heap.size := by obtain ⟨cs, hb, _⟩ := F.ex; exact hb.lt
  have HF := Lib.hid F
  clear F
  have hri1 := fun w' => rising_any (w := w') (a := k) (b := k + m) (by omega) hkm
  have hri2 := fun w' => rising_any (w := w') (a := 0) (b := k) (by omega) (by omega)
  rw [show k + m - k = m by omega] at hri1
  rw [Nat.sub_zero] at hri2
  go_enter Tryz.func26, Tryz.ntmps26
  go_wp2_with fail
  refine (hri1 _).mono ?_
  rintro e w1 ⟨A1, c1, rfl, hc1, r1, t1⟩
  go_wp2_with fail
  refine (hri2 _).mono ?_
  rintro e w2 ⟨A2, c2, rfl, hc2, r2, t2⟩
  go_wp2_with fail
  have t12 := t1.trans (t2.mono t1.size)
  have hF2 : FldNew w2 b := by
    obtain ⟨cs, h5, h6⟩ := HF.out.ex
    exact ⟨cs, h5.below t12, h6⟩
  have r1' := r1.below ByR.stable t2
  have hsz := t1.size
  refine (cauchy_new (S := fun j => w.heap.size ≤ j) hF2 r1' (r2.weaken ByR.stable (fun j hj => Nat.le_trans hsz hj)) (by omega) h2 (by omega) h1 (by omega) hc1 hc2 (risF_nodup k m)).mono ?_
  rintro e w3 ⟨A, c, rfl, hc, hr, hF3, hk3⟩
  have HR3 := Lib.hid hr
  have HF3 := Lib.hid hF3
  have HK3 := Lib.hid ((Keep.of_below (F := (· = b)) t12).trans hk3 (fun _ h _ => h))
  have hs13 : w.heap.size ≤ w3.heap.size := HK3.out.size
  have hs12 : w.heap.size ≤ w2.heap.size := Nat.le_trans hsz t2.size
  clear hri1 hri2 r1 t1 r2 t2 t12 hF2 r1' hr hF3 hk3
  go_wp2_with fail
  go_ret
  have hal : Below w3.heap.size w3 ((w3.alloc (.cells #[.int .i64 (m : Int), .int .i64 (k : Int), .slice A (m * k) c] 98)).alloc (.cells #[.int .i64 (k : Int), .int .i64 (m : Int), .pointer (some ⟨b, 0, none⟩), .int .i64 (m : Int), .int .i64 (k : Int), .slice A (m * k) c] 105)) := (by repeat (first | (with_reducible exact Below.refl _ _) | (with_reducible assumption) | (with_reducible refine Below.drew ?_) | (with_reducible refine Below.setCell ?_ ?_ _) | (with_reducible refine Below.alloc ?_ ?_ _) | (with_reducible refine Below.later ?_ ?_ _) | (first | (with_reducible exact Nat.le_refl _) | omega | (simp only [World.size_alloc, World.size_setCell, World.size_drew] <;> omega))))
  have hbx := BoxAt.new (w3.alloc (.cells #[.int .i64 (m : Int), .int .i64 (k : Int), .slice A (m * k) c] 98)) #[.int .i64 (k : Int), .int .i64 (m : Int), .pointer (some ⟨b, 0, none⟩), .int .i64 (m : Int), .int .i64 (k : Int), .slice A (m * k) c] 105
  rw [World.size_alloc] at hbx
  exact ⟨w3.heap.size + 1, rfl, ⟨⟨A, c, hbx, hc, (HR3.out.below ByR.stable hal).weaken ByR.stable fun j hj => by have h9 : w2.heap.size ≤ j := hj; show base ≤ j; omega⟩, (by show base ≤ w3.heap.size + 1; omega), hbase, HF3.out.below hal, h1, h2, hkm⟩, (HK3.out.alloc _).alloc _⟩
def homeN (n place i : Nat) : Nat := (place % n + i % n) % n
set_option maxRecDepth 100000 in
set_option maxHeartbeats 4000000 in
theorem home_any {w : World} {n place i : Nat} (hn : 1 ≤ n) (hn2 : n ≤ 1000) : Calls Tryz.prog 23 #[.int .i64 (n : Int), .int .i64 (place : Int), .int .i64 (i : Int)] w fun e w' => e = .returned (.int .i64 (homeN n place i : Int)) ∧ Below w.heap.size w w' := by
  have q0 : ¬ (n : Int) < 1 := by omega
  have q1 : ¬ (place : Int) < 0 := by omega
  have q2 : ¬ (i : Int) < 0 := by omega
  have q3 : ¬ n = 0 := by omega
  have q31 : ((n : Int) == 0) = false := by simp; omega
  have t1 : (place : Int).tmod (n : Int) = ((place % n : Nat) : Int) := by rw [Int.tmod_eq_emod_of_nonneg (Int.natCast_nonneg _)]; push_cast; rfl
  have t2 : (i : Int).tmod (n : Int) = ((i % n : Nat) : Int) := by rw [Int.tmod_eq_emod_of_nonneg (Int.natCast_nonneg _)]; push_cast; rfl
  have l1 : place % n < n := Nat.mod_lt _ (by omega)
  have l2 : i % n < n := Nat.mod_lt _ (by omega)
  obtain ⟨u, hu⟩ : ∃ u, place % n = u := ⟨_, rfl⟩
  obtain ⟨v, hv⟩ : ∃ v, i % n = v := ⟨_, rfl⟩
  rw [hu] at t1 l1
  rw [hv] at t2 l2
  have t3 : ((u : Int) + (v : Int)).tmod (n : Int) = (((u + v) % n : Nat) : Int) := by rw [show (u : Int) + (v : Int) = ((u + v : Nat) : Int) by push_cast; rfl, Int.tmod_eq_emod_of_nonneg (Int.natCast_nonneg _)]; push_cast; rfl
  have q4 : IntKind.i64.wrap ((u : Int) + (v : Int)) = (u : Int) + (v : Int) := by rw [IntKind.wrap_i64]; omega
  have HH := Lib.hid (show homeN n place i = (u + v) % n by unfold homeN; rw [hu, hv])
  obtain ⟨x, hx⟩ : ∃ x, (u + v) % n = x := ⟨_, rfl⟩
  rw [hx] at t3 HH
  clear hu hv hx
  go_enter Tryz.func23, Tryz.ntmps23
  go_wp2_with fail
  refine wp_region_held_drew (S := fun _ => True) (by kernel_rfl) (trivial) (fun hHeld => ?_)
  refine wpAnyH_take (i := 0) (v := ?_) rfl (by kernel_rfl) (by kernel_rfl) (by kernel_rfl) (fun _ _ _ h => h) (Or.inl ⟨by first | kernel_rfl | rfl, ?_⟩) (by assumption) ?_
  rotate_left
  · (intro wq hSw; (try dsimp only at hSw); (try simp (maxSteps := 2000000) only [List.getElem_toArray, List.getElem_cons_succ, List.getElem_cons_zero]); go_simp); try with_reducible rfl
  try simp (maxSteps := 2000000) only [List.getElem_toArray, List.getElem_cons_succ, List.getElem_cons_zero, Act.put, List.setIfInBounds_toArray, List.set_cons_zero, List.set_cons_succ]
  refine wpAnyH_take (i := 1) (v := ?_) rfl (by kernel_rfl) (by kernel_rfl) (by kernel_rfl) (fun _ _ _ h => h) (Or.inl ⟨by first | kernel_rfl | rfl, ?_⟩) (by assumption) ?_
  rotate_left
  · (intro wq hSw; (try dsimp only at hSw); (try simp (maxSteps := 2000000) only [List.getElem_toArray, List.getElem_cons_succ, List.getElem_cons_zero]); go_simp); try with_reducible rfl
  try simp (maxSteps := 2000000) only [List.getElem_toArray, List.getElem_cons_succ, List.getElem_cons_zero, Act.put, List.setIfInBounds_toArray, List.set_cons_zero, List.set_cons_succ]
  refine wpAnyH_take (i := 2) (v := ?_) rfl (by kernel_rfl) (by kernel_rfl) (by kernel_rfl) (fun _ _ _ h => h) (Or.inl ⟨by first | kernel_rfl | rfl, ?_⟩) (by assumption) ?_
  rotate_left
  · (intro wq hSw; (try dsimp only at hSw); (try simp (maxSteps := 2000000) only [List.getElem_toArray, List.getElem_cons_succ, List.getElem_cons_zero]); go_simp); try with_reducible rfl
  try simp (maxSteps := 2000000) only [List.getElem_toArray, List.getElem_cons_succ, List.getElem_cons_zero, Act.put, List.setIfInBounds_toArray, List.set_cons_zero, List.set_cons_succ]
  refine wpAnyH_take (i := 3) (v := ?_) rfl (by kernel_rfl) (by kernel_rfl) (by kernel_rfl) (fun _ _ _ h => h) (Or.inl ⟨by first | kernel_rfl | rfl, ?_⟩) (by assumption) ?_
  rotate_left
  · (intro wq hSw; (try dsimp only at hSw); (try simp (maxSteps := 2000000) only [List.getElem_toArray, List.getElem_cons_succ, List.getElem_cons_zero]); go_simp); try with_reducible rfl
  try simp (maxSteps := 2000000) only [List.getElem_toArray, List.getElem_cons_succ, List.getElem_cons_zero, Act.put, List.setIfInBounds_toArray, List.set_cons_zero, List.set_cons_succ]
  refine wpAnyH_take (i := 4) (v := ?_) rfl (by kernel_rfl) (by kernel_rfl) (by kernel_rfl) (fun _ _ _ h => h) (Or.inl ⟨by first | kernel_rfl | rfl, ?_⟩) (by assumption) ?_
  rotate_left
  · (intro wq hSw; (try dsimp only at hSw); (try simp (maxSteps := 2000000) only [List.getElem_toArray, List.getElem_cons_succ, List.getElem_cons_zero]); go_simp); try with_reducible rfl
  try simp (maxSteps := 2000000) only [List.getElem_toArray, List.getElem_cons_succ, List.getElem_cons_zero, Act.put, List.setIfInBounds_toArray, List.set_cons_zero, List.set_cons_succ]
  refine wpAnyH_take (i := 5) (v := ?_) rfl (by kernel_rfl) (by kernel_rfl) (by kernel_rfl) (fun _ _ _ h => h) (Or.inl ⟨by first | kernel_rfl | rfl, ?_⟩) (by assumption) ?_
  rotate_left
  · (intro wq hSw; (try dsimp only at hSw); (try simp (maxSteps := 2000000) only [List.getElem_toArray, List.getElem_cons_succ, List.getElem_cons_zero]); go_simp); try with_reducible rfl
  try simp (maxSteps := 2000000) only [List.getElem_toArray, List.getElem_cons_succ, List.getElem_cons_zero, Act.put, List.setIfInBounds_toArray, List.set_cons_zero, List.set_cons_succ]
  refine wpAnyH_take (i := 6) (v := ?_) rfl (by kernel_rfl) (by kernel_rfl) (by kernel_rfl) (fun _ _ _ h => h) (Or.inl ⟨by first | kernel_rfl | rfl, ?_⟩) (by assumption) ?_
  rotate_left
  · (intro wq hSw; (try dsimp only at hSw); (try simp (maxSteps := 2000000) only [List.getElem_toArray, List.getElem_cons_succ, List.getElem_cons_zero]); go_simp); try with_reducible rfl
  try simp (maxSteps := 2000000) only [List.getElem_toArray, List.getElem_cons_succ, List.getElem_cons_zero, Act.put, List.setIfInBounds_toArray, List.set_cons_zero, List.set_cons_succ]
  refine wpAnyH_take (i := 7) (v := ?_) rfl (by kernel_rfl) (by kernel_rfl) (by kernel_rfl) (fun _ _ _ h => h) (Or.inl ⟨by first | kernel_rfl | rfl, ?_⟩) (by assumption) ?_
  rotate_left
  · (intro wq hSw; (try dsimp only at hSw); (try simp (maxSteps := 2000000) only [List.getElem_toArray, List.getElem_cons_succ, List.getElem_cons_zero]); go_simp); try with_reducible rfl
  try simp (maxSteps := 2000000) only [List.getElem_toArray, List.getElem_cons_succ, List.getElem_cons_zero, Act.put, List.setIfInBounds_toArray, List.set_cons_zero, List.set_cons_succ]
  refine wpAnyH_take (i := 8) (v := ?_) rfl (by kernel_rfl) (by kernel_rfl) (by kernel_rfl) (fun _ _ _ h => h) (Or.inl ⟨by first | kernel_rfl | rfl, ?_⟩) (by assumption) ?_
  rotate_left
  · (intro wq hSw; (try dsimp only at hSw); (try simp (maxSteps := 2000000) only [List.getElem_toArray, List.getElem_cons_succ, List.getElem_cons_zero]); go_simp); try with_reducible rfl
  try simp (maxSteps := 2000000) only [List.getElem_toArray, List.getElem_cons_succ, List.getElem_cons_zero, Act.put, List.setIfInBounds_toArray, List.set_cons_zero, List.set_cons_succ]
  refine wpAnyH_take (i := 9) (v := ?_) rfl (by kernel_rfl) (by kernel_rfl) (by kernel_rfl) (fun _ _ _ h => h) (Or.inl ⟨by first | kernel_rfl | rfl, ?_⟩) (by assumption) ?_
  rotate_left
  · (intro wq hSw; (try dsimp only at hSw); (try simp (maxSteps := 2000000) only [List.getElem_toArray, List.getElem_cons_succ, List.getElem_cons_zero]); go_simp); try with_reducible rfl
  try simp (maxSteps := 2000000) only [List.getElem_toArray, List.getElem_cons_succ, List.getElem_cons_zero, Act.put, List.setIfInBounds_toArray, List.set_cons_zero, List.set_cons_succ]
  refine wpAnyH_done (by kernel_rfl) ?_ _
  go_wp2_with fail
  go_ret
  exact ⟨by rw [HH.out]; rfl, (Below.refl _ _).drew⟩
def setC (a cb : Nat) (r : Ref) : Array Value := #[.pointer (some ⟨a, 0, none⟩), .pointer (some ⟨cb, 0, none⟩), .int .u8 (r.kind : Int), .int .i64 (r.place : Int), .int .u64 (r.gen : Int)]
section
variable {U : Nat → Prop} {w : World} {a n s cb : Nat} {v : Value} {Fs : Nat → Nat → Prop} {ps : List Nat} {sts : List DSt} {r : Ref}
set_option maxRecDepth 100000 in
set_option maxHeartbeats 4000000 in
theorem shome_any (hS : BoxAt w s (setC a cb r)) (h : Hid (ArrB U w a v Fs ps n sts)) (h1 : 1 ≤ sts.length) (h2 : sts.length ≤ 1000) (i : Nat) :
    Calls Tryz.prog 88 #[.pointer (some ⟨s, 0, none⟩), .int .i64 (i : Int)] w fun e w' => e = .returned (.int .i64 (homeN sts.length r.place i : Int)) ∧ Below w.heap.size w w' := by
  have hSd : BoxAt w.drew s (setC a cb r) := hS.keep rfl
  have s0 : w.drew.cell? ⟨s, 0, none⟩ = some (.pointer (some ⟨a, 0, none⟩)) ∧ w.drew.cell? ⟨s, 3, none⟩ = some (.int .i64 (r.place : Int)) := ⟨hSd.cell 0, hSd.cell 3⟩
  have hd : Below w.heap.size w w.drew := (Below.refl _ _).drew
  have hN := an_any (Lib.hid (h.out.below hd)) (by omega)
  have hH := fun w => home_any (w := w) (n := sts.length) (place := r.place) (i := i) h1 h2
  obtain ⟨l, hl⟩ : ∃ l, sts.length = l := ⟨_, rfl⟩
  rw [hl] at hN hH ⊢
  clear hl h hS
  go_enter Tryz.func88, Tryz.ntmps88
  go_wp2_with fail
  refine wp_region_held_drew (S := fun w' => w'.cell? ⟨s, 0, none⟩ = some (.pointer (some ⟨a, 0, none⟩)) ∧ w'.cell? ⟨s, 3, none⟩ = some (.int .i64 (r.place : Int))) (by kernel_rfl) (by first | exact s0 | exact s5 | exact s6) (fun hHeld => ?_)
  refine wpAnyH_take (i := 0) (v := ?_) rfl (by kernel_rfl) (by kernel_rfl) (by kernel_rfl) (fun _ _ _ h => h) (Or.inl ⟨by first | kernel_rfl | rfl, ?_⟩) (by assumption) ?_
  rotate_left
  · (intro wq hSw; (try dsimp only at hSw); (try simp (maxSteps := 2000000) only [List.getElem_toArray, List.getElem_cons_succ, List.getElem_cons_zero]); go_simp); try with_reducible rfl
  try simp (maxSteps := 2000000) only [List.getElem_toArray, List.getElem_cons_succ, List.getElem_cons_zero, Act.put, List.setIfInBounds_toArray, List.set_cons_zero, List.set_cons_succ]
  refine wpAnyH_take (i := 1) (v := ?_) rfl (by kernel_rfl) (by kernel_rfl) (by kernel_rfl) (fun _ _ _ h => h) (Or.inl ⟨by first | kernel_rfl | rfl, ?_⟩) (by assumption) ?_
  rotate_left
  · (intro wq hSw; (try dsimp only at hSw); (try simp (maxSteps := 2000000) only [List.getElem_toArray, List.getElem_cons_succ, List.getElem_cons_zero]); go_simp); try with_reducible rfl
  try simp (maxSteps := 2000000) only [List.getElem_toArray, List.getElem_cons_succ, List.getElem_cons_zero, Act.put, List.setIfInBounds_toArray, List.set_cons_zero, List.set_cons_succ]
  refine wpAnyH_take (i := 2) (v := ?_) rfl (by kernel_rfl) (by kernel_rfl) (by kernel_rfl) (fun _ _ _ h => h) (Or.inl ⟨by first | kernel_rfl | rfl, ?_⟩) (by assumption) ?_
  rotate_left
  · (intro wq hSw; (try dsimp only at hSw); (try simp (maxSteps := 2000000) only [List.getElem_toArray, List.getElem_cons_succ, List.getElem_cons_zero]); go_simp); try with_reducible rfl
  try simp (maxSteps := 2000000) only [List.getElem_toArray, List.getElem_cons_succ, List.getElem_cons_zero, Act.put, List.setIfInBounds_toArray, List.set_cons_zero, List.set_cons_succ]
  refine wpAnyH_take (i := 3) (v := ?_) rfl (by kernel_rfl) (by kernel_rfl) (by kernel_rfl) (fun _ _ _ h => h) (Or.inl ⟨by first | kernel_rfl | rfl, ?_⟩) (by assumption) ?_
  rotate_left
  · (intro wq hSw; (try dsimp only at hSw); (try simp (maxSteps := 2000000) only [List.getElem_toArray, List.getElem_cons_succ, List.getElem_cons_zero]); go_simp); try with_reducible rfl
  try simp (maxSteps := 2000000) only [List.getElem_toArray, List.getElem_cons_succ, List.getElem_cons_zero, Act.put, List.setIfInBounds_toArray, List.set_cons_zero, List.set_cons_succ]
  refine wpAnyH_take (i := 5) (v := ?_) rfl (by kernel_rfl) (by kernel_rfl) (by kernel_rfl) (fun _ _ _ h => h) (Or.inl ⟨by first | kernel_rfl | rfl, ?_⟩) (by assumption) ?_
  rotate_left
  · (intro wq hSw; (try dsimp only at hSw); (try simp (maxSteps := 2000000) only [List.getElem_toArray, List.getElem_cons_succ, List.getElem_cons_zero]); go_simp); try with_reducible rfl
  try simp (maxSteps := 2000000) only [List.getElem_toArray, List.getElem_cons_succ, List.getElem_cons_zero, Act.put, List.setIfInBounds_toArray, List.set_cons_zero, List.set_cons_succ]
  refine wpAnyH_take (i := 6) (v := ?_) rfl (by kernel_rfl) (by kernel_rfl) (by kernel_rfl) (fun _ _ _ h => h) (Or.inl ⟨by first | kernel_rfl | rfl, ?_⟩) (by assumption) ?_
  rotate_left
  · (intro wq hSw; (try dsimp only at hSw); (try simp (maxSteps := 2000000) only [List.getElem_toArray, List.getElem_cons_succ, List.getElem_cons_zero]); go_simp); try with_reducible rfl
  try simp (maxSteps := 2000000) only [List.getElem_toArray, List.getElem_cons_succ, List.getElem_cons_zero, Act.put, List.setIfInBounds_toArray, List.set_cons_zero, List.set_cons_succ]
  refine wpAnyH_take (i := 7) (v := ?_) rfl (by kernel_rfl) (by kernel_rfl) (by kernel_rfl) (fun _ _ _ h => h) (Or.inl ⟨by first | kernel_rfl | rfl, ?_⟩) (by assumption) ?_
  rotate_left
  · (intro wq hSw; (try dsimp only at hSw); (try simp (maxSteps := 2000000) only [List.getElem_toArray, List.getElem_cons_succ, List.getElem_cons_zero]); go_simp); try with_reducible rfl
  try simp (maxSteps := 2000000) only [List.getElem_toArray, List.getElem_cons_succ, List.getElem_cons_zero, Act.put, List.setIfInBounds_toArray, List.set_cons_zero, List.set_cons_succ]
  refine wpAnyH_take (i := 8) (v := ?_) rfl (by kernel_rfl) (by kernel_rfl) (by kernel_rfl) (fun _ _ _ h => h) (Or.inl ⟨by first | kernel_rfl | rfl, ?_⟩) (by assumption) ?_
  rotate_left
  · (intro wq hSw; (try dsimp only at hSw); (try simp (maxSteps := 2000000) only [List.getElem_toArray, List.getElem_cons_succ, List.getElem_cons_zero]); go_simp); try with_reducible rfl
  try simp (maxSteps := 2000000) only [List.getElem_toArray, List.getElem_cons_succ, List.getElem_cons_zero, Act.put, List.setIfInBounds_toArray, List.set_cons_zero, List.set_cons_succ]
  refine wpAnyH_take (i := 9) (v := ?_) rfl (by kernel_rfl) (by kernel_rfl) (by kernel_rfl) (fun _ _ _ h => h) (Or.inl ⟨by first | kernel_rfl | rfl, ?_⟩) (by assumption) ?_
  rotate_left
  · (intro wq hSw; (try dsimp only at hSw); (try simp (maxSteps := 2000000) only [List.getElem_toArray, List.getElem_cons_succ, List.getElem_cons_zero]); go_simp); try with_reducible rfl
  try simp (maxSteps := 2000000) only [List.getElem_toArray, List.getElem_cons_succ, List.getElem_cons_zero, Act.put, List.setIfInBounds_toArray, List.set_cons_zero, List.set_cons_succ]
  refine wpAnyH_take (i := 10) (v := ?_) rfl (by kernel_rfl) (by kernel_rfl) (by kernel_rfl) (fun _ _ _ h => h) (Or.inl ⟨by first | kernel_rfl | rfl, ?_⟩) (by assumption) ?_
  rotate_left
  · (intro wq hSw; (try dsimp only at hSw); (try simp (maxSteps := 2000000) only [List.getElem_toArray, List.getElem_cons_succ, List.getElem_cons_zero]); go_simp); try with_reducible rfl
  try simp (maxSteps := 2000000) only [List.getElem_toArray, List.getElem_cons_succ, List.getElem_cons_zero, Act.put, List.setIfInBounds_toArray, List.set_cons_zero, List.set_cons_succ]
  refine wpAnyH_ready (rs := [4]) (by kernel_rfl) (by simp) ?_
  refine AllReadyH.cons rfl (fun K hK => ?_) AllReadyH.nil
  try simp (maxSteps := 2000000) only [List.getElem_toArray, List.getElem_cons_succ, List.getElem_cons_zero]
  go_simp
  go_at_call 44
  refine hN.mono ?_
  clear hN
  rintro e w5 ⟨rfl, hb5⟩
  have hS5 := hSd.below hb5
  have s5 : w5.cell? ⟨s, 0, none⟩ = some (.pointer (some ⟨a, 0, none⟩)) ∧ w5.cell? ⟨s, 3, none⟩ = some (.int .i64 (r.place : Int)) := ⟨hS5.cell 0, hS5.cell 3⟩
  try (go_wp2_with fail)
  refine hK.out _ _ (by first | exact s0 | exact s5 | exact s6) (fun hHeld => ?_)
  clear hK K
  try simp (maxSteps := 2000000) only [List.getElem_toArray, List.getElem_cons_succ, List.getElem_cons_zero, Act.put, List.setIfInBounds_toArray, List.set_cons_zero, List.set_cons_succ]
  refine wpAnyH_ready (rs := [11]) (by kernel_rfl) (by simp) ?_
  refine AllReadyH.cons rfl (fun K hK => ?_) AllReadyH.nil
  try simp (maxSteps := 2000000) only [List.getElem_toArray, List.getElem_cons_succ, List.getElem_cons_zero]
  go_simp
  go_at_call 23
  refine (hH _).mono ?_
  clear hH
  rintro e w6 ⟨rfl, hb6⟩
  have hS6 := hS5.below hb6
  have s6 : w6.cell? ⟨s, 0, none⟩ = some (.pointer (some ⟨a, 0, none⟩)) ∧ w6.cell? ⟨s, 3, none⟩ = some (.int .i64 (r.place : Int)) := ⟨hS6.cell 0, hS6.cell 3⟩
  have hb56 : Below w.heap.size w w6 := hd.trans (hb5.trans (hb6.mono hb5.size))
  try (go_wp2_with fail)
  refine hK.out _ _ (by first | exact s0 | exact s5 | exact s6) (fun hHeld => ?_)
  clear hK K
  try simp (maxSteps := 2000000) only [List.getElem_toArray, List.getElem_cons_succ, List.getElem_cons_zero, Act.put, List.setIfInBounds_toArray, List.set_cons_zero, List.set_cons_succ]
  refine wpAnyH_take (i := 12) (v := ?_) rfl (by kernel_rfl) (by kernel_rfl) (by kernel_rfl) (fun _ _ _ h => h) (Or.inl ⟨by first | kernel_rfl | rfl, ?_⟩) (by assumption) ?_
  rotate_left
  · (intro wq hSw; (try dsimp only at hSw); (try simp (maxSteps := 2000000) only [List.getElem_toArray, List.getElem_cons_succ, List.getElem_cons_zero]); go_simp); try with_reducible rfl
  try simp (maxSteps := 2000000) only [List.getElem_toArray, List.getElem_cons_succ, List.getElem_cons_zero, Act.put, List.setIfInBounds_toArray, List.set_cons_zero, List.set_cons_succ]
  refine wpAnyH_done (by kernel_rfl) ?_ _
  go_wp2_with fail
  go_ret
  exact ⟨rfl, hb56⟩
end
end Go.Proofs.YteialipoedmmmaaGreat

set_option linter.unusedSimpArgs false
set_option linter.unusedVariables false
namespace Go.Proofs.YteialipoedmmmaaGreat
open Go.RowKit Go.Cib
attribute [local go_sem] cell_set Later.cell Later.frozen Grw.cell Grw.frozen
theorem by_of_u8 {S : Nat → Prop} {w : World} {A : Option Addr} {n : Nat} {xs : List Int} (h : RdL U8R 1 S w A n xs) (hb : ∀ x ∈ xs, 0 ≤ x ∧ x < 256) : RdL ByR 1 S w A n (xs.map Int.toNat) := by
  refine ⟨by rw [List.length_map]; exact h.1, fun hn => ?_⟩
  obtain ⟨b, o, hA, hS, hlt, hc⟩ := h.2 hn
  refine ⟨b, o, hA, hS, hlt, fun i x hx => ?_⟩
  rw [List.getElem?_map] at hx
  cases hl : xs[i]? with
  | none => rw [hl] at hx; cases hx
  | some y =>
    rw [hl] at hx
    injection hx with hx
    obtain ⟨cs, h1, h2, h3⟩ := hc i y hl
    have hy := hb y (List.mem_of_getElem? hl)
    refine ⟨cs, h1, ⟨by omega, ?_⟩, h3⟩
    have h4 : cs = [.int .u8 y] := h2
    rw [h4, ← hx, Int.toNat_of_nonneg hy.1]
/-- A drive's sectors are bytes. -/
def StB (st : DSt) (z : Nat) : Prop := ∀ x ∈ st.seen z, 0 ≤ x ∧ x < 256
def secN (st : DSt) (z : Nat) : List Nat := (st.seen z).map Int.toNat
section
variable {U : Nat → Prop} {w : World} {a n s cb : Nat} {v : Value} {Fs : Nat → Nat → Prop} {ps : List Nat} {sts : List DSt} {r : Ref}
set_option maxRecDepth 100000 in
theorem aread2 (h : Hid (ArrB U w a v Fs ps n sts)) (d : Nat) {st : DSt} (hst : sts[d]? = some st) (z : Nat) (hz : z < n) (hb : StB st z) :
    Calls Tryz.prog 89 #[.pointer (some ⟨a, 0, none⟩), .int .i64 (d : Int), .int .i64 (z : Int)] w fun e w' => Below w.heap.size w w' ∧
      ((st.dead = true ∧ e = .returned (.tuple #[.slice none 0 0, .int .i64 90])) ∨
       (st.dead = false ∧ ∃ A, e = .returned (.tuple #[.slice A 64 64, .int .i64 0]) ∧ RdL ByR 1 (w.heap.size ≤ ·) w' A 64 (secN st z))) := by
  have hd : d < sts.length := (List.getElem?_eq_some_iff.1 hst).1
  have hp : ps[d]? = some (ps[d]'(by rw [← h.out.len]; exact hd)) := List.getElem?_eq_getElem _
  have hre := areach_in h d hd hp
  have HB := Lib.hid hb
  go_enter Tryz.func89, Tryz.ntmps89
  go_wp2_with fail
  refine hre.mono ?_
  rintro e w1 ⟨rfl, t1⟩
  have D1 := Lib.hid ((h.out.drv d _ _ hp hst).below t1)
  have T1 := Lib.hid t1
  have s1 := t1.size
  clear t1 hre hb
  cases hdd : st.dead with
  | false =>
    have hrd := read_good D1 hdd z hz
    have HDD := Lib.hid hdd
    clear hdd
    go_wp2_with fail
    refine hrd.mono ?_
    rintro e w2 ⟨A, rfl, r2, t2⟩
    have R2 := Lib.hid (by_of_u8 r2 HB.out)
    clear r2 hrd
    go_wp2_with fail
    go_ret2
    exact ⟨T1.out.trans (t2.mono s1),   .inr ⟨HDD.out, A, rfl, R2.out.weaken ByR.stable (fun k hk => Nat.le_trans s1 hk)⟩⟩
  | true =>
    have hrE : readyE st.dead n (z : Int) = 90 := by unfold readyE; rw [hdd]; rfl
    have hrd := read_bad D1 (z : Int) (by rw [hrE]; decide)
    rw [hrE] at hrd
    have HDD := Lib.hid hdd
    clear hdd hrE
    go_wp2_with fail
    refine hrd.mono ?_
    rintro e w2 ⟨rfl, t2⟩
    clear hrd
    go_wp2_with fail
    go_ret2
    exact ⟨T1.out.trans (t2.mono s1),   .inl ⟨HDD.out, rfl⟩⟩
end
end Go.Proofs.YteialipoedmmmaaGreat
