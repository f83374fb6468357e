/-
  What whole shards have, by index.
  A stripe of drives and a coder that belong together.
  The rows of whole shards: plain.
  A stripe is read.
  A shard of a stripe is written.
  Shards of a stripe are written.
  A stripe is put.
  Which shards of a stripe are whole.
-/
import Derived.Test.YtihnlhfngmbglaaGreatLt10
import Derived.Test.YtihnlhfngmbglaaGreatLt8
import Derived.Laws.IdiomCopy
set_option linter.unusedSimpArgs false
set_option linter.unusedVariables false
namespace Go.Proofs.YtihnlhfngmbglaaGreat
open Go.RowKit Go.Cib
attribute [local go_sem] cell_set Later.cell Later.frozen Grw.cell Grw.frozen
section
def lookS (l : List (Nat × Shd)) (i : Nat) : Option Shd := (l.find? fun p => decide (p.1 = i)).map (·.2)
theorem mlook_mapE : ∀ (l : List (Nat × Shd)) (i : Nat), mlook (mapE l) (i : Int) = (lookS l i).map fun x => Value.agg (shC x)
  | [], i => rfl
  | p :: l, i => by
    have ih := mlook_mapE l i
    show (if ((p.1 : Nat) : Int) = (i : Int) then some (Value.agg (shC p.2)) else mlook (mapE l) (i : Int)) = _
    unfold lookS
    by_cases h : p.1 = i
    · rw [if_pos (by rw [h]), List.find?_cons_of_pos (by simpa using h)]; rfl
    · rw [if_neg (by omega), List.find?_cons_of_neg (by simpa using h), ih]; rfl
def bodyO (o : Option Shd) : List Nat := match o with
  | some x => x.body
  | none => []
def rowsU (l : List (Nat × Shd)) (N i : Nat) : Rws := (List.range i).map (fun j => bodyO (lookS l j)) ++ List.replicate (N - i) []
def rowsS (l : List (Nat × Shd)) (N : Nat) : Rws := (List.range N).map fun j => bodyO (lookS l j)
theorem rowsU_next {l : List (Nat × Shd)} {N i : Nat} (h : i < N) : (rowsU l N i).set i (bodyO (lookS l i)) = rowsU l N (i + 1) := by
  unfold rowsU
  rw [List.set_append_right _ _ (by simp), List.range_succ, List.map_append, List.append_assoc]
  congr 1
  obtain ⟨d, hd⟩ : ∃ d, N - i = d + 1 := ⟨N - i - 1, by omega⟩
  rw [hd, show N - (i + 1) = d by omega, List.replicate_succ]
  simp
theorem rowsU_none {l : List (Nat × Shd)} {N i : Nat} (h : i < N) (hn : lookS l i = none) : rowsU l N i = rowsU l N (i + 1) := by
  unfold rowsU
  rw [List.range_succ, List.map_append, List.append_assoc]
  congr 1
  obtain ⟨d, hd⟩ : ∃ d, N - i = d + 1 := ⟨N - i - 1, by omega⟩
  rw [hd, show N - (i + 1) = d by omega, List.replicate_succ, List.map_cons, List.map_nil, hn]
  rfl
theorem lookS_ok {l : List (Nat × Shd)} (h : ∀ p ∈ l, p.2.ok) {i : Nat} {x : Shd} (hx : lookS l i = some x) : x.ok := by
  unfold lookS at hx
  cases hf : l.find? (fun p => decide (p.1 = i)) with
  | none => rw [hf] at hx; cases hx
  | some p =>
    rw [hf] at hx
    injection hx with hx
    rw [← hx]
    exact h p (List.mem_of_find?_eq_some hf)
attribute [local go_sem ↓] shut_loadS shut_zeroS shut_buildS shut_storeS
attribute [local go_sem] run_zeroS run_build0
set_option maxRecDepth 100000 in
set_option maxHeartbeats 8000000 in
theorem rows_any {w : World} {a s cb b k m mb : Nat} {r : Ref} {l : List (Nat × Shd)} (hS : BoxAt w s (setC a cb r)) (HC : CodAt w cb b k m) (hM : MapAt (Value.int .i64) w mb (mapE l)) (hl : ∀ p ∈ l, p.2.ok) :
    Calls Tryz.prog 90 #[.pointer (some ⟨s, 0, none⟩), .map (some mb)] w fun e w' => ∃ g, e = .returned (.slice (some ⟨g, 0, none⟩) (k + m) (k + m)) ∧ RdL RowR 1 (fun j => w.heap.size ≤ j) w' (some ⟨g, 0, none⟩) (k + m) (rowsS l (k + m)) ∧ Below w.heap.size w w' := by
  have hkm := HC.km
  have c1 : w.cell? ⟨s, 1, none⟩ = some (.pointer (some ⟨cb, 0, none⟩)) := hS.cell 1
  have hn := cn_any HC
  obtain ⟨N, hN⟩ : ∃ N, k + m = N := ⟨_, rfl⟩
  rw [hN] at hn ⊢
  have hN2 : N ≤ 255 := by omega
  have HL := Lib.hid hl
  have HMP := Lib.hid hM
  clear HC hN hl hS hM
  go_enter Tryz.func90, Tryz.ntmps90
  go_wp2_with fail
  refine hn.mono ?_
  clear hn
  rintro e w1 ⟨rfl, hb1⟩
  have hmk := makeRows N (by omega) w1
  have ho := OutAt.made w1 N 68
  have hbz : Below w.heap.size w (w1.alloc (.cells (Array.replicate N (.slice none 0 0)) 68)) := hb1.alloc hb1.size _
  have hm2 := (HMP.out.below hb1).alloc (.cells (Array.replicate N (.slice none 0 0)) 68)
  obtain ⟨wA, hwA⟩ : ∃ wA, w1.alloc (.cells (Array.replicate N (.slice none 0 0)) 68) = wA := ⟨_, rfl⟩
  rw [hwA] at hmk ho hbz hm2
  have hg1 := hb1.size
  obtain ⟨g, hg⟩ : ∃ g, w1.heap.size = g := ⟨_, rfl⟩
  rw [hg] at hmk ho
  have HG := Lib.hid (show w.heap.size ≤ g by omega)
  have hmg : mb ≠ g := by have := (HMP.out.below hb1).lt; omega
  have HO := Lib.hid (show OutAt wA g g N (rowsU l N 0) by unfold rowsU; exact ho)
  have HB := Lib.hid hbz
  have HM := Lib.hid hm2
  clear ho hbz hm2 hb1 hg1 hwA hg HMP
  go_wp2_with fail
  clear hmk
  go_loopw [17] (fun vi wr => ∃ i : Nat, i ≤ N ∧ vi = .int .i64 i ∧ Hid (OutAt wr g g N (rowsU l N i)) ∧ Hid (MapAt (Value.int .i64) wr mb (mapE l)) ∧ Hid (Below w.heap.size w wr)) (fun vi _ => N - (intOf vi).toNat)
  case atStart => exact ⟨0, Nat.zero_le _, rfl, HO, HM, HB⟩
  case round =>
    clear HO HM HB
    obtain ⟨i, hi, rfl, HO, HM, HB⟩ := hrel
    have p0 : (0 : Int) ≤ (i : Int) := Int.natCast_nonneg _
    by_cases hlt : i < N
    · have p1 : (i : Int) < (N : Int) := by omega
      have hla : (Instr.lookup 148 (.map (some mb)) (.int .i64 (i : Int)) true).run Tryz.prog wr = .ok (.tuple #[(mlook (mapE l) (i : Int)).getD (.agg (shC sh0)), .bool (mlook (mapE l) (i : Int)).isSome]) wr := run_lookup kt_intS un_smap (fun w => run_zeroS w) HM.out (i : Int) true
      rw [mlook_mapE] at hla
      cases hlo : lookS l i with
      | none =>
        rw [hlo] at hla
        have hla2 : (Instr.lookup 148 (.map (some mb)) (.int .i64 (i : Int)) true).run Tryz.prog wr = .ok (.tuple #[.agg (shC sh0), .bool false]) wr := hla
        have hst := run_storeS (y := sh0) (BoxAt.new wr (shC sh0) 193) sh0_ok.l sh0_ok.l
        have bQ6 := shC_set (y := sh0) (BoxAt.new wr (shC sh0) 193) sh0_ok.l sh0_ok.l
        have hbr : Below wr.heap.size wr ((wr.alloc (.cells (shC sh0) 193)).setCells wr.heap.size 0 (shV sh0)) := setS_below ((Below.refl _ _).alloc (Nat.le_refl _) _) (Nat.le_refl _) _
        obtain ⟨W6, hW6⟩ : ∃ W, (wr.alloc (.cells (shC sh0) 193)).setCells wr.heap.size 0 (shV sh0) = W := ⟨_, rfl⟩
        rw [hW6] at hst bQ6 hbr
        obtain ⟨q, hq⟩ : ∃ q, wr.heap.size = q := ⟨_, rfl⟩
        have hgl := HO.out.lt
        have ho6 := HO.out.below hbr
        have HM6 := Lib.hid (HM.out.below hbr)
        have HB6 := Lib.hid (HB.out.trans (hbr.mono HB.out.size))
        rw [hq] at hst bQ6 hgl
        clear hla hbr
        rw [rowsU_none hlt hlo] at ho6
        have HO6 := Lib.hid ho6
        clear hlo ho6 HO HM HB bQ6
        go_wp2_with fail
        exact ⟨⟨i + 1, by omega, by go_num, HO6, HM6, HB6⟩, by simp [intOf]; omega⟩
      | some x =>
        rw [hlo] at hla
        have hla2 : (Instr.lookup 148 (.map (some mb)) (.int .i64 (i : Int)) true).run Tryz.prog wr = .ok (.tuple #[.agg (shC x), .bool true]) wr := hla
        have hxk := lookS_ok HL.out hlo
        have hst := run_storeS (y := x) (BoxAt.new wr (shC sh0) 193) sh0_ok.l hxk.l
        have bQ6 := shC_set (y := x) (BoxAt.new wr (shC sh0) 193) sh0_ok.l hxk.l
        have hbr : Below wr.heap.size wr ((wr.alloc (.cells (shC sh0) 193)).setCells wr.heap.size 0 (shV x)) := setS_below ((Below.refl _ _).alloc (Nat.le_refl _) _) (Nat.le_refl _) _
        obtain ⟨W6, hW6⟩ : ∃ W, (wr.alloc (.cells (shC sh0) 193)).setCells wr.heap.size 0 (shV x) = W := ⟨_, rfl⟩
        rw [hW6] at hst bQ6 hbr
        obtain ⟨q, hq⟩ : ∃ q, wr.heap.size = q := ⟨_, rfl⟩
        have hgl := HO.out.lt
        have ho6 := HO.out.below hbr
        have HM6 := Lib.hid (HM.out.below hbr)
        have HB6 := Lib.hid (HB.out.trans (hbr.mono HB.out.size))
        rw [hq] at hst bQ6 hgl
        clear hla hbr
        have hbr2 := body_rd hxk bQ6 rfl (S := fun j => g ≤ j ∧ j ≠ g) (show g ≤ q ∧ q ≠ g by omega)
        obtain ⟨⟨u, hu⟩, f1⟩ := ho6.cellx hlt
        have ho7 := ho6.set (c := 44) hlt (Nat.le_refl _) hbr2
        have hru := rowsU_next (l := l) hlt
        rw [hlo] at hru
        change (rowsU l N i).set i x.body = _ at hru
        rw [hru] at ho7
        have HO7 := Lib.hid ho7
        have hm7 : MapAt (Value.int .i64) (W6.setCell ⟨g, i, none⟩ (.slice (some ⟨q, 5, none⟩) 44 44)) mb (mapE l) := HM6.out.keep (Below.heap_setCell _ _ _ _ (by show mb ≠ g; exact hmg))
        have HM7 := Lib.hid hm7
        have HB7 := Lib.hid (HB6.out.setCell (p := ⟨g, i, none⟩) HG.out (.slice (some ⟨q, 5, none⟩) 44 44))
        clear hlo ho6 ho7 hru hbr2 HO HM HB HM6 HB6 bQ6 hm7
        go_wp2_with fail
        exact ⟨⟨i + 1, by omega, by go_num, HO7, HM7, HB7⟩, by simp [intOf]; omega⟩
    · have p1 : ¬ (i : Int) < (N : Int) := by omega
      obtain rfl : N = i := by omega
      have hrd := HO.out.rd
      rw [show rowsU l N N = rowsS l N by unfold rowsU rowsS; rw [Nat.sub_self]; simp] at hrd
      have HRD := Lib.hid hrd
      clear hrd
      go_wp2_with fail
      go_ret
      exact ⟨g, rfl, HRD.out.weaken RowR.stable (fun j hj => Nat.le_trans HG.out hj), HB.out⟩
end
section
structure Ref.ok (r : Ref) (n : Nat) : Prop where
  k1 : 1 ≤ r.kind
  k4 : r.kind ≤ 4
  p : r.place < n
section
variable {U : Nat → Prop} {w : World} {a n cb b k m : Nat} {v : Value} {Fs : Nat → Nat → Prop} {ps : List Nat} {sts : List DSt} {r : Ref}
set_option maxRecDepth 100000 in
set_option maxHeartbeats 8000000 in
theorem meant_good (h : Hid (ArrB U w a v Fs ps n sts)) (HC : CodAt w cb b k m) (hlen : sts.length = k + m) (hr : r.ok n) :
    Calls Tryz.prog 86 #[.pointer (some ⟨a, 0, none⟩), .pointer (some ⟨cb, 0, none⟩), .agg (refC r)] w fun e w' => ∃ s, e = .returned (.tuple #[.pointer (some ⟨s, 0, none⟩), .int .i64 0]) ∧ w.heap.size ≤ s ∧ BoxAt w' s (setC a cb r) ∧ Below w.heap.size w w' := by
  have hk1 := HC.k1
  have hN := fun w' (hb : Below w.heap.size w w') => an_any (w := w') (Lib.hid (h.out.below hb)) (by omega)
  have hSc := fun w' (hb : Below w.heap.size w w') => asectors_any (w := w') (Lib.hid (h.out.below hb)) (by omega)
  have hCn := fun w' (hb : Below w.heap.size w w') => cn_any (HC.below hb)
  obtain ⟨N, hNe⟩ : ∃ N, k + m = N := ⟨_, rfl⟩
  simp only [hlen] at hN
  rw [hNe] at hN hCn
  have hN1 : 1 ≤ N := by omega
  have e0 : ((N : Int) == 0) = false := by simp; omega
  have e1 : ((N : Int) != (N : Int)) = false := by simp
  have z1 : decide ((r.kind : Int) < 1) = false := decide_eq_false (by have := hr.k1; omega)
  have z2 : decide ((r.kind : Int) > 4) = false := decide_eq_false (by have := hr.k4; omega)
  have z3 : decide ((r.place : Int) < 0) = false := decide_eq_false (by omega)
  have z4 : decide ((r.place : Int) ≥ (n : Int)) = false := decide_eq_false (by have := hr.p; omega)
  have y1 : decide (r.kind < 1) = false := decide_eq_false (by have := hr.k1; omega)
  have y2 : decide (4 < (r.kind : Int)) = false := decide_eq_false (by have := hr.k4; omega)
  have y3 : decide (4 < r.kind) = false := decide_eq_false (by have := hr.k4; omega)
  have y4 : decide ((n : Int) ≤ (r.place : Int)) = false := decide_eq_false (by have := hr.p; omega)
  have y5 : decide (n ≤ r.place) = false := decide_eq_false (by have := hr.p; omega)
  clear h HC hlen hr hNe hk1
  unfold refC
  go_enter Tryz.func86, Tryz.ntmps86
  go_wp2_with fail
  have bR := BoxAt.new w (refC r) 38
  have hb0 : Below w.heap.size w (w.alloc (.cells (refC r) 38)) := (Below.refl _ _).alloc (Nat.le_refl _) _
  change Calls _ _ _ (w.alloc (.cells (refC r) 38)) _
  obtain ⟨wA, hwA⟩ : ∃ wA, w.alloc (.cells (refC r) 38) = wA := ⟨_, rfl⟩
  rw [hwA] at bR hb0 ⊢
  clear hwA
  obtain ⟨q, hq⟩ : ∃ q, w.heap.size = q := ⟨_, rfl⟩
  have HQ := Lib.hid (show w.heap.size ≤ q by omega)
  rw [hq] at bR ⊢
  refine (hN _ hb0).mono ?_
  rintro e w1 ⟨rfl, hb1⟩
  have hw1 := hb0.trans (hb1.mono hb0.size)
  have bR1 := bR.below hb1
  go_wp2_with fail
  refine (hCn _ hw1).mono ?_
  rintro e w2 ⟨rfl, hb2⟩
  have hw2 := hw1.trans (hb2.mono hw1.size)
  have bR2 := bR1.below hb2
  clear bR hb0 hb1 hw1 bR1 hb2
  have bRd : BoxAt w2.drew q (refC r) := bR2.keep rfl
  have hwd : Below w.heap.size w w2.drew := hw2.drew
  have s0 : w2.drew.cell? ⟨q, 0, none⟩ = some (.int .u8 (r.kind : Int)) ∧ w2.drew.cell? ⟨q, 1, none⟩ = some (.int .i64 (r.place : Int)) := ⟨bRd.cell 0, bRd.cell 1⟩
  clear bR2 hw2
  go_wp2_with fail
  refine wp_region_held_drew (S := fun w' => w'.cell? ⟨q, 0, none⟩ = some (.int .u8 (r.kind : Int)) ∧ w'.cell? ⟨q, 1, none⟩ = some (.int .i64 (r.place : Int))) (by kernel_rfl) (by first | exact s0 | exact s5 | exact s6 | exact s7) (fun hHeld => ?_)
  refine wpAnyH_take (i := 0) (v := ?_) rfl (by kernel_rfl) (by kernel_rfl) (by kernel_rfl) (fun _ _ _ h => h) (Or.inl ⟨by first | kernel_rfl | rfl, ?_⟩) (by assumption) ?_
  rotate_left
  · (intro wq hSw; (try dsimp only at hSw); (try simp (maxSteps := 2000000) only [zz1, zz2, zz3]); go_simp); try with_reducible rfl
  try simp (maxSteps := 2000000) only [zz1, zz2, zz3, Act.put, zz4, zz5, zz6]
  refine wpAnyH_take (i := 2) (v := ?_) rfl (by kernel_rfl) (by kernel_rfl) (by kernel_rfl) (fun _ _ _ h => h) (Or.inl ⟨by first | kernel_rfl | rfl, ?_⟩) (by assumption) ?_
  rotate_left
  · (intro wq hSw; (try dsimp only at hSw); (try simp (maxSteps := 2000000) only [zz1, zz2, zz3]); go_simp); try with_reducible rfl
  try simp (maxSteps := 2000000) only [zz1, zz2, zz3, Act.put, zz4, zz5, zz6]
  refine wpAnyH_ready (rs := [1]) (by kernel_rfl) (by simp) ?_
  refine AllReadyH.cons rfl (fun K hK => ?_) AllReadyH.nil
  try simp (maxSteps := 2000000) only [zz1, zz2, zz3]
  go_simp
  go_at_call 83
  refine (hN _ hwd).mono ?_
  rintro e w5 ⟨rfl, hb5⟩
  have hw5 := hwd.trans (hb5.mono hwd.size)
  have bR5 := bRd.below hb5
  have s5 : w5.cell? ⟨q, 0, none⟩ = some (.int .u8 (r.kind : Int)) ∧ w5.cell? ⟨q, 1, none⟩ = some (.int .i64 (r.place : Int)) := ⟨bR5.cell 0, bR5.cell 1⟩
  try (go_wp2_with fail)
  refine hK.out _ _ (by first | exact s0 | exact s5 | exact s6 | exact s7) (fun hHeld => ?_)
  clear hK K
  try simp (maxSteps := 2000000) only [zz1, zz2, zz3, Act.put, zz4, zz5, zz6]
  refine wpAnyH_ready (rs := [3]) (by kernel_rfl) (by simp) ?_
  refine AllReadyH.cons rfl (fun K hK => ?_) AllReadyH.nil
  try simp (maxSteps := 2000000) only [zz1, zz2, zz3]
  go_simp
  go_at_call 57
  refine (hCn _ hw5).mono ?_
  rintro e w6 ⟨rfl, hb6⟩
  have hw6 := hw5.trans (hb6.mono hw5.size)
  have bR6 := bR5.below hb6
  have s6 : w6.cell? ⟨q, 0, none⟩ = some (.int .u8 (r.kind : Int)) ∧ w6.cell? ⟨q, 1, none⟩ = some (.int .i64 (r.place : Int)) := ⟨bR6.cell 0, bR6.cell 1⟩
  try (go_wp2_with fail)
  refine hK.out _ _ (by first | exact s0 | exact s5 | exact s6 | exact s7) (fun hHeld => ?_)
  clear hK K
  try simp (maxSteps := 2000000) only [zz1, zz2, zz3, Act.put, zz4, zz5, zz6]
  refine wpAnyH_take (i := 4) (v := ?_) rfl (by kernel_rfl) (by kernel_rfl) (by kernel_rfl) (fun _ _ _ h => h) (Or.inl ⟨by first | kernel_rfl | rfl, ?_⟩) (by assumption) ?_
  rotate_left
  · (intro wq hSw; (try dsimp only at hSw); (try simp (maxSteps := 2000000) only [zz1, zz2, zz3]); go_simp); try with_reducible rfl
  try simp (maxSteps := 2000000) only [zz1, zz2, zz3, Act.put, zz4, zz5, zz6]
  refine wpAnyH_take (i := 5) (v := ?_) rfl (by kernel_rfl) (by kernel_rfl) (by kernel_rfl) (fun _ _ _ h => h) (Or.inl ⟨by first | kernel_rfl | rfl, ?_⟩) (by assumption) ?_
  rotate_left
  · (intro wq hSw; (try dsimp only at hSw); (try simp (maxSteps := 2000000) only [zz1, zz2, zz3]); go_simp); try with_reducible rfl
  try simp (maxSteps := 2000000) only [zz1, zz2, zz3, Act.put, zz4, zz5, zz6]
  refine wpAnyH_take (i := 6) (v := ?_) rfl (by kernel_rfl) (by kernel_rfl) (by kernel_rfl) (fun _ _ _ h => h) (Or.inl ⟨by first | kernel_rfl | rfl, ?_⟩) (by assumption) ?_
  rotate_left
  · (intro wq hSw; (try dsimp only at hSw); (try simp (maxSteps := 2000000) only [zz1, zz2, zz3]); go_simp); try with_reducible rfl
  try simp (maxSteps := 2000000) only [zz1, zz2, zz3, Act.put, zz4, zz5, zz6]
  refine wpAnyH_take (i := 7) (v := ?_) rfl (by kernel_rfl) (by kernel_rfl) (by kernel_rfl) (fun _ _ _ h => h) (Or.inl ⟨by first | kernel_rfl | rfl, ?_⟩) (by assumption) ?_
  rotate_left
  · (intro wq hSw; (try dsimp only at hSw); (try simp (maxSteps := 2000000) only [zz1, zz2, zz3]); go_simp); try with_reducible rfl
  try simp (maxSteps := 2000000) only [zz1, zz2, zz3, Act.put, zz4, zz5, zz6]
  refine wpAnyH_take (i := 8) (v := ?_) rfl (by kernel_rfl) (by kernel_rfl) (by kernel_rfl) (fun _ _ _ h => h) (Or.inl ⟨by first | kernel_rfl | rfl, ?_⟩) (by assumption) ?_
  rotate_left
  · (intro wq hSw; (try dsimp only at hSw); (try simp (maxSteps := 2000000) only [zz1, zz2, zz3]); go_simp); try with_reducible rfl
  try simp (maxSteps := 2000000) only [zz1, zz2, zz3, Act.put, zz4, zz5, zz6]
  refine wpAnyH_take (i := 9) (v := ?_) rfl (by kernel_rfl) (by kernel_rfl) (by kernel_rfl) (fun _ _ _ h => h) (Or.inl ⟨by first | kernel_rfl | rfl, ?_⟩) (by assumption) ?_
  rotate_left
  · (intro wq hSw; (try dsimp only at hSw); (try simp (maxSteps := 2000000) only [zz1, zz2, zz3]); go_simp); try with_reducible rfl
  try simp (maxSteps := 2000000) only [zz1, zz2, zz3, Act.put, zz4, zz5, zz6]
  refine wpAnyH_take (i := 10) (v := ?_) rfl (by kernel_rfl) (by kernel_rfl) (by kernel_rfl) (fun _ _ _ h => h) (Or.inl ⟨by first | kernel_rfl | rfl, ?_⟩) (by assumption) ?_
  rotate_left
  · (intro wq hSw; (try dsimp only at hSw); (try simp (maxSteps := 2000000) only [zz1, zz2, zz3]); go_simp); try with_reducible rfl
  try simp (maxSteps := 2000000) only [zz1, zz2, zz3, Act.put, zz4, zz5, zz6]
  refine wpAnyH_take (i := 11) (v := ?_) rfl (by kernel_rfl) (by kernel_rfl) (by kernel_rfl) (fun _ _ _ h => h) (Or.inl ⟨by first | kernel_rfl | rfl, ?_⟩) (by assumption) ?_
  rotate_left
  · (intro wq hSw; (try dsimp only at hSw); (try simp (maxSteps := 2000000) only [zz1, zz2, zz3]); go_simp); try with_reducible rfl
  try simp (maxSteps := 2000000) only [zz1, zz2, zz3, Act.put, zz4, zz5, zz6]
  refine wpAnyH_take (i := 12) (v := ?_) rfl (by kernel_rfl) (by kernel_rfl) (by kernel_rfl) (fun _ _ _ h => h) (Or.inl ⟨by first | kernel_rfl | rfl, ?_⟩) (by assumption) ?_
  rotate_left
  · (intro wq hSw; (try dsimp only at hSw); (try simp (maxSteps := 2000000) only [zz1, zz2, zz3]); go_simp); try with_reducible rfl
  try simp (maxSteps := 2000000) only [zz1, zz2, zz3, Act.put, zz4, zz5, zz6]
  refine wpAnyH_take (i := 13) (v := ?_) rfl (by kernel_rfl) (by kernel_rfl) (by kernel_rfl) (fun _ _ _ h => h) (Or.inl ⟨by first | kernel_rfl | rfl, ?_⟩) (by assumption) ?_
  rotate_left
  · (intro wq hSw; (try dsimp only at hSw); (try simp (maxSteps := 2000000) only [zz1, zz2, zz3]); go_simp); try with_reducible rfl
  try simp (maxSteps := 2000000) only [zz1, zz2, zz3, Act.put, zz4, zz5, zz6]
  refine wpAnyH_take (i := 14) (v := ?_) rfl (by kernel_rfl) (by kernel_rfl) (by kernel_rfl) (fun _ _ _ h => h) (Or.inl ⟨by first | kernel_rfl | rfl, ?_⟩) (by assumption) ?_
  rotate_left
  · (intro wq hSw; (try dsimp only at hSw); (try simp (maxSteps := 2000000) only [zz1, zz2, zz3]); go_simp); try with_reducible rfl
  try simp (maxSteps := 2000000) only [zz1, zz2, zz3, Act.put, zz4, zz5, zz6]
  refine wpAnyH_take (i := 15) (v := ?_) rfl (by kernel_rfl) (by kernel_rfl) (by kernel_rfl) (fun _ _ _ h => h) (Or.inl ⟨by first | kernel_rfl | rfl, ?_⟩) (by assumption) ?_
  rotate_left
  · (intro wq hSw; (try dsimp only at hSw); (try simp (maxSteps := 2000000) only [zz1, zz2, zz3]); go_simp); try with_reducible rfl
  try simp (maxSteps := 2000000) only [zz1, zz2, zz3, Act.put, zz4, zz5, zz6]
  refine wpAnyH_take (i := 16) (v := ?_) rfl (by kernel_rfl) (by kernel_rfl) (by kernel_rfl) (fun _ _ _ h => h) (Or.inl ⟨by first | kernel_rfl | rfl, ?_⟩) (by assumption) ?_
  rotate_left
  · (intro wq hSw; (try dsimp only at hSw); (try simp (maxSteps := 2000000) only [zz1, zz2, zz3]); go_simp); try with_reducible rfl
  try simp (maxSteps := 2000000) only [zz1, zz2, zz3, Act.put, zz4, zz5, zz6]
  refine wpAnyH_take (i := 17) (v := ?_) rfl (by kernel_rfl) (by kernel_rfl) (by kernel_rfl) (fun _ _ _ h => h) (Or.inl ⟨by first | kernel_rfl | rfl, ?_⟩) (by assumption) ?_
  rotate_left
  · (intro wq hSw; (try dsimp only at hSw); (try simp (maxSteps := 2000000) only [zz1, zz2, zz3]); go_simp); try with_reducible rfl
  try simp (maxSteps := 2000000) only [zz1, zz2, zz3, Act.put, zz4, zz5, zz6]
  refine wpAnyH_take (i := 18) (v := ?_) rfl (by kernel_rfl) (by kernel_rfl) (by kernel_rfl) (fun _ _ _ h => h) (Or.inl ⟨by first | kernel_rfl | rfl, ?_⟩) (by assumption) ?_
  rotate_left
  · (intro wq hSw; (try dsimp only at hSw); (try simp (maxSteps := 2000000) only [zz1, zz2, zz3]); go_simp); try with_reducible rfl
  try simp (maxSteps := 2000000) only [zz1, zz2, zz3, Act.put, zz4, zz5, zz6]
  refine wpAnyH_take (i := 19) (v := ?_) rfl (by kernel_rfl) (by kernel_rfl) (by kernel_rfl) (fun _ _ _ h => h) (Or.inl ⟨by first | kernel_rfl | rfl, ?_⟩) (by assumption) ?_
  rotate_left
  · (intro wq hSw; (try dsimp only at hSw); (try simp (maxSteps := 2000000) only [zz1, zz2, zz3]); go_simp); try with_reducible rfl
  try simp (maxSteps := 2000000) only [zz1, zz2, zz3, Act.put, zz4, zz5, zz6]
  refine wpAnyH_take (i := 20) (v := ?_) rfl (by kernel_rfl) (by kernel_rfl) (by kernel_rfl) (fun _ _ _ h => h) (Or.inl ⟨by first | kernel_rfl | rfl, ?_⟩) (by assumption) ?_
  rotate_left
  · (intro wq hSw; (try dsimp only at hSw); (try simp (maxSteps := 2000000) only [zz1, zz2, zz3]); go_simp); try with_reducible rfl
  try simp (maxSteps := 2000000) only [zz1, zz2, zz3, Act.put, zz4, zz5, zz6]
  refine wpAnyH_take (i := 21) (v := ?_) rfl (by kernel_rfl) (by kernel_rfl) (by kernel_rfl) (fun _ _ _ h => h) (Or.inl ⟨by first | kernel_rfl | rfl, ?_⟩) (by assumption) ?_
  rotate_left
  · (intro wq hSw; (try dsimp only at hSw); (try simp (maxSteps := 2000000) only [zz1, zz2, zz3]); go_simp); try with_reducible rfl
  try simp (maxSteps := 2000000) only [zz1, zz2, zz3, Act.put, zz4, zz5, zz6]
  refine wpAnyH_take (i := 22) (v := ?_) rfl (by kernel_rfl) (by kernel_rfl) (by kernel_rfl) (fun _ _ _ h => h) (Or.inl ⟨by first | kernel_rfl | rfl, ?_⟩) (by assumption) ?_
  rotate_left
  · (intro wq hSw; (try dsimp only at hSw); (try simp (maxSteps := 2000000) only [zz1, zz2, zz3]); go_simp); try with_reducible rfl
  try simp (maxSteps := 2000000) only [zz1, zz2, zz3, Act.put, zz4, zz5, zz6]
  refine wpAnyH_take (i := 23) (v := ?_) rfl (by kernel_rfl) (by kernel_rfl) (by kernel_rfl) (fun _ _ _ h => h) (Or.inl ⟨by first | kernel_rfl | rfl, ?_⟩) (by assumption) ?_
  rotate_left
  · (intro wq hSw; (try dsimp only at hSw); (try simp (maxSteps := 2000000) only [zz1, zz2, zz3]); go_simp); try with_reducible rfl
  try simp (maxSteps := 2000000) only [zz1, zz2, zz3, Act.put, zz4, zz5, zz6]
  refine wpAnyH_ready (rs := [24]) (by kernel_rfl) (by simp) ?_
  refine AllReadyH.cons rfl (fun K hK => ?_) AllReadyH.nil
  try simp (maxSteps := 2000000) only [zz1, zz2, zz3]
  go_simp
  go_at_call 138
  refine (hSc _ hw6).mono ?_
  rintro e w7 ⟨rfl, hb7⟩
  have hw7 := hw6.trans (hb7.mono hw6.size)
  have bR7 := bR6.below hb7
  have s7 : w7.cell? ⟨q, 0, none⟩ = some (.int .u8 (r.kind : Int)) ∧ w7.cell? ⟨q, 1, none⟩ = some (.int .i64 (r.place : Int)) := ⟨bR7.cell 0, bR7.cell 1⟩
  try (go_wp2_with fail)
  refine hK.out _ _ (by first | exact s0 | exact s5 | exact s6 | exact s7) (fun hHeld => ?_)
  clear hK K
  try simp (maxSteps := 2000000) only [zz1, zz2, zz3, Act.put, zz4, zz5, zz6]
  refine wpAnyH_take (i := 25) (v := ?_) rfl (by kernel_rfl) (by kernel_rfl) (by kernel_rfl) (fun _ _ _ h => h) (Or.inl ⟨by first | kernel_rfl | rfl, ?_⟩) (by assumption) ?_
  rotate_left
  · (intro wq hSw; (try dsimp only at hSw); (try simp (maxSteps := 2000000) only [zz1, zz2, zz3]); go_simp); try with_reducible rfl
  try simp (maxSteps := 2000000) only [zz1, zz2, zz3, Act.put, zz4, zz5, zz6]
  refine wpAnyH_take (i := 26) (v := ?_) rfl (by kernel_rfl) (by kernel_rfl) (by kernel_rfl) (fun _ _ _ h => h) (Or.inl ⟨by first | kernel_rfl | rfl, ?_⟩) (by assumption) ?_
  rotate_left
  · (intro wq hSw; (try dsimp only at hSw); (try simp (maxSteps := 2000000) only [zz1, zz2, zz3]); go_simp); try with_reducible rfl
  try simp (maxSteps := 2000000) only [zz1, zz2, zz3, Act.put, zz4, zz5, zz6]
  refine wpAnyH_take (i := 27) (v := ?_) rfl (by kernel_rfl) (by kernel_rfl) (by kernel_rfl) (fun _ _ _ h => h) (Or.inl ⟨by first | kernel_rfl | rfl, ?_⟩) (by assumption) ?_
  rotate_left
  · (intro wq hSw; (try dsimp only at hSw); (try simp (maxSteps := 2000000) only [zz1, zz2, zz3]); go_simp); try with_reducible rfl
  try simp (maxSteps := 2000000) only [zz1, zz2, zz3, Act.put, zz4, zz5, zz6]
  refine wpAnyH_done (by kernel_rfl) ?_ _
  have HW7 := Lib.hid hw7
  have r0 : w7.cell? ⟨q, 0, none⟩ = some (.int .u8 (r.kind : Int)) := bR7.cell 0
  have r1 : w7.cell? ⟨q, 1, none⟩ = some (.int .i64 (r.place : Int)) := bR7.cell 1
  have r2 : w7.cell? ⟨q, 2, none⟩ = some (.int .u64 (r.gen : Int)) := bR7.cell 2
  clear hN hCn hSc hw5 hw6 hw7 bR5 bR6 bRd hwd
  go_wp2_with fail
  go_ret2
  refine ⟨w7.heap.size, rfl, HW7.out.size, ?_, HW7.out.alloc HW7.out.size _⟩
  exact BoxAt.new w7 (setC a cb r) 220
end
end
section
def keysF (R : Nat → Option Shd) (i : Nat) : List Nat := (wholeF R i).1.map (·.1)
theorem keysF_step (R : Nat → Option Shd) (i : Nat) : keysF R (i + 1) = keysF R i ∨ keysF R (i + 1) = keysF R i ++ [i] := by
  have hw : ∀ l : List (Nat × Shd) × Nat, wholeF R (i + 1) = l → l.1.map (·.1) = keysF R i ∨ l.1.map (·.1) = keysF R i ++ [i] := fun l e => by
    rw [wholeF] at e
    unfold keysF
    split at e
    · exact .inl (by rw [← e])
    · split at e
      · exact .inl (by rw [← e])
      · exact .inr (by rw [← e]; simp)
  exact hw _ rfl
theorem keysF_filter (R : Nat → Option Shd) : ∀ i, (List.range i).filter (fun j => decide (j ∈ keysF R i)) = keysF R i
  | 0 => rfl
  | i + 1 => by
    have ih := keysF_filter R i
    have hlt : ∀ j ∈ keysF R i, j < i := fun j hj => by
      obtain ⟨p, hp, rfl⟩ := List.mem_map.1 hj
      exact wholeF_lt R i p hp
    rw [List.range_succ, List.filter_append]
    rcases keysF_step R i with e | e
    · rw [e, ih, List.filter_cons_of_neg (by simp; exact fun h => absurd (hlt i h) (Nat.lt_irrefl i)), List.filter_nil, List.append_nil]
    · have hsame : (List.range i).filter (fun j => decide (j ∈ keysF R i ++ [i])) = (List.range i).filter (fun j => decide (j ∈ keysF R i)) := by
        refine List.filter_congr fun j hj => ?_
        have hj' := List.mem_range.1 hj
        have : (j ∈ keysF R i ++ [i]) ↔ j ∈ keysF R i := by
          rw [List.mem_append, List.mem_singleton]
          exact ⟨fun h => h.elim id fun h => absurd h (Nat.ne_of_lt hj'), .inl⟩
        exact decide_eq_decide.2 this
      rw [e, hsame, ih, List.filter_cons_of_pos (by simp), List.filter_nil]
theorem lookS_some {l : List (Nat × Shd)} {i : Nat} : (lookS l i).isSome = decide (i ∈ l.map (·.1)) := by
  induction l with
  | nil => rfl
  | cons p l ih =>
    unfold lookS at ih ⊢
    by_cases h : p.1 = i
    · rw [List.find?_cons_of_pos (by simpa using h)]
      simp [h]
    · rw [List.find?_cons_of_neg (by simpa using h), ih]
      exact decide_eq_decide.2 ⟨List.mem_cons_of_mem _, fun h' => (List.mem_cons.1 h').elim (fun e => absurd e.symm h) id⟩
theorem wholeF_ok (R : Nat → Option Shd) (hR : ∀ i x, R i = some x → x.ok) : ∀ i, ∀ p ∈ (wholeF R i).1, p.2.ok
  | 0, p, h => by simp [wholeF] at h
  | i + 1, p, h => by
    have ih := wholeF_ok R hR i
    unfold wholeF at h
    split at h
    · exact ih p h
    · rename_i x hx
      split at h
      · exact ih p h
      · rcases List.mem_append.1 h with h1 | h1
        · exact ih p h1
        · simp at h1; subst h1; exact hR i x hx
theorem wholeF_size2 (R : Nat → Option Shd) {c : Nat} (hR : ∀ i x, R i = some x → x.size ≤ c) : ∀ i, (wholeF R i).2 ≤ c
  | 0 => by simp [wholeF]
  | i + 1 => by
    unfold wholeF
    split
    · exact wholeF_size2 R hR i
    · rename_i x hx
      split
      · exact wholeF_size2 R hR i
      · exact hR i x hx
section
variable {R : Nat → Option Shd} {N k m : Nat} (hR : ∀ i x, R i = some x → x.ok)
include hR
theorem rowsS_lenF {j : Nat} (hj : j < N) : lenF (rowsS (wholeF R N).1 N) j = if j ∈ keysF R N then 44 else 0 := by
  have e : ra (rowsS (wholeF R N).1 N) j = bodyO (lookS (wholeF R N).1 j) := ra_some (by unfold rowsS; rw [List.getElem?_map, List.getElem?_range hj]; rfl)
  unfold lenF
  rw [e]
  have hs := lookS_some (l := (wholeF R N).1) (i := j)
  cases hlo : lookS (wholeF R N).1 j with
  | none =>
    rw [hlo] at hs
    rw [if_neg (by intro h; unfold keysF at h; rw [decide_eq_true h] at hs; cases hs)]; rfl
  | some x =>
    rw [hlo] at hs
    rw [if_pos (by unfold keysF; exact of_decide_eq_true hs.symm)]
    exact (lookS_ok (wholeF_ok R hR N) hlo).l
theorem rowsS_thU : thU (rowsS (wholeF R N).1 N) N = keysF R N := by
  rw [← keysF_filter R N]
  unfold thU
  refine List.filter_congr fun j hj => ?_
  rw [rowsS_lenF hR (List.mem_range.1 hj)]
  by_cases h : j ∈ keysF R N
  · simp [h]
  · simp [h]
theorem rowsS_bad (hN : N = k + m) : thBad k m N (rowsS (wholeF R N).1 N) = false := by
  unfold thBad
  rw [Bool.or_eq_false_iff]
  refine ⟨by simpa using hN, List.any_eq_false.2 fun u hu => ?_⟩
  have hg := gt_mem (l := thU (rowsS (wholeF R N).1 N) N) (i := 0) (List.length_pos_of_mem hu)
  have e : ∀ j, j ∈ thU (rowsS (wholeF R N).1 N) N → lenF (rowsS (wholeF R N).1 N) j = 44 := fun j hj => by
    have h1 := thU_mem hj
    have h2 := rowsS_lenF hR h1.1
    rw [h2]
    split
    · rfl
    · rename_i h3; rw [if_neg h3] at h2; omega
  unfold oddB
  rw [e u hu, e _ hg]
  simp
theorem rowsS_len1 (i : Nat) : lenF (rowsS (wholeF R N).1 N) i ≤ 1000000 := by
  by_cases hi : i < N
  · rw [rowsS_lenF hR hi]; split <;> omega
  · unfold lenF ra
    rw [List.getD_eq_getElem?_getD, List.getElem?_eq_none (by unfold rowsS; simp; omega)]
    exact Nat.zero_le _
end
end
section
/-- Each drive's sector at this place reads as 64 bytes. -/
structure RdOk (sts : List DSt) (z : Nat) : Prop where
  b : ∀ st ∈ sts, StB st z
  l : ∀ st ∈ sts, (secN st z).length = 64
def stR (sts : List DSt) (k : Nat) (r : Ref) (i : Nat) : Option Shd := match sts[homeN sts.length r.place i]? with
  | none => none
  | some st => rdS st k r i
theorem rdX_ok {xs : List Nat} {k : Nat} {r : Ref} {i : Nat} {x : Shd} (hl : xs.length = 64) (hb : Byt xs) (h : rdX xs k r i = some x) : x.ok ∧ x.size ≤ k * 44 := by
  unfold rdX at h
  split at h
  · rename_i h2
    cases h
    exact ⟨decS_ok hl hb, h2.2.2.2⟩
  · cases h
theorem secN_byt {st : DSt} {z : Nat} (h : StB st z) : Byt (secN st z) := fun x hx => by
  obtain ⟨y, hy, rfl⟩ := List.mem_map.1 hx
  have := h y hy
  omega
theorem stR_ok {sts : List DSt} {k : Nat} {r : Ref} (h : RdOk sts r.place) (i : Nat) (x : Shd) (hx : stR sts k r i = some x) : x.ok ∧ x.size ≤ k * 44 := by
  unfold stR at hx
  split at hx
  · cases hx
  · rename_i st hst
    have hm := List.mem_of_getElem? hst
    unfold rdS at hx
    split at hx
    · cases hx
    · exact rdX_ok (h.l st hm) (secN_byt (h.b st hm)) hx
theorem homeN_lt {n p i : Nat} (h : 1 ≤ n) : homeN n p i < n := Nat.mod_lt _ h
section
variable {U : Nat → Prop} {w : World} {a n s cb b k m : Nat} {v : Value} {Fs : Nat → Nat → Prop} {ps : List Nat} {sts : List DSt} {r : Ref}
theorem swhole_any (hS : BoxAt w s (setC a cb r)) (h : Hid (ArrB U w a v Fs ps n sts)) (HC : CodAt w cb b k m) (hlen : sts.length = k + m) (hz : r.place < n) (hR : RdOk sts r.place) :
    Calls Tryz.prog 87 #[.pointer (some ⟨s, 0, none⟩)] w fun e w' => ∃ mb, e = .returned (.tuple #[.map (some mb), .int .i64 ((wholeF (stR sts k r) (k + m)).2 : Nat)]) ∧ MapAt (Value.int .i64) w' mb (mapE (wholeF (stR sts k r) (k + m)).1) ∧ Below w.heap.size w w' ∧ w.heap.size ≤ mb := by
  refine whole_any hS HC (stR sts k r) (fun i x hx => (stR_ok hR i x hx).1) (Lib.hid fun i hi w' hb => ?_)
  have hk1 := HC.k1
  have hlt : homeN sts.length r.place i < sts.length := homeN_lt (by omega)
  have hst : sts[homeN sts.length r.place i]? = some sts[homeN sts.length r.place i] := List.getElem?_eq_getElem hlt
  have hm := List.getElem_mem hlt
  have e : stR sts k r i = rdS sts[homeN sts.length r.place i] k r i := by unfold stR; rw [hst]
  rw [e]
  exact sread_any (hS.below hb) (Lib.hid (h.out.below hb)) (HC.below hb) hlen hz i hst (hR.b _ hm) (hR.l _ hm)
end
theorem rowsS_out {R : Nat → Option Shd} {N k m : Nat} (hR : ∀ i x, R i = some x → x.ok) (hN : N = k + m) (hk : 1 ≤ k) (hkm : k + m ≤ 255) (hf : ¬ (thU (rowsS (wholeF R N).1 N) N).length < k) {nr i : Nat} (hnr : nr ≤ k + m) (hi : i < nr) :
    (ra (outF k N nr (rowsS (wholeF R N).1 N)) i).length = 44 := by
  have hb := rowsS_bad hR hN
  obtain ⟨_, hul, huse⟩ := use_ok hb hf hk
  have e44 : ∀ j, j ∈ thU (rowsS (wholeF R N).1 N) N → lenF (rowsS (wholeF R N).1 N) j = 44 := fun j hj => by
    have h1 := thU_mem hj
    have h2 := rowsS_lenF hR h1.1
    rw [h2]
    split
    · rfl
    · rename_i h3; rw [if_neg h3] at h2; omega
  have hg : gt (useT k N (rowsS (wholeF R N).1 N)) 0 ∈ thU (rowsS (wholeF R N).1 N) N := List.mem_of_mem_take (gt_mem (l := useT k N (rowsS (wholeF R N).1 N)) (i := 0) (by omega))
  have e : ra (outF k N nr (rowsS (wholeF R N).1 N)) i = fillOne k (useT k N (rowsS (wholeF R N).1 N)) (rowsS (wholeF R N).1 N) (lenF (rowsS (wholeF R N).1 N) (gt (useT k N (rowsS (wholeF R N).1 N)) 0)) i := ra_some (by unfold outF; rw [List.getElem?_map, List.getElem?_range hi]; rfl)
  rw [e]
  unfold fillOne
  split
  · rename_i h
    have h2 := rowsS_lenF hR (show i < N by omega)
    unfold lenF at h2 h
    rw [h2]
    split
    · rfl
    · rename_i h3; rw [if_neg h3] at h2; omega
  · rw [e44 _ hg]
    exact (combF_ok _ _ _ (by simp) (byt_zeros 44)).1
section
variable {U : Nat → Prop} {w : World} {a n cb b k m : Nat} {v : Value} {Fs : Nat → Nat → Prop} {ps : List Nat} {sts : List DSt} {r : Ref}
end
end
section
theorem AUpd.pre {U : Nat → Prop} {w w1 w2 : World} {a s : Nat} {sts : List DSt} (hb : Below w.heap.size w w1) (h : AUpd U w1 w2 a s sts) : AUpd U w w2 a s sts := AUpd.trans (fun _ h _ => h) (Keep.of_below hb) h
/-- The bytes of a shard, as they are written. -/
def wrI (x : Shd) : List Int := (sncS x).map fun b : Nat => (b : Int)
def shR (r : Ref) (i size : Nat) (row : List Nat) : Shd := ⟨r.kind, i, r.place, r.gen, size, row⟩
theorem setC_below {B : Nat} {w w' : World} (h : Below B w w') (hB : B ≤ w'.heap.size) {p : Nat} (hp : B ≤ p) (o : Nat) (vs : List Value) : Below B w (w'.setCells p o vs) :=
  h.trans ((setCells_keep w' p o vs).below hB (fun k e => by rw [e]; exact hp))
attribute [local go_sem ↓] shut_loadS shut_zeroS shut_buildS shut_storeS
attribute [local go_sem] run_zeroS
section
variable {U : Nat → Prop} {w : World} {a n s cb size : Nat} {v : Value} {Fs : Nat → Nat → Prop} {ps : List Nat} {sts : List DSt} {r : Ref}
set_option maxRecDepth 100000 in
set_option maxHeartbeats 8000000 in
theorem swrite_any (hS : BoxAt w s (setC a cb r)) (h : Hid (ArrB U w a v Fs ps n sts)) (hl1 : 1 ≤ sts.length) (hl2 : sts.length ≤ 255) (hr : r.ok n) (hn : n ≤ 60000) (hg : Hid (r.gen < 2 ^ 64)) {i : Nat} (hi : i < sts.length) (hsz : size ≤ 60000) {A : Option Addr} {c : Nat} {S : Nat → Prop} {row : List Nat} (R : RdL ByR 1 S w A 44 row) {st : DSt} (hst : sts[homeN sts.length r.place i]? = some st) (hcl : st.cache.length < 1000000) (hnU : ¬ U s) :
    Calls Tryz.prog 145 #[.pointer (some ⟨s, 0, none⟩), .int .i64 (i : Int), .int .i64 (size : Int), .slice A 44 c] w fun e w' => e = .returned (.bool (!st.dead)) ∧ AUpd U w w' a n (sts.set (homeN sts.length r.place i) (wrDA n st (r.place : Int) (wrI (shR r i size row)))) := by
  have hp := hr.p
  have hSd : BoxAt w.drew s (setC a cb r) := hS.keep rfl
  have s0 : w.drew.cell? ⟨s, 2, none⟩ = some (.int .u8 (r.kind : Int)) ∧ w.drew.cell? ⟨s, 3, none⟩ = some (.int .i64 (r.place : Int)) ∧ w.drew.cell? ⟨s, 4, none⟩ = some (.int .u64 (r.gen : Int)) := ⟨hSd.cell 2, hSd.cell 3, hSd.cell 4⟩
  have hbd : Below w.heap.size w w.drew := (Below.refl _ _).drew
  have b1 := BoxAt.new w.drew (shC sh0) 193
  have hb1 : Below w.heap.size w (w.drew.alloc (.cells (shC sh0) 193)) := hbd.alloc hbd.size _
  have hS1 := hS.below hb1
  obtain ⟨W1, hW1⟩ : ∃ W, w.drew.alloc (.cells (shC sh0) 193) = W := ⟨_, rfl⟩
  rw [hW1] at b1 hb1 hS1
  obtain ⟨q, hq⟩ : ∃ q, w.drew.heap.size = q := ⟨_, rfl⟩
  have hqw : w.heap.size = q := hq
  rw [hq] at b1
  have s1 : W1.cell? ⟨s, 2, none⟩ = some (.int .u8 (r.kind : Int)) ∧ W1.cell? ⟨s, 3, none⟩ = some (.int .i64 (r.place : Int)) ∧ W1.cell? ⟨s, 4, none⟩ = some (.int .u64 (r.gen : Int)) := ⟨hS1.cell 2, hS1.cell 3, hS1.cell 4⟩
  have hx0 : (⟨r.kind, i, r.place, r.gen, size, z44⟩ : Shd).body.length = 44 := z44_len
  have hst1 := run_storeS (y := ⟨r.kind, i, r.place, r.gen, size, z44⟩) b1 sh0_ok.l hx0
  have b2 := shC_set (y := ⟨r.kind, i, r.place, r.gen, size, z44⟩) b1 sh0_ok.l hx0
  have hb2 := setS_below hb1 (p := q) (by omega) (shV ⟨r.kind, i, r.place, r.gen, size, z44⟩)
  have hS2 := hS.below hb2
  obtain ⟨W2, hW2⟩ : ∃ W, W1.setCells q 0 (shV ⟨r.kind, i, r.place, r.gen, size, z44⟩) = W := ⟨_, rfl⟩
  rw [hW2] at hst1 b2 hb2 hS2
  have s2 : W2.cell? ⟨s, 2, none⟩ = some (.int .u8 (r.kind : Int)) ∧ W2.cell? ⟨s, 3, none⟩ = some (.int .i64 (r.place : Int)) ∧ W2.cell? ⟨s, 4, none⟩ = some (.int .u64 (r.gen : Int)) := ⟨hS2.cell 2, hS2.cell 3, hS2.cell 4⟩
  have hbl := run_build5 r.kind i r.place r.gen size
  have m1 : IntKind.u8.wrap (i : Int) = (i : Int) := by rw [IntKind.wrap_u8]; omega
  have m2 : IntKind.u16.wrap (r.place : Int) = (r.place : Int) := by rw [IntKind.wrap_u16]; omega
  have m3 : IntKind.u16.wrap (size : Int) = (size : Int) := by rw [IntKind.wrap_u16]; omega
  have H := h
  have HBS := Lib.hid hS
  have HR := Lib.hid R
  have HST := Lib.hid hst
  have HSZ := Lib.hid (show i < 256 ∧ r.place < 65536 ∧ size < 65536 by omega)
  clear hS hSd h R hst hS1 hbd
  go_enter Tryz.func145, Tryz.ntmps145
  go_wp2_with fail
  refine wp_region_held_drew (S := fun w' => w'.cell? ⟨s, 2, none⟩ = some (.int .u8 (r.kind : Int)) ∧ w'.cell? ⟨s, 3, none⟩ = some (.int .i64 (r.place : Int)) ∧ w'.cell? ⟨s, 4, none⟩ = some (.int .u64 (r.gen : Int))) (by kernel_rfl) (by first | exact s0 | exact s1 | exact s2) (fun hHeld => ?_)
  refine wpAnyH_take (i := 0) (v := ?_) rfl (by kernel_rfl) (by kernel_rfl) (by kernel_rfl) (fun _ _ _ h => h) (Or.inl ⟨by first | kernel_rfl | rfl, ?_⟩) (by assumption) ?_
  rotate_left
  · (intro wq hSw; (try dsimp only at hSw); (try simp (maxSteps := 2000000) only [zz1, zz2, zz3]); go_simp); try with_reducible rfl
  try simp (maxSteps := 2000000) only [zz1, zz2, zz3, Act.put, zz4, zz5, zz6]
  refine wpAnyH_take (i := 1) (v := ?_) rfl (by kernel_rfl) (by kernel_rfl) (by kernel_rfl) (fun _ _ _ h => h) (Or.inl ⟨by first | kernel_rfl | rfl, ?_⟩) (by assumption) ?_
  rotate_left
  · (intro wq hSw; (try dsimp only at hSw); (try simp (maxSteps := 2000000) only [zz1, zz2, zz3]); go_simp); try with_reducible rfl
  try simp (maxSteps := 2000000) only [zz1, zz2, zz3, Act.put, zz4, zz5, zz6]
  refine wpAnyH_take (i := 2) (v := ?_) rfl (by kernel_rfl) (by kernel_rfl) (by kernel_rfl) (fun _ _ _ h => h) (Or.inl ⟨by first | kernel_rfl | rfl, ?_⟩) (by assumption) ?_
  rotate_left
  · (intro wq hSw; (try dsimp only at hSw); (try simp (maxSteps := 2000000) only [zz1, zz2, zz3]); go_simp); try with_reducible rfl
  try simp (maxSteps := 2000000) only [zz1, zz2, zz3, Act.put, zz4, zz5, zz6]
  refine wpAnyH_take (i := 3) (v := ?_) rfl (by kernel_rfl) (by kernel_rfl) (by kernel_rfl) (fun _ _ _ h => h) (Or.inl ⟨by first | kernel_rfl | rfl, ?_⟩) (by assumption) ?_
  rotate_left
  · (intro wq hSw; (try dsimp only at hSw); (try simp (maxSteps := 2000000) only [zz1, zz2, zz3]); go_simp); try with_reducible rfl
  try simp (maxSteps := 2000000) only [zz1, zz2, zz3, Act.put, zz4, zz5, zz6]
  refine wpAnyH_take (i := 4) (v := ?_) rfl (by kernel_rfl) (by kernel_rfl) (by kernel_rfl) (fun _ _ _ h => h) (Or.inl ⟨by first | kernel_rfl | rfl, ?_⟩) (by assumption) ?_
  rotate_left
  · (intro wq hSw; (try dsimp only at hSw); (try simp (maxSteps := 2000000) only [zz1, zz2, zz3]); go_simp); try with_reducible rfl
  try simp (maxSteps := 2000000) only [zz1, zz2, zz3, Act.put, zz4, zz5, zz6]
  refine wpAnyH_take (i := 5) (v := ?_) rfl (by kernel_rfl) (by kernel_rfl) (by kernel_rfl) (fun _ _ _ h => h) (Or.inl ⟨by first | kernel_rfl | rfl, ?_⟩) (by assumption) ?_
  rotate_left
  · (intro wq hSw; (try dsimp only at hSw); (try simp (maxSteps := 2000000) only [zz1, zz2, zz3]); go_simp); try with_reducible rfl
  try simp (maxSteps := 2000000) only [zz1, zz2, zz3, Act.put, zz4, zz5, zz6]
  refine wpAnyH_take (i := 6) (v := ?_) rfl (by kernel_rfl) (by kernel_rfl) (by kernel_rfl) (fun _ _ _ h => h) (Or.inl ⟨by first | kernel_rfl | rfl, ?_⟩) (by assumption) ?_
  rotate_left
  · (intro wq hSw; (try dsimp only at hSw); (try simp (maxSteps := 2000000) only [zz1, zz2, zz3]); go_simp); try with_reducible rfl
  try simp (maxSteps := 2000000) only [zz1, zz2, zz3, Act.put, zz4, zz5, zz6]
  refine wpAnyH_take (i := 7) (v := ?_) rfl (by kernel_rfl) (by kernel_rfl) (by kernel_rfl) (fun _ _ _ h => h) (Or.inl ⟨by first | kernel_rfl | rfl, ?_⟩) (by assumption) ?_
  rotate_left
  · (intro wq hSw; (try dsimp only at hSw); (try simp (maxSteps := 2000000) only [zz1, zz2, zz3]); go_simp); try with_reducible rfl
  try simp (maxSteps := 2000000) only [zz1, zz2, zz3, Act.put, zz4, zz5, zz6]
  refine wpAnyH_take (i := 8) (v := ?_) rfl (by kernel_rfl) (by kernel_rfl) (by kernel_rfl) (fun _ _ _ h => h) (Or.inl ⟨by first | kernel_rfl | rfl, ?_⟩) (by assumption) ?_
  rotate_left
  · (intro wq hSw; (try dsimp only at hSw); (try simp (maxSteps := 2000000) only [zz1, zz2, zz3]); go_simp); try with_reducible rfl
  try simp (maxSteps := 2000000) only [zz1, zz2, zz3, Act.put, zz4, zz5, zz6]
  refine wpAnyH_take (i := 9) (v := ?_) rfl (by kernel_rfl) (by kernel_rfl) (by kernel_rfl) (fun _ _ _ h => h) (Or.inl ⟨by first | kernel_rfl | rfl, ?_⟩) (by assumption) ?_
  rotate_left
  · (intro wq hSw; (try dsimp only at hSw); (try simp (maxSteps := 2000000) only [zz1, zz2, zz3]); go_simp); try with_reducible rfl
  try simp (maxSteps := 2000000) only [zz1, zz2, zz3, Act.put, zz4, zz5, zz6]
  refine wpAnyH_take (i := 10) (v := ?_) rfl (by kernel_rfl) (by kernel_rfl) (by kernel_rfl) (fun _ _ _ h => h) (Or.inl ⟨by first | kernel_rfl | rfl, ?_⟩) (by assumption) ?_
  rotate_left
  · (intro wq hSw; (try dsimp only at hSw); (try simp (maxSteps := 2000000) only [zz1, zz2, zz3]); go_simp); try with_reducible rfl
  try simp (maxSteps := 2000000) only [zz1, zz2, zz3, Act.put, zz4, zz5, zz6]
  refine wpAnyH_take (i := 11) (v := ?_) rfl (by kernel_rfl) (by kernel_rfl) (by kernel_rfl) (fun _ _ _ h => h) (Or.inl ⟨by first | kernel_rfl | rfl, ?_⟩) (by assumption) ?_
  rotate_left
  · (intro wq hSw; (try dsimp only at hSw); (try simp (maxSteps := 2000000) only [zz1, zz2, zz3]); go_simp); try with_reducible rfl
  try simp (maxSteps := 2000000) only [zz1, zz2, zz3, Act.put, zz4, zz5, zz6]
  refine wpAnyH_take (i := 12) (v := ?_) rfl (by kernel_rfl) (by kernel_rfl) (by kernel_rfl) (fun _ _ _ h => h) (Or.inl ⟨by first | kernel_rfl | rfl, ?_⟩) (by assumption) ?_
  rotate_left
  · (intro wq hSw; (try dsimp only at hSw); (try simp (maxSteps := 2000000) only [zz1, zz2, zz3]); go_simp); try with_reducible rfl
  try simp (maxSteps := 2000000) only [zz1, zz2, zz3, Act.put, zz4, zz5, zz6]
  refine wpAnyH_take (i := 13) (v := ?_) rfl (by kernel_rfl) (by kernel_rfl) (by kernel_rfl) (fun _ _ _ h => h) (Or.inl ⟨by first | kernel_rfl | rfl, ?_⟩) (by assumption) ?_
  rotate_left
  · (intro wq hSw; (try dsimp only at hSw); (try simp (maxSteps := 2000000) only [zz1, zz2, zz3]); go_simp); try with_reducible rfl
  try simp (maxSteps := 2000000) only [zz1, zz2, zz3, Act.put, zz4, zz5, zz6]
  refine wpAnyH_take (i := 14) (v := ?_) rfl (by kernel_rfl) (by kernel_rfl) (by kernel_rfl) (fun _ _ _ h => h) (Or.inl ⟨by first | kernel_rfl | rfl, ?_⟩) (by assumption) ?_
  rotate_left
  · (intro wq hSw; (try dsimp only at hSw); (try simp (maxSteps := 2000000) only [zz1, zz2, zz3]); go_simp); try with_reducible rfl
  try simp (maxSteps := 2000000) only [zz1, zz2, zz3, Act.put, zz4, zz5, zz6]
  refine wpAnyH_take (i := 15) (v := ?_) rfl (by kernel_rfl) (by kernel_rfl) (by kernel_rfl) (fun _ _ _ h => h) (Or.inl ⟨by first | kernel_rfl | rfl, ?_⟩) (by assumption) ?_
  rotate_left
  · (intro wq hSw; (try dsimp only at hSw); (try simp (maxSteps := 2000000) only [zz1, zz2, zz3]); go_simp); try with_reducible rfl
  try simp (maxSteps := 2000000) only [zz1, zz2, zz3, Act.put, zz4, zz5, zz6]
  refine wpAnyH_take (i := 16) (v := ?_) rfl (by kernel_rfl) (by kernel_rfl) (by kernel_rfl) (fun _ _ _ h => h) (Or.inl ⟨by first | kernel_rfl | rfl, ?_⟩) (by assumption) ?_
  rotate_left
  · (intro wq hSw; (try dsimp only at hSw); (try simp (maxSteps := 2000000) only [zz1, zz2, zz3]); go_simp); try with_reducible rfl
  try simp (maxSteps := 2000000) only [zz1, zz2, zz3, Act.put, zz4, zz5, zz6]
  refine wpAnyH_take (i := 17) (v := ?_) rfl (by kernel_rfl) (by kernel_rfl) (by kernel_rfl) (fun _ _ _ h => h) (Or.inl ⟨by first | kernel_rfl | rfl, ?_⟩) (by assumption) ?_
  rotate_left
  · (intro wq hSw; (try dsimp only at hSw); (try simp (maxSteps := 2000000) only [zz1, zz2, zz3]); go_simp); try with_reducible rfl
  try simp (maxSteps := 2000000) only [zz1, zz2, zz3, Act.put, zz4, zz5, zz6]
  refine wpAnyH_take (i := 18) (v := ?_) rfl (by kernel_rfl) (by kernel_rfl) (by kernel_rfl) (fun _ _ _ h => h) (Or.inl ⟨by first | kernel_rfl | rfl, ?_⟩) (by assumption) ?_
  rotate_left
  · (intro wq hSw; (try dsimp only at hSw); (try simp (maxSteps := 2000000) only [zz1, zz2, zz3]); go_simp); try with_reducible rfl
  try simp (maxSteps := 2000000) only [zz1, zz2, zz3, Act.put, zz4, zz5, zz6]
  refine wpAnyH_take (i := 19) (v := ?_) rfl (by kernel_rfl) (by kernel_rfl) (by kernel_rfl) (fun _ _ _ h => h) (Or.inl ⟨by first | kernel_rfl | rfl, ?_⟩) (by assumption) ?_
  rotate_left
  · (intro wq hSw; (try dsimp only at hSw); (try simp (maxSteps := 2000000) only [zz1, zz2, zz3]); go_simp); try with_reducible rfl
  try simp (maxSteps := 2000000) only [zz1, zz2, zz3, Act.put, zz4, zz5, zz6]
  refine wpAnyH_take (i := 20) (v := ?_) rfl (by kernel_rfl) (by kernel_rfl) (by kernel_rfl) (fun _ _ _ h => h) (Or.inl ⟨by first | kernel_rfl | rfl, ?_⟩) (by assumption) ?_
  rotate_left
  · (intro wq hSw; (try dsimp only at hSw); (try simp (maxSteps := 2000000) only [zz1, zz2, zz3]); go_simp); try with_reducible rfl
  try simp (maxSteps := 2000000) only [zz1, zz2, zz3, Act.put, zz4, zz5, zz6]
  refine wpAnyH_ready (rs := [21]) (by kernel_rfl) (by simp) ?_
  refine AllReadyH.cons rfl (fun K hK => ?_) AllReadyH.nil
  try simp (maxSteps := 2000000) only [zz1, zz2, zz3]
  go_simp
  refine hK.out _ _ (by first | exact s0 | exact s1 | exact s2) (fun hHeld => ?_)
  clear hK K
  try simp (maxSteps := 2000000) only [zz1, zz2, zz3, Act.put, zz4, zz5, zz6]
  refine wpAnyH_ready (rs := [22]) (by kernel_rfl) (by simp) ?_
  refine AllReadyH.cons rfl (fun K hK => ?_) AllReadyH.nil
  try simp (maxSteps := 2000000) only [zz1, zz2, zz3]
  go_simp
  refine hK.out _ _ (by first | exact s0 | exact s1 | exact s2) (fun hHeld => ?_)
  clear hK K
  try simp (maxSteps := 2000000) only [zz1, zz2, zz3, Act.put, zz4, zz5, zz6]
  refine wpAnyH_done (by kernel_rfl) ?_ _
  obtain ⟨bb, o, rfl, _, _⟩ := HR.out.addr (k := 0) (by omega)
  have R2 := HR.out.below ByR.stable hb2
  have hrl : row.length = 44 := R2.1
  have hby := by_byt R2
  have hcl2 : (row.map fun b : Nat => Value.int .u8 (b : Int)).length = 44 := by rw [List.length_map, hrl]
  have hcp : ∀ ty, (Builtin.copy_ #[68, 68] ty #[.slice (some ⟨q, 5, none⟩) 44 44, .slice (some ⟨bb, o, none⟩) 44 c]).run Tryz.prog W2 = .ok (goInt 44) (W2.setCells q 5 (row.map fun b : Nat => Value.int .u8 (b : Int))) := fun ty => by
    have h9 := run_copy_cells (P := Tryz.prog) W2 68 68 ty 5 q 5 44 44 ⟨bb, o, none⟩ 44 c (row.map fun b : Nat => Value.int .u8 (b : Int)) (sl_by).und (by kernel_rfl) (by rw [hcl2]; rfl) (fun j v hj => by rw [Addr.add_lit]; exact by_range R2 j v hj) (fun j hj => by
      rw [hcl2] at hj
      rw [b2.cell, Array.getElem?_eq_getElem (by rw [shC_size hx0]; omega)]; rfl) (fun j hj => by simp [b2.frozen (5 + j)]) (fun u hu => by
      obtain ⟨y, _, rfl⟩ := List.mem_map.1 hu
      rfl)
    rw [hcl2] at h9
    exact h9
  have b3 := shC_body b2 hx0 hrl
  have hb3 := setC_below hb2 hb2.size (p := q) (by omega) 5 (row.map fun b : Nat => Value.int .u8 (b : Int))
  obtain ⟨W3, hW3⟩ : ∃ W, W2.setCells q 5 (row.map fun b : Nat => Value.int .u8 (b : Int)) = W := ⟨_, rfl⟩
  rw [hW3] at hcp b3 hb3
  have hxo : (shR r i size row).ok := ⟨by have := hr.k4; show r.kind < 256; omega, HSZ.out.1, HSZ.out.2.1, hg.out, HSZ.out.2.2, hrl, hby⟩
  have hput := shput_any (w := W3) hxo
  have hld := run_loadS (w := W3) (x := shR r i size row) b3 hrl
  have hkb : kindB (shR r i size row).kind = true := decide_eq_true ⟨hr.k1, hr.k4⟩
  have HKB := Lib.hid hkb
  have HSL := Lib.hid (sncS_len (x := shR r i size row) hrl)
  clear s0 s1 s2 b1 hst1 b2 hb1 hb2 hS2 hbl m1 m2 m3 hHeld R2 hby hcl2 hxo hkb hrl hx0 hW1 hW2
  go_wp2_with fail
  refine hput.mono ?_
  clear hput hcp hld
  rintro e w4 ⟨hb4, ⟨hk, _⟩ | ⟨_, A6, c6, rfl, hc6, hr6⟩⟩
  · exact absurd (hk.symm.trans HKB.out) (by decide)
  have hw4 := hb3.trans (hb4.mono hb3.size)
  have hS4 := HBS.out.below hw4
  have hu6 := by_u8 hr6
  have HU6 := Lib.hid hu6
  have hsz4 : w.heap.size ≤ W3.heap.size := hb3.size
  clear b3 hb3 hW3 hb4 hr6 hu6
  have hd4 : Below w.heap.size w w4.drew := hw4.drew
  have hSd : BoxAt w4.drew s (setC a cb r) := hS4.keep rfl
  have s0 : w4.drew.cell? ⟨s, 0, none⟩ = some (.pointer (some ⟨a, 0, none⟩)) ∧ w4.drew.cell? ⟨s, 3, none⟩ = some (.int .i64 (r.place : Int)) := ⟨hSd.cell 0, hSd.cell 3⟩
  have hH := shome_any hSd (Lib.hid (H.out.below hd4)) hl1 (by omega) i
  have hwr := fun w' (hb : Below w.heap.size w w') hb2 => awrite_in (w := w') (Lib.hid (H.out.below hb)) (homeN sts.length r.place i) HST.out (r.place : Int) (A := A6) (m := 64) (c := c6) (bs := wrI (shR r i size row)) (S := fun j => W3.heap.size ≤ j) hb2 (fun b hS hU => by have := H.out.lt b hU; have hS' : W3.heap.size ≤ b := hS; omega) hcl
  obtain ⟨d, hde⟩ : ∃ d, homeN sts.length r.place i = d := ⟨_, rfl⟩
  rw [hde] at hH hwr
  have HDE := Lib.hid hde
  obtain ⟨E, hE⟩ : ∃ E, writeE st.dead n (r.place : Int) 64 = E := ⟨_, rfl⟩
  rw [hE] at hwr
  have hEd : (E == 0) = !st.dead := by
    rw [← hE]
    unfold writeE readyE
    cases st.dead with
    | true => rfl
    | false => simp [hp]
  have HED := Lib.hid hEd
  clear hd4 hE hEd hde hS4
  go_wp2_with fail
  refine wp_region_held_drew (S := fun w' => w'.cell? ⟨s, 0, none⟩ = some (.pointer (some ⟨a, 0, none⟩)) ∧ w'.cell? ⟨s, 3, none⟩ = some (.int .i64 (r.place : Int))) (by kernel_rfl) (by first | exact s0 | exact s5 | exact s6) (fun hHeld => ?_)
  refine wpAnyH_take (i := 0) (v := ?_) rfl (by kernel_rfl) (by kernel_rfl) (by kernel_rfl) (fun _ _ _ h => h) (Or.inl ⟨by first | kernel_rfl | rfl, ?_⟩) (by assumption) ?_
  rotate_left
  · (intro wq hSw; (try dsimp only at hSw); (try simp (maxSteps := 2000000) only [zz1, zz2, zz3]); go_simp); try with_reducible rfl
  try simp (maxSteps := 2000000) only [zz1, zz2, zz3, Act.put, zz4, zz5, zz6]
  refine wpAnyH_take (i := 1) (v := ?_) rfl (by kernel_rfl) (by kernel_rfl) (by kernel_rfl) (fun _ _ _ h => h) (Or.inl ⟨by first | kernel_rfl | rfl, ?_⟩) (by assumption) ?_
  rotate_left
  · (intro wq hSw; (try dsimp only at hSw); (try simp (maxSteps := 2000000) only [zz1, zz2, zz3]); go_simp); try with_reducible rfl
  try simp (maxSteps := 2000000) only [zz1, zz2, zz3, Act.put, zz4, zz5, zz6]
  refine wpAnyH_take (i := 2) (v := ?_) rfl (by kernel_rfl) (by kernel_rfl) (by kernel_rfl) (fun _ _ _ h => h) (Or.inl ⟨by first | kernel_rfl | rfl, ?_⟩) (by assumption) ?_
  rotate_left
  · (intro wq hSw; (try dsimp only at hSw); (try simp (maxSteps := 2000000) only [zz1, zz2, zz3]); go_simp); try with_reducible rfl
  try simp (maxSteps := 2000000) only [zz1, zz2, zz3, Act.put, zz4, zz5, zz6]
  refine wpAnyH_take (i := 3) (v := ?_) rfl (by kernel_rfl) (by kernel_rfl) (by kernel_rfl) (fun _ _ _ h => h) (Or.inl ⟨by first | kernel_rfl | rfl, ?_⟩) (by assumption) ?_
  rotate_left
  · (intro wq hSw; (try dsimp only at hSw); (try simp (maxSteps := 2000000) only [zz1, zz2, zz3]); go_simp); try with_reducible rfl
  try simp (maxSteps := 2000000) only [zz1, zz2, zz3, Act.put, zz4, zz5, zz6]
  refine wpAnyH_take (i := 4) (v := ?_) rfl (by kernel_rfl) (by kernel_rfl) (by kernel_rfl) (fun _ _ _ h => h) (Or.inl ⟨by first | kernel_rfl | rfl, ?_⟩) (by assumption) ?_
  rotate_left
  · (intro wq hSw; (try dsimp only at hSw); (try simp (maxSteps := 2000000) only [zz1, zz2, zz3]); go_simp); try with_reducible rfl
  try simp (maxSteps := 2000000) only [zz1, zz2, zz3, Act.put, zz4, zz5, zz6]
  refine wpAnyH_take (i := 5) (v := ?_) rfl (by kernel_rfl) (by kernel_rfl) (by kernel_rfl) (fun _ _ _ h => h) (Or.inl ⟨by first | kernel_rfl | rfl, ?_⟩) (by assumption) ?_
  rotate_left
  · (intro wq hSw; (try dsimp only at hSw); (try simp (maxSteps := 2000000) only [zz1, zz2, zz3]); go_simp); try with_reducible rfl
  try simp (maxSteps := 2000000) only [zz1, zz2, zz3, Act.put, zz4, zz5, zz6]
  refine wpAnyH_take (i := 6) (v := ?_) rfl (by kernel_rfl) (by kernel_rfl) (by kernel_rfl) (fun _ _ _ h => h) (Or.inl ⟨by first | kernel_rfl | rfl, ?_⟩) (by assumption) ?_
  rotate_left
  · (intro wq hSw; (try dsimp only at hSw); (try simp (maxSteps := 2000000) only [zz1, zz2, zz3]); go_simp); try with_reducible rfl
  try simp (maxSteps := 2000000) only [zz1, zz2, zz3, Act.put, zz4, zz5, zz6]
  refine wpAnyH_take (i := 7) (v := ?_) rfl (by kernel_rfl) (by kernel_rfl) (by kernel_rfl) (fun _ _ _ h => h) (Or.inl ⟨by first | kernel_rfl | rfl, ?_⟩) (by assumption) ?_
  rotate_left
  · (intro wq hSw; (try dsimp only at hSw); (try simp (maxSteps := 2000000) only [zz1, zz2, zz3]); go_simp); try with_reducible rfl
  try simp (maxSteps := 2000000) only [zz1, zz2, zz3, Act.put, zz4, zz5, zz6]
  refine wpAnyH_take (i := 8) (v := ?_) rfl (by kernel_rfl) (by kernel_rfl) (by kernel_rfl) (fun _ _ _ h => h) (Or.inl ⟨by first | kernel_rfl | rfl, ?_⟩) (by assumption) ?_
  rotate_left
  · (intro wq hSw; (try dsimp only at hSw); (try simp (maxSteps := 2000000) only [zz1, zz2, zz3]); go_simp); try with_reducible rfl
  try simp (maxSteps := 2000000) only [zz1, zz2, zz3, Act.put, zz4, zz5, zz6]
  refine wpAnyH_take (i := 10) (v := ?_) rfl (by kernel_rfl) (by kernel_rfl) (by kernel_rfl) (fun _ _ _ h => h) (Or.inl ⟨by first | kernel_rfl | rfl, ?_⟩) (by assumption) ?_
  rotate_left
  · (intro wq hSw; (try dsimp only at hSw); (try simp (maxSteps := 2000000) only [zz1, zz2, zz3]); go_simp); try with_reducible rfl
  try simp (maxSteps := 2000000) only [zz1, zz2, zz3, Act.put, zz4, zz5, zz6]
  refine wpAnyH_take (i := 11) (v := ?_) rfl (by kernel_rfl) (by kernel_rfl) (by kernel_rfl) (fun _ _ _ h => h) (Or.inl ⟨by first | kernel_rfl | rfl, ?_⟩) (by assumption) ?_
  rotate_left
  · (intro wq hSw; (try dsimp only at hSw); (try simp (maxSteps := 2000000) only [zz1, zz2, zz3]); go_simp); try with_reducible rfl
  try simp (maxSteps := 2000000) only [zz1, zz2, zz3, Act.put, zz4, zz5, zz6]
  refine wpAnyH_take (i := 12) (v := ?_) rfl (by kernel_rfl) (by kernel_rfl) (by kernel_rfl) (fun _ _ _ h => h) (Or.inl ⟨by first | kernel_rfl | rfl, ?_⟩) (by assumption) ?_
  rotate_left
  · (intro wq hSw; (try dsimp only at hSw); (try simp (maxSteps := 2000000) only [zz1, zz2, zz3]); go_simp); try with_reducible rfl
  try simp (maxSteps := 2000000) only [zz1, zz2, zz3, Act.put, zz4, zz5, zz6]
  refine wpAnyH_take (i := 13) (v := ?_) rfl (by kernel_rfl) (by kernel_rfl) (by kernel_rfl) (fun _ _ _ h => h) (Or.inl ⟨by first | kernel_rfl | rfl, ?_⟩) (by assumption) ?_
  rotate_left
  · (intro wq hSw; (try dsimp only at hSw); (try simp (maxSteps := 2000000) only [zz1, zz2, zz3]); go_simp); try with_reducible rfl
  try simp (maxSteps := 2000000) only [zz1, zz2, zz3, Act.put, zz4, zz5, zz6]
  refine wpAnyH_take (i := 14) (v := ?_) rfl (by kernel_rfl) (by kernel_rfl) (by kernel_rfl) (fun _ _ _ h => h) (Or.inl ⟨by first | kernel_rfl | rfl, ?_⟩) (by assumption) ?_
  rotate_left
  · (intro wq hSw; (try dsimp only at hSw); (try simp (maxSteps := 2000000) only [zz1, zz2, zz3]); go_simp); try with_reducible rfl
  try simp (maxSteps := 2000000) only [zz1, zz2, zz3, Act.put, zz4, zz5, zz6]
  refine wpAnyH_take (i := 15) (v := ?_) rfl (by kernel_rfl) (by kernel_rfl) (by kernel_rfl) (fun _ _ _ h => h) (Or.inl ⟨by first | kernel_rfl | rfl, ?_⟩) (by assumption) ?_
  rotate_left
  · (intro wq hSw; (try dsimp only at hSw); (try simp (maxSteps := 2000000) only [zz1, zz2, zz3]); go_simp); try with_reducible rfl
  try simp (maxSteps := 2000000) only [zz1, zz2, zz3, Act.put, zz4, zz5, zz6]
  refine wpAnyH_ready (rs := [9]) (by kernel_rfl) (by simp) ?_
  refine AllReadyH.cons rfl (fun K hK => ?_) AllReadyH.nil
  try simp (maxSteps := 2000000) only [zz1, zz2, zz3]
  go_simp
  go_at_call 169
  refine hH.mono ?_
  clear hH
  rintro e w5 ⟨rfl, hb5⟩
  have hS5 := hSd.below hb5
  have s5 : w5.cell? ⟨s, 0, none⟩ = some (.pointer (some ⟨a, 0, none⟩)) ∧ w5.cell? ⟨s, 3, none⟩ = some (.int .i64 (r.place : Int)) := ⟨hS5.cell 0, hS5.cell 3⟩
  have hw5 : Below w.heap.size w w5 := hw4.drew.trans (hb5.mono hw4.drew.size)
  have hu5 := HU6.out.below U8R.stable (show Below w4.heap.size w4 w5 from (Below.refl _ _).drew.trans hb5)
  try (go_wp2_with fail)
  refine hK.out _ _ (by first | exact s0 | exact s5 | exact s6) (fun hHeld => ?_)
  clear hK K
  try simp (maxSteps := 2000000) only [zz1, zz2, zz3, Act.put, zz4, zz5, zz6]
  refine wpAnyH_ready (rs := [16]) (by kernel_rfl) (by simp) ?_
  refine AllReadyH.cons rfl (fun K hK => ?_) AllReadyH.nil
  try simp (maxSteps := 2000000) only [zz1, zz2, zz3]
  go_simp
  go_at_call 181
  refine (hwr _ hw5 (Lib.hid hu5)).mono ?_
  clear hwr
  rintro e w6 ⟨rfl, hup⟩
  have hS6 := hS5.keeps hup.choose_spec.2.2 hnU
  have s6 : w6.cell? ⟨s, 0, none⟩ = some (.pointer (some ⟨a, 0, none⟩)) ∧ w6.cell? ⟨s, 3, none⟩ = some (.int .i64 (r.place : Int)) := ⟨hS6.cell 0, hS6.cell 3⟩
  have HUP := Lib.hid (AUpd.pre hw5 hup)
  clear hup
  try (go_wp2_with fail)
  refine hK.out _ _ (by first | exact s0 | exact s5 | exact s6) (fun hHeld => ?_)
  clear hK K
  try simp (maxSteps := 2000000) only [zz1, zz2, zz3, Act.put, zz4, zz5, zz6]
  refine wpAnyH_take (i := 17) (v := ?_) rfl (by kernel_rfl) (by kernel_rfl) (by kernel_rfl) (fun _ _ _ h => h) (Or.inl ⟨by first | kernel_rfl | rfl, ?_⟩) (by assumption) ?_
  rotate_left
  · (intro wq hSw; (try dsimp only at hSw); (try simp (maxSteps := 2000000) only [zz1, zz2, zz3]); go_simp); try with_reducible rfl
  try simp (maxSteps := 2000000) only [zz1, zz2, zz3, Act.put, zz4, zz5, zz6]
  refine wpAnyH_take (i := 18) (v := ?_) rfl (by kernel_rfl) (by kernel_rfl) (by kernel_rfl) (fun _ _ _ h => h) (Or.inl ⟨by first | kernel_rfl | rfl, ?_⟩) (by assumption) ?_
  rotate_left
  · (intro wq hSw; (try dsimp only at hSw); (try simp (maxSteps := 2000000) only [zz1, zz2, zz3]); go_simp); try with_reducible rfl
  try simp (maxSteps := 2000000) only [zz1, zz2, zz3, Act.put, zz4, zz5, zz6]
  refine wpAnyH_take (i := 19) (v := ?_) rfl (by kernel_rfl) (by kernel_rfl) (by kernel_rfl) (fun _ _ _ h => h) (Or.inl ⟨by first | kernel_rfl | rfl, ?_⟩) (by assumption) ?_
  rotate_left
  · (intro wq hSw; (try dsimp only at hSw); (try simp (maxSteps := 2000000) only [zz1, zz2, zz3]); go_simp); try with_reducible rfl
  try simp (maxSteps := 2000000) only [zz1, zz2, zz3, Act.put, zz4, zz5, zz6]
  refine wpAnyH_done (by kernel_rfl) ?_ _
  go_wp2_with fail
  go_ret
  exact ⟨by rw [← HED.out]; rfl, by rw [HDE.out]; exact HUP.out⟩
end
end
section
theorem AUpd.post {U : Nat → Prop} {w w1 w2 : World} {a s : Nat} {sts : List DSt} (h : AUpd U w w1 a s sts) (hb : Below w1.heap.size w1 w2) : AUpd U w w2 a s sts := by
  obtain ⟨U', hA, hU, hK⟩ := h
  exact AUpd.trans hU hK (hA.upd hb)
/-- What the drives are behind it, and how many shards were taken. -/
def wrS (n : Nat) (r : Ref) (size : Nat) (wh : Nat → Bool) (rw : Nat → List Nat) (sts : List DSt) : Nat → List DSt × Nat
  | 0 => (sts, 0)
  | i + 1 => if wh i = true then match (wrS n r size wh rw sts i).1[homeN sts.length r.place i]? with
      | some st => ((wrS n r size wh rw sts i).1.set (homeN sts.length r.place i) (wrDA n st (r.place : Int) (wrI (shR r i size (rw i)))), (wrS n r size wh rw sts i).2 + (if st.dead = true then 0 else 1))
      | none => wrS n r size wh rw sts i
    else wrS n r size wh rw sts i
section
variable {n size : Nat} {r : Ref} {wh : Nat → Bool} {rw : Nat → List Nat} {sts : List DSt}
theorem wrS_len : ∀ i, (wrS n r size wh rw sts i).1.length = sts.length
  | 0 => rfl
  | i + 1 => by
    have ih := wrS_len i
    rw [wrS]
    split
    · split
      · simp [ih]
      · exact ih
    · exact ih
theorem wrS_skip {i : Nat} (h : wh i = false) : wrS n r size wh rw sts (i + 1) = wrS n r size wh rw sts i := by rw [wrS, if_neg (by simp [h])]
theorem wrS_do {i : Nat} {st : DSt} (h : wh i = true) (hst : (wrS n r size wh rw sts i).1[homeN sts.length r.place i]? = some st) : wrS n r size wh rw sts (i + 1) = ((wrS n r size wh rw sts i).1.set (homeN sts.length r.place i) (wrDA n st (r.place : Int) (wrI (shR r i size (rw i)))), (wrS n r size wh rw sts i).2 + (if st.dead = true then 0 else 1)) := by
  rw [wrS, if_pos h, hst]
theorem wrDA_cache (st : DSt) (z : Int) (bs : List Int) : (wrDA n st z bs).cache.length ≤ st.cache.length + 1 := by
  unfold wrDA DSt.write
  split
  · simp
  · omega
theorem wrS_cache {c : Nat} (hc : ∀ st ∈ sts, st.cache.length < c) : ∀ i, ∀ st ∈ (wrS n r size wh rw sts i).1, st.cache.length < c + i
  | 0, st, h => hc st h
  | i + 1, st, h => by
    have ih := wrS_cache hc i
    rw [wrS] at h
    split at h
    · split at h
      · rename_i st2 h2
        rcases List.mem_or_eq_of_mem_set h with h3 | rfl
        · have := ih st h3; omega
        · have h4 := ih st2 (List.mem_of_getElem? h2)
          have := wrDA_cache (n := n) st2 (r.place : Int) (wrI (shR r i size (rw i)))
          omega
      · have := ih st h; omega
    · have := ih st h; omega
theorem wrS_cnt : ∀ i, (wrS n r size wh rw sts i).2 ≤ i
  | 0 => Nat.le_refl _
  | i + 1 => by
    have ih := wrS_cnt i
    rw [wrS]
    split
    · split
      · show _ + (if _ then 0 else 1) ≤ _
        split <;> omega
      · omega
    · omega
end
section
variable {U : Nat → Prop} {w : World} {a n s cb b k m size : Nat} {sts : List DSt} {r : Ref}
set_option maxRecDepth 100000 in
set_option maxHeartbeats 8000000 in
theorem writes_any (hS : BoxAt w s (setC a cb r)) (hA : ArrAt U w a n sts) (HC : CodAt w cb b k m) (hlen : sts.length = k + m) (hr : r.ok n) (hn : n ≤ 60000) (hg : Hid (r.gen < 2 ^ 64)) (hsz : size ≤ 60000) (hcl : ∀ st ∈ sts, st.cache.length < 900000) (hnU : ¬ U s)
    {g f : FuncId} {cap1 cap2 : Array Value} {wh : Nat → Bool} {rw : Nat → List Nat} (hgg : Hid (∀ args w, (callFunc g args).run Tryz.prog w = .ok (.enter g args) w)) (hff : Hid (∀ args w, (callFunc f args).run Tryz.prog w = .ok (.enter f args) w))
    (hwh : Hid (∀ i W, i < k + m → Keep U w W → Calls Tryz.prog g (#[.int .i64 (i : Int)] ++ cap1) W fun e W' => e = .returned (.bool (wh i)) ∧ Below W.heap.size W W'))
    (hrw : Hid (∀ i W, i < k + m → wh i = true → Keep U w W → Calls Tryz.prog f (#[.int .i64 (i : Int)] ++ cap2) W fun e W' => ∃ A c, e = .returned (.slice A 44 c) ∧ RdL ByR 1 (fun _ => True) W' A 44 (rw i) ∧ Below W.heap.size W W')) :
    Calls Tryz.prog 96 #[.pointer (some ⟨s, 0, none⟩), .int .i64 (size : Int), .func (.func g) #[] cap1, .func (.func f) #[] cap2] w fun e w' => e = .returned (.int .i64 ((wrS n r size wh rw sts (k + m)).2 : Int)) ∧ AUpd U w w' a n (wrS n r size wh rw sts (k + m)).1 := by
  have hkm := HC.km
  have hk1 := HC.k1
  have c1 : w.cell? ⟨s, 1, none⟩ = some (.pointer (some ⟨cb, 0, none⟩)) := hS.cell 1
  have hN := cn_any HC
  have g1 := hgg.out
  have g2 := hff.out
  obtain ⟨N, hNe⟩ : ∃ N, k + m = N := ⟨_, rfl⟩
  rw [hNe] at hN hlen hwh hrw ⊢
  have hN2 : N ≤ 255 := by omega
  have HCL := Lib.hid hcl
  have HS := Lib.hid hS
  have HUP0 := Lib.hid (hA.upd (Below.refl _ _))
  have HLEN := Lib.hid hlen
  have HRO := Lib.hid hr
  have hslt := hS.lt
  clear HC hNe hS hA hcl hlen hr
  go_enter Tryz.func96, Tryz.ntmps96
  go_wp2_with fail
  refine hN.mono ?_
  clear hN
  rintro e w1 ⟨rfl, hb1⟩
  have HUP1 := Lib.hid (show AUpd U w w1 a n (wrS n r size wh rw sts 0).1 from AUpd.post HUP0.out hb1)
  clear hb1 HUP0
  go_wp2_with fail
  go_loopw [9, 16] (fun vs vi wr => ∃ i : Nat, i ≤ N ∧ vi = .int .i64 i ∧ vs = .int .i64 ((wrS n r size wh rw sts i).2 : Nat) ∧ Hid (AUpd U w wr a n (wrS n r size wh rw sts i).1)) (fun _ vi _ => N - (intOf vi).toNat)
  case atStart => exact ⟨0, Nat.zero_le _, rfl, rfl, HUP1⟩
  case round =>
    clear HUP1
    obtain ⟨i, hi, rfl, rfl, HU⟩ := hrel
    have p0 : (0 : Int) ≤ (i : Int) := Int.natCast_nonneg _
    have pc := wrS_cnt (n := n) (size := size) (r := r) (wh := wh) (rw := rw) (sts := sts) i
    have pl := wrS_len (n := n) (size := size) (r := r) (wh := wh) (rw := rw) (sts := sts) i
    have PC := Lib.hid (wrS_cache (n := n) (size := size) (r := r) (wh := wh) (rw := rw) HCL.out i)
    by_cases hlt : i < N
    · have p1 : (i : Int) < (N : Int) := by omega
      obtain ⟨U', ⟨v, Fs, ps, hA⟩, hU', hK⟩ := HU.out
      have hw0 := hwh.out i wr hlt hK
      have hS1 := HS.out.keeps hK hnU
      have hnU' : ¬ U' s := fun hu => hnU (hU' s hu hslt)
      have hd : homeN sts.length r.place i < (wrS n r size wh rw sts i).1.length := by rw [pl]; exact homeN_lt (by have := HLEN.out; omega)
      obtain ⟨st, hst⟩ : ∃ st, (wrS n r size wh rw sts i).1[homeN sts.length r.place i]? = some st := ⟨_, List.getElem?_eq_getElem hd⟩
      have hcs := PC.out st (List.mem_of_getElem? hst)
      have HA := Lib.hid hA
      have HK := Lib.hid hK
      have HS1 := Lib.hid hS1
      have HST := Lib.hid hst
      have HU' := Lib.hid hU'
      cases hwi : wh i with
      | false =>
        have HW := Lib.hid (wrS_skip (n := n) (size := size) (r := r) (rw := rw) (sts := sts) hwi)
        rw [hwi] at hw0
        obtain ⟨cn, hcn⟩ : ∃ cn, (wrS n r size wh rw sts i).2 = cn := ⟨_, rfl⟩
        rw [hcn] at pc ⊢
        have HCN := Lib.hid hcn
        clear hwi hA hK hS1 hst hU' hd pl hcs hcn
        go_wp2_with fail
        refine hw0.mono ?_
        clear hw0
        rintro e w2 ⟨rfl, hb2⟩
        have HU2 := Lib.hid (AUpd.post HU.out hb2)
        clear hb2
        go_wp2_with fail
        exact ⟨⟨i + 1, by omega, by go_num, by rw [HW.out, HCN.out], by rw [HW.out]; exact HU2⟩, by simp [intOf]; omega⟩
      | true =>
        have HW := Lib.hid (wrS_do (n := n) (size := size) (r := r) (rw := rw) (sts := sts) hwi hst)
        rw [hwi] at hw0
        have hr0 := fun W hW => hrw.out i W hlt hwi hW
        obtain ⟨cn, hcn⟩ : ∃ cn, (wrS n r size wh rw sts i).2 = cn := ⟨_, rfl⟩
        rw [hcn] at pc ⊢
        have HCN := Lib.hid hcn
        have q3 : (cn : Int) ≤ 255 := by omega
        have q4 : (0 : Int) ≤ (cn : Int) := Int.natCast_nonneg _
        have PL := Lib.hid pl
        clear hwi hA hK hS1 hst hU' hd pl hcn
        go_wp2_with fail
        refine hw0.mono ?_
        clear hw0
        rintro e w2 ⟨rfl, hb2⟩
        have hK2 : Keep U w w2 := HK.out.trans (Keep.of_below (F := fun _ => False) hb2) (fun _ h _ => h.elim)
        have hr2 := hr0 w2 hK2
        have HB2 := Lib.hid hb2
        clear hr0 hb2
        go_wp2_with fail
        refine hr2.mono ?_
        clear hr2
        rintro e w3 ⟨A, c, rfl, hr3, hb3⟩
        have hb23 := HB2.out.trans (hb3.mono HB2.out.size)
        have hwrt := swrite_any (size := size) (r := r) (i := i) (HS1.out.below hb23) (Lib.hid (HA.out.below hb23)) (by rw [PL.out]; have := HLEN.out; omega) (by rw [PL.out]; have := HLEN.out; omega) HRO.out hn hg (by rw [PL.out, HLEN.out]; exact hlt) hsz (c := c) hr3 (by rw [PL.out]; exact HST.out) (by omega) hnU'
        rw [PL.out] at hwrt
        have HB23 := Lib.hid hb23
        clear hr3 hb3 hb23 HB2 hK2
        go_wp2_with fail
        refine hwrt.mono ?_
        clear hwrt
        rintro e w4 ⟨rfl, hup⟩
        have HU4 := Lib.hid (AUpd.trans HU'.out HK.out (AUpd.pre HB23.out hup))
        clear hup
        obtain ⟨dd, hdd⟩ : ∃ dd, st.dead = dd := ⟨_, rfl⟩
        rw [hdd]
        have HDD := Lib.hid hdd
        clear hdd
        cases dd with
        | true =>
          go_wp2_with fail
          exact ⟨⟨i + 1, by omega, by go_num, by rw [HW.out, HCN.out, if_pos HDD.out]; rfl, by rw [HW.out]; exact HU4⟩, by simp [intOf]; omega⟩
        | false =>
          go_wp2_with fail
          exact ⟨⟨i + 1, by omega, by go_num, by rw [HW.out, HCN.out, if_neg (by rw [HDD.out]; simp)]; go_num, by rw [HW.out]; exact HU4⟩, by simp [intOf]; omega⟩
    · have p1 : ¬ (i : Int) < (N : Int) := by omega
      obtain rfl : N = i := by omega
      go_wp2_with fail
      go_ret
      exact ⟨rfl, HU.out⟩
end
end
section
theorem call_p1 (args : Array Value) (w : World) : (callFunc 97 args).run Tryz.prog w = .ok (.enter 97 args) w := by go_simp
theorem call_p2 (args : Array Value) (w : World) : (callFunc 98 args).run Tryz.prog w = .ok (.enter 98 args) w := by go_simp
set_option maxRecDepth 100000 in
theorem put1_any {w : World} {i : Nat} : Calls Tryz.prog 97 #[.int .i64 (i : Int)] w fun e w' => e = .returned (.bool true) ∧ Below w.heap.size w w' := by
  go_enter Tryz.func97, Tryz.ntmps97
  go_wp2_with fail
  go_ret
  exact ⟨rfl, Below.refl _ _⟩
set_option maxRecDepth 100000 in
theorem put2_any {w : World} {i p N c : Nat} {A : Option Addr} {S : Nat → Prop} {ss : Rws} (hb : BoxAt w p #[.slice A N c]) (R : RdL RowR 1 S w A N ss) (hi : i < N) {l : Nat} (hl : (ra ss i).length = l) :
    Calls Tryz.prog 98 #[.int .i64 (i : Int), .pointer (some ⟨p, 0, none⟩)] w fun e w' => ∃ A c, e = .returned (.slice A l c) ∧ RdL ByR 1 (fun _ => True) w' A l (ra ss i) ∧ Below w.heap.size w w' := by
  obtain ⟨bb, o, rfl, _, hbb⟩ := R.addr hi
  obtain ⟨A1, m1, c1, v1, hmc1, r1⟩ := row_at R hi
  have c0 : w.cell? ⟨p, 0, none⟩ = some (.slice (some ⟨bb, o, none⟩) N c) := hb.cell 0
  have p0 : (0 : Int) ≤ (i : Int) := Int.natCast_nonneg _
  have p1 : (i : Int) < (N : Int) := by omega
  have hm : m1 = l := by rw [← hl]; exact r1.1.symm
  subst hm
  have HR := Lib.hid r1
  clear r1 R hb hl
  go_enter Tryz.func98, Tryz.ntmps98
  go_wp2_with fail
  go_ret
  exact ⟨A1, c1, rfl, HR.out.weaken ByR.stable (fun _ _ => trivial), Below.refl _ _⟩
section
variable {U : Nat → Prop} {w : World} {a n cb b k m len : Nat} {sts : List DSt} {r : Ref}
set_option maxRecDepth 100000 in
set_option maxHeartbeats 8000000 in
theorem sput_any (hA : ArrAt U w a n sts) (HC : CodAt w cb b k m) (hlen : sts.length = k + m) (hr : r.ok n) (hn : n ≤ 60000) (hg : Hid (r.gen < 2 ^ 64)) (hcl : ∀ st ∈ sts, st.cache.length < 900000)
    {A : Option Addr} {c : Nat} {S : Nat → Prop} {xs : List Nat} (R : RdL ByR 1 S w A len xs) (hc : len ≤ c) (hlx : len ≤ k * 44) :
    Calls Tryz.prog 43 #[.pointer (some ⟨a, 0, none⟩), .pointer (some ⟨cb, 0, none⟩), .agg (refC r), .slice A len c] w fun e w' =>
      e = .returned (.tuple #[.int .i64 ((wrS n r len (fun _ => true) (codeRow k 44 (splF 44 xs k k)) sts (k + m)).2 : Int), .int .i64 0]) ∧ AUpd U w w' a n (wrS n r len (fun _ => true) (codeRow k 44 (splF 44 xs k k)) sts (k + m)).1 := by
  have hk1 := HC.k1
  have hkm := HC.km
  have hbx := by_byt R
  have hD := splF_shp (width := 44) hbx k
  have hgo : goodB k k (splF 44 xs k k) = true := by
    unfold goodB
    rw [decide_eq_true rfl, Bool.true_and]
    unfold evB
    rw [List.all_eq_true]
    intro x hx
    rw [decide_eq_true_eq]
    rw [(hD.2 x hx).1, (hD.row (i := 0) (by omega)).1]
  have hl0 : lenF0 (splF 44 xs k k) = 44 := (hD.row (i := 0) (by omega)).1
  have hb0 : Below w.heap.size w (w.alloc (.cells (refC r) 38)) := (Below.refl _ _).alloc (Nat.le_refl _) _
  obtain ⟨v, Fs, ps, hAB⟩ := hA
  have hme := meant_good (Lib.hid (hAB.below hb0)) (HC.below hb0) hlen hr
  have hro := fun w' (hb : Below w.heap.size w w') => room_any (HC.below hb)
  have hsp := fun w' (hb : Below w.heap.size w w') => split_any (w := w') (width := 44) (HC.below hb) (R.below ByR.stable hb) hc (by omega) (by omega) hlx
  have hca := fun w' cs As (S : Nat → Prop) (hb : Below w.heap.size w w') hr5 => call2_any (w := w') (cs := cs) (As := As) (S := S) (N := k) (ss := splF 44 xs k k) (HC.below hb) hr5 (by omega) (fun i => by
    by_cases hi : i < k
    · rw [(hD.row hi).1]; omega
    · unfold ra
      rw [List.getD_eq_getElem?_getD, List.getElem?_eq_none (by rw [hD.1]; omega)]
      exact Nat.zero_le _)
  have hws := fun w' s p A' c' (hb : Below w.heap.size w w') (hS : BoxAt w' s (setC a cb r)) (hs : w.heap.size ≤ s) (hp : BoxAt w' p #[.slice A' (k + m) c']) (hpw : w.heap.size ≤ p) (hr6 : RdL RowR 1 (fun j => w.heap.size ≤ j) w' A' (k + m) (allR k 44 (splF 44 xs k k) (k + m))) =>
    writes_any (w := w') (s := s) (size := len) hS (show ArrAt U w' a n sts from ⟨v, Fs, ps, hAB.below hb⟩) (HC.below hb) hlen hr hn hg (by omega) hcl (fun hu => by have := hAB.lt s hu; omega)
      (g := 97) (f := 98) (cap1 := #[]) (cap2 := #[.pointer (some ⟨p, 0, none⟩)]) (wh := fun _ => true) (rw := codeRow k 44 (splF 44 xs k k)) (Lib.hid call_p1) (Lib.hid call_p2)
      (Lib.hid fun i W hi hK => put1_any (w := W) (i := i))
      (Lib.hid fun i W hi _ hK => by
        have h9 := put2_any (i := i) (hp.keeps hK (fun hu => by have := hAB.lt p hu; omega)) (hr6.keep RowR.stable hK (fun j hj hu => by have := hAB.lt j hu; omega)) hi (l := 44) (by rw [allR_ra hi]; exact (codeRow_ok hD i).1)
        rw [allR_ra hi] at h9
        exact h9)
  have hen : splF 44 xs k k ++ encU k (splF 44 xs k k) (lenF0 (splF 44 xs k k)) m = allR k 44 (splF 44 xs k k) (k + m) := by rw [hl0]; exact allR_enc hD
  have HEN := Lib.hid hen
  have HGO := Lib.hid hgo
  have hlk : ¬ (len : Int) > ((k * 44 : Nat) : Int) := by omega
  have hAlt := hAB.lt
  have HWS := Lib.hid hws
  have HCA := Lib.hid hca
  have HSP := Lib.hid hsp
  clear hAB HC hlen hr hcl R hbx hD hgo hl0 hen hws hca hsp
  obtain ⟨ww, hww⟩ : ∃ ww, ww = wrS n r len (fun _ => true) (codeRow k 44 (splF 44 xs k k)) sts (k + m) := ⟨_, rfl⟩
  rw [← hww] at HWS ⊢
  clear hww
  unfold refC at hme hb0 ⊢
  go_enter Tryz.func43, Tryz.ntmps43
  go_wp2_with fail
  obtain ⟨wA, hwA⟩ : ∃ wA, w.alloc (.cells #[.int .u8 (r.kind : Int), .int .i64 (r.place : Int), .int .u64 (r.gen : Int)] 38) = wA := ⟨_, rfl⟩
  rw [hwA] at hme hb0 ⊢
  refine hme.mono ?_
  clear hme hwA
  rintro e w1 ⟨s, rfl, hs1, bS1, hb1⟩
  have hw1 := hb0.trans (hb1.mono hb0.size)
  have hs : w.heap.size ≤ s := by have := hb0.size; omega
  have hro1 := hro w1 hw1
  have hsp1 := HSP.out w1 hw1
  have HW1 := Lib.hid hw1
  have HS1 := Lib.hid bS1
  clear hb0 hb1 hs1 hro hw1 bS1
  go_wp2_with (go_at_call 93; refine hro1.mono ?_; rintro e w2 ⟨rfl, hw2⟩; rw [hw2]; clear hw2 hro1)
  refine hsp1.mono ?_
  clear hsp1
  rintro e w3 ⟨g3, rfl, hr3, hb3⟩
  have hw3 := HW1.out.trans (hb3.mono HW1.out.size)
  have hca3 := HCA.out w3 k _ _ hw3 hr3
  have HS3 := Lib.hid (HS1.out.below hb3)
  have HW3 := Lib.hid hw3
  clear hw3 hr3 hb3
  go_wp2_with fail
  refine hca3.mono ?_
  clear hca3
  rintro e w4 ⟨hb4, ⟨hB, rfl⟩ | ⟨_, A4, c4, rfl, hc4, hr4⟩⟩
  · exact absurd (hB.symm.trans HGO.out) (by decide)
  rw [HEN.out] at hr4
  have hw4 := HW3.out.trans (hb4.mono HW3.out.size)
  have hsz3 := HW3.out.size
  have hS4 := HS3.out.below hb4
  have b5 := BoxAt.new w4 #[.slice A4 (k + m) c4] 151
  have hb45 : Below w4.heap.size w4 (w4.alloc (.cells #[.slice A4 (k + m) c4] 151)) := (Below.refl _ _).alloc (Nat.le_refl _) _
  have hw5 := hw4.trans (hb45.mono hw4.size)
  obtain ⟨W5, hW5⟩ : ∃ W, w4.alloc (.cells #[.slice A4 (k + m) c4] 151) = W := ⟨_, rfl⟩
  rw [hW5] at b5 hw5 hb45
  have hws5 := HWS.out W5 s w4.heap.size A4 c4 hw5 (hS4.below hb45) hs b5 hw4.size ((hr4.below RowR.stable hb45).weaken RowR.stable (fun j hj => Nat.le_trans hsz3 hj))
  have HW5 := Lib.hid hw5
  obtain ⟨p4, hp4⟩ : ∃ p4, w4.heap.size = p4 := ⟨_, rfl⟩
  rw [hp4] at hws5
  clear b5 hw5 hb45 hr4 hS4 hw4 hb4 HWS HCA HSP HS3 HS1
  go_wp2_with fail
  refine hws5.mono ?_
  clear hws5
  rintro e w6 ⟨rfl, hup⟩
  have HUP := Lib.hid (AUpd.pre HW5.out hup)
  clear hup
  go_wp2_with fail
  go_ret2
  exact ⟨rfl, HUP.out⟩
end
end
section
def wsU (l : List (Nat × Shd)) (N i : Nat) : List Bool := (List.range N).map fun j => if j < i then (lookS l j).isSome else false
theorem wsU_len (l : List (Nat × Shd)) (N i : Nat) : (wsU l N i).length = N := by unfold wsU; simp
theorem wsU_zero (l : List (Nat × Shd)) (N : Nat) : List.replicate N false = wsU l N 0 := by
  unfold wsU
  apply List.ext_getElem
  · simp
  · intro j h1 h2; simp
theorem wsU_next {l : List (Nat × Shd)} {N i : Nat} (h : i < N) : (wsU l N i).set i (lookS l i).isSome = wsU l N (i + 1) := by
  apply List.ext_getElem?
  intro j
  by_cases hj : j < N
  · by_cases e : i = j
    · subst e
      rw [List.getElem?_set_self (by rw [wsU_len]; exact h)]
      unfold wsU
      rw [List.getElem?_map, List.getElem?_range h]
      simp
    · rw [List.getElem?_set_ne e]
      unfold wsU
      rw [List.getElem?_map, List.getElem?_map, List.getElem?_range hj]
      simp only [Option.map_some]
      by_cases h1 : j < i
      · rw [if_pos h1, if_pos (by omega)]
      · rw [if_neg h1, if_neg (by omega)]
  · rw [List.getElem?_eq_none (by rw [List.length_set, wsU_len]; omega), List.getElem?_eq_none (by rw [wsU_len]; omega)]
theorem box_bool {w : World} {g i : Nat} {xs : List Bool} (h : BoxAt w g (xs.map Value.bool).toArray) (b : Bool) : BoxAt (w.setCell ⟨g, i, none⟩ (.bool b)) g ((xs.set i b).map Value.bool).toArray := by
  have h1 := h.set i (.bool b)
  have e : (xs.map Value.bool).toArray.setIfInBounds i (.bool b) = ((xs.set i b).map Value.bool).toArray := by simp
  rw [e] at h1
  exact h1
attribute [local go_sem ↓] shut_loadS shut_zeroS shut_buildS shut_storeS
attribute [local go_sem] run_zeroS run_build0
section
variable {U : Nat → Prop} {w : World} {a n cb b k m : Nat} {v : Value} {Fs : Nat → Nat → Prop} {ps : List Nat} {sts : List DSt} {r : Ref}
set_option maxRecDepth 100000 in
set_option maxHeartbeats 8000000 in
theorem swholes_any (h : Hid (ArrB U w a v Fs ps n sts)) (HC : CodAt w cb b k m) (hlen : sts.length = k + m) (hr : r.ok n) (hR : RdOk sts r.place) :
    Calls Tryz.prog 64 #[.pointer (some ⟨a, 0, none⟩), .pointer (some ⟨cb, 0, none⟩), .agg (refC r)] w fun e w' => ∃ g, e = .returned (.slice (some ⟨g, 0, none⟩) (k + m) (k + m)) ∧ RdL BoolR 1 (fun j => w.heap.size ≤ j) w' (some ⟨g, 0, none⟩) (k + m) (wsU (wholeF (stR sts k r) (k + m)).1 (k + m) (k + m)) ∧ Below w.heap.size w w' := by
  have hk1 := HC.k1
  have hkm := HC.km
  have hb0 : Below w.heap.size w (w.alloc (.cells (refC r) 38)) := (Below.refl _ _).alloc (Nat.le_refl _) _
  have hme := meant_good (Lib.hid (h.out.below hb0)) (HC.below hb0) hlen hr
  have hwh := fun w' s (hb : Below w.heap.size w w') hS => swhole_any (w := w') (s := s) hS (Lib.hid (h.out.below hb)) (HC.below hb) hlen hr.p hR
  have hcn := fun w' (hb : Below w.heap.size w w') => cn_any (HC.below hb)
  have hlok := wholeF_ok (stR sts k r) (fun i x hx => (stR_ok hR i x hx).1) (k + m)
  obtain ⟨N, hN⟩ : ∃ N, k + m = N := ⟨_, rfl⟩
  obtain ⟨lz, hlz⟩ : ∃ lz, (wholeF (stR sts k r) (k + m)) = lz := ⟨_, rfl⟩
  rw [hlz] at hwh hlok ⊢
  rw [hN] at hcn ⊢
  have hN2 : N ≤ 255 := by omega
  have HL := Lib.hid hlok
  clear h HC hlen hR hN hlz hlok
  unfold refC at hme hb0 ⊢
  go_enter Tryz.func64, Tryz.ntmps64
  go_wp2_with fail
  obtain ⟨wA, hwA⟩ : ∃ wA, w.alloc (.cells #[.int .u8 (r.kind : Int), .int .i64 (r.place : Int), .int .u64 (r.gen : Int)] 38) = wA := ⟨_, rfl⟩
  rw [hwA] at hme hb0 ⊢
  refine hme.mono ?_
  clear hme hwA
  rintro e w1 ⟨s, rfl, _, bS1, hb1⟩
  have hw1 := hb0.trans (hb1.mono hb0.size)
  have hwh1 := hwh w1 s hw1 bS1
  clear hwh hb0 hb1 bS1
  go_wp2_with fail
  refine hwh1.mono ?_
  clear hwh1
  rintro e w2 ⟨mb, rfl, hM, hb2, _⟩
  have hw2 := hw1.trans (hb2.mono hw1.size)
  have hcn2 := hcn w2 hw2
  clear hcn hw1 hb2
  have HM2 := Lib.hid hM
  have HW2 := Lib.hid hw2
  clear hM hw2
  go_wp2_with fail
  refine hcn2.mono ?_
  clear hcn2
  rintro e w3 ⟨rfl, hb3⟩
  have hm3 := HM2.out.below hb3
  have hw3 := HW2.out.trans (hb3.mono HW2.out.size)
  have hmk := makeBoolsL N (by omega) w3
  have b4 := BoxAt.new w3 ((List.replicate N false).map Value.bool).toArray 4
  have hw4 : Below w.heap.size w (w3.alloc (.cells ((List.replicate N false).map Value.bool).toArray 4)) := hw3.alloc hw3.size _
  have hm4 := hm3.alloc (.cells ((List.replicate N false).map Value.bool).toArray 4)
  obtain ⟨W4, hW4⟩ : ∃ W, w3.alloc (.cells ((List.replicate N false).map Value.bool).toArray 4) = W := ⟨_, rfl⟩
  rw [hW4] at hmk b4 hw4 hm4
  have hg3 := hw3.size
  have hmg0 := hm3.lt
  obtain ⟨g, hg⟩ : ∃ g, w3.heap.size = g := ⟨_, rfl⟩
  rw [hg] at hmk b4
  have HG := Lib.hid (show w.heap.size ≤ g by omega)
  have hmg : mb ≠ g := by omega
  rw [wsU_zero lz.1 N] at b4
  have HO := Lib.hid b4
  have HM := Lib.hid hm4
  have HB := Lib.hid hw4
  clear b4 hw4 hm4 hW4 hb3 hm3 hw3 hg3 hmg0 HM2 HW2 hg
  go_wp2_with fail
  clear hmk
  go_loopw [32] (fun vi wr => ∃ i : Nat, i ≤ N ∧ vi = .int .i64 i ∧ Hid (BoxAt wr g ((wsU lz.1 N i).map Value.bool).toArray) ∧ Hid (MapAt (Value.int .i64) wr mb (mapE lz.1)) ∧ Hid (Below w.heap.size w wr)) (fun vi _ => N - (intOf vi).toNat)
  case atStart => exact ⟨0, Nat.zero_le _, rfl, HO, HM, HB⟩
  case round =>
    clear HO HM HB
    obtain ⟨i, hi, rfl, HO, HM, HB⟩ := hrel
    have p0 : (0 : Int) ≤ (i : Int) := Int.natCast_nonneg _
    by_cases hlt : i < N
    · have p1 : (i : Int) < (N : Int) := by omega
      have hla : ∀ wq, MapAt (Value.int .i64) wq mb (mapE lz.1) → (Instr.lookup 148 (.map (some mb)) (.int .i64 (i : Int)) true).run Tryz.prog wq = .ok (.tuple #[(mlook (mapE lz.1) (i : Int)).getD (.agg (shC sh0)), .bool (mlook (mapE lz.1) (i : Int)).isSome]) wq := fun wq hm => run_lookup kt_intS un_smap (fun w => run_zeroS w) hm (i : Int) true
      rw [mlook_mapE] at hla
      have his : ((lookS lz.1 i).map fun x => Value.agg (shC x)).isSome = (lookS lz.1 i).isSome := by cases lookS lz.1 i <;> rfl
      rw [his] at hla
      have hnx := wsU_next (l := lz.1) hlt
      have hb7 := box_bool (i := i) HO.out (lookS lz.1 i).isSome
      rw [hnx] at hb7
      have hm7 : MapAt (Value.int .i64) (wr.setCell ⟨g, i, none⟩ (.bool (lookS lz.1 i).isSome)) mb (mapE lz.1) := HM.out.keep (Below.heap_setCell _ _ _ _ (by show mb ≠ g; exact hmg))
      have hw7 := HB.out.setCell (p := ⟨g, i, none⟩) HG.out (.bool (lookS lz.1 i).isSome)
      obtain ⟨lv, hlv⟩ : ∃ lv, ((lookS lz.1 i).map fun x => Value.agg (shC x)).getD (.agg (shC sh0)) = lv := ⟨_, rfl⟩
      obtain ⟨lb, hlb⟩ : ∃ lb, (lookS lz.1 i).isSome = lb := ⟨_, rfl⟩
      rw [hlb, hlv] at hla
      rw [hlb] at hb7 hm7 hw7
      obtain ⟨old, hold⟩ : ∃ old, wr.cell? ⟨g, i, none⟩ = some old := by
        have := HO.out.cell i
        rw [this]
        exact ⟨_, Array.getElem?_eq_getElem (by simp [wsU_len, hlt])⟩
      have hfr := HO.out.frozen i
      have HB7 := Lib.hid hb7
      have HM7 := Lib.hid hm7
      have HW7 := Lib.hid hw7
      have hl0 := hla _ HM.out
      clear hb7 hm7 hw7 his hnx hlv hlb hla
      go_wp2_with fail
      exact ⟨⟨i + 1, by omega, by go_num, HB7, HM7, HW7⟩, by simp [intOf]; omega⟩
    · have p1 : ¬ (i : Int) < (N : Int) := by omega
      obtain rfl : N = i := by omega
      go_wp2_with fail
      go_ret
      have h9 := BoxAt.bools HO.out (S := fun j => w.heap.size ≤ j) HG.out
      rw [wsU_len] at h9
      exact ⟨g, rfl, h9, HB.out⟩
end
end
end Go.Proofs.YtihnlhfngmbglaaGreat
