/-
  The inverse.
-/
import Derived.Test.YthhljmlpjnkfgaaGreatMat8
set_option linter.unusedSimpArgs false
set_option linter.unusedVariables false
namespace Go.Proofs.YthhljmlpjnkfgaaGreat
open Go.RowKit Go.Cib
attribute [local go_sem] cell_set Later.cell Later.frozen Grw.cell Grw.frozen

def mkF (f : Nat → Nat → Nat) (rows cols : Nat) : Rws := (List.range rows).map fun i => (List.range cols).map (f i)
theorem mkF_flat (f : Nat → Nat → Nat) (rows cols : Nat) : flatF f rows cols = (mkF f rows cols).flatten := rfl
theorem mkF_ra {f : Nat → Nat → Nat} {rows cols i : Nat} (hi : i < rows) : ra (mkF f rows cols) i = (List.range cols).map (f i) := ra_some (by unfold mkF; rw [List.getElem?_map, List.getElem?_range hi]; rfl)
theorem range_gt {f : Nat → Nat} {n j : Nat} (hj : j < n) : gt ((List.range n).map f) j = f j := by
  unfold gt
  rw [List.getD_eq_getElem?_getD, List.getElem?_map, List.getElem?_range hj]; rfl
theorem mkF_shp {f : Nat → Nat → Nat} {rows cols : Nat} (h : ∀ i j, i < rows → j < cols → f i j < 256) : Shp rows cols (mkF f rows cols) := .of (by unfold mkF; simp) fun i hi => by
  rw [mkF_ra hi]
  refine ⟨by simp, fun x hx => ?_⟩
  obtain ⟨j, hj, rfl⟩ := List.mem_map.1 hx
  exact h i j hi (List.mem_range.1 hj)
/-- What elimination leaves of a matrix and the identity behind it. -/
def eliR (V : Rws) (n : Nat) : Rws := (eliF n 0 0 (begF V n n)).2
def invE (V : Rws) (n i j : Nat) : Nat := gt (ra (eliR V n) i) (n + j)
theorem begF_ra {V : Rws} {n i : Nat} (hi : i < n) : ra (begF V n n) i = begRow V n i := ra_some (by unfold begF; rw [List.getElem?_map, List.getElem?_range hi]; rfl)
theorem begRow_gt {V : Rws} {n i l : Nat} (hV : Shp n n V) (hi : i < n) (hl : l < n + n) : gt (begRow V n i) l = if l < n then gt (ra V i) l else if l = n + i then 1 else 0 := by
  unfold begRow
  have h := (hV.row hi).1
  rw [gt_set _ _ _ (by rw [List.length_append, List.length_replicate, h]; exact hl), gt_append, h]
  by_cases e : l = n + i
  · rw [if_pos e, if_neg (by omega), if_pos e]
  · rw [if_neg e]
    by_cases e2 : l < n
    · rw [if_pos e2, if_pos e2]
    · rw [if_neg e2, if_neg e2, if_neg e]
      unfold gt
      rw [List.getD_eq_getElem?_getD, List.getElem?_replicate]
      split <;> rfl
theorem inj_beg {V : Rws} {n : Nat} (hV : Shp n n V) (h : Inj n V) : Inj n (begF V n n) := fun x hx hx0 hz => h x hx hx0 fun i hi => by
  rw [← hz i hi]
  refine sumx_cong fun l hl => ?_
  rw [begF_ra hi, begRow_gt hV hi (by omega), if_pos hl]
theorem eliR_ok {V : Rws} {n : Nat} (hV : Shp n n V) (h : Inj n V) : (eliF n 0 0 (begF V n n)).1 = n ∧ Gj n (n + n) n (eliR V n) ∧ ∀ y : Nat → Nat, (∀ l, y l < 256) → (Ann n (n + n) (eliR V n) y ↔ Ann n (n + n) (begF V n n) y) := by
  obtain ⟨a', h1, h2, h3⟩ := eli_ok (n := n) (m := n + n) (by omega) (inj_beg hV h) n 0 (begF V n n) (by omega) ⟨begF_shp hV, fun _ _ _ hl => absurd hl (Nat.not_lt_zero _)⟩ (fun _ _ => Iff.rfl)
  unfold eliR
  rw [h1]
  exact ⟨rfl, h2, h3⟩
theorem call_inv1 (args : Array Value) (w : World) : (callFunc 96 args).run Tryz.prog w = .ok (.enter 96 args) w := by go_simp
set_option maxRecDepth 100000 in
set_option maxHeartbeats 1600000 in
theorem inv1_any {w : World} {p b base g n c pb mb : Nat} {a : Rws} {v0 v2 : Value} (H : WorkAt w p b (n + n) base g n c a) (hp : BoxAt w pb #[.pointer (some ⟨p, 0, none⟩)]) (hm : BoxAt w mb #[v0, .int .i64 (n : Int), v2]) (hn : n ≤ 255) {i j : Nat} (hi : i < n) (hj : j < n) :
    Calls Tryz.prog 96 #[.int .i64 (i : Int), .int .i64 (j : Int), .pointer (some ⟨pb, 0, none⟩), .pointer (some ⟨mb, 0, none⟩)] w fun e w' => e = .returned (.int .u8 (gt (ra a i) (n + j) : Int)) ∧ Below w.heap.size w w' := by
  have k1 := H.box.cell 1
  have k2 := hp.cell 0
  have k3 := hm.cell 1
  have l1 := H.box.lt
  have l2 := hp.lt
  have l3 := hm.lt
  obtain ⟨A, c', v1, _, hc1, hr⟩ := H.row hi
  obtain ⟨bb, o, rfl, _, hbl⟩ := hr.addr (k := n + j) (by omega)
  obtain ⟨v2', x2⟩ := by_at hr (k := n + j) (by omega)
  have lg0 : g < w.heap.size := by obtain ⟨cur, h1, _⟩ := H.cur; exact h1.lt
  have q1 : (i : Int) < (n : Int) := by omega
  have q2 : (0 : Int) ≤ (i : Int) := Int.natCast_nonneg _
  have q3 : (0 : Int) ≤ (j : Int) := Int.natCast_nonneg _
  have q4 : (j : Int) < (n : Int) := by omega
  have q5 : (n : Int) ≤ 255 := by omega
  have q6 : IntKind.i64.wrap ((n : Int) + (j : Int)) = ((n + j : Nat) : Int) := by rw [IntKind.wrap_i64]; omega
  have q7 : ((n + j : Nat) : Int) < ((n + n : Nat) : Int) := by omega
  have q8 : (0 : Int) ≤ ((n + j : Nat) : Int) := Int.natCast_nonneg _
  clear H hp hm hr
  go_enter Tryz.func96, Tryz.ntmps96
  go_wp2_with fail
  refine wp_region_later (by kernel_rfl) (by kernel_rfl) ?_
  repeat (go_big_quiet_step (fail))
  refine wpQuiet_nil ?_
  rintro _ ⟨z, rfl⟩
  go_wp2_with fail
  go_ret
  exact ⟨rfl, z.ok⟩
set_option maxRecDepth 100000 in
set_option maxHeartbeats 8000000 in
theorem invert_any {w : World} {b n c : Nat} {A : Option Addr} {S : Nat → Prop} {V : Rws} (F : Fld w b) (hV : Shp n n V) (hI : Inj n V) (h1 : 1 ≤ n) (h2 : n ≤ 255) (R : RdL ByR 1 S w A (n * n) V.flatten) (hc : n * n ≤ c) :
    Calls Tryz.prog 72 #[.pointer (some ⟨b, 0, none⟩), .agg #[.int .i64 (n : Int), .int .i64 (n : Int), .slice A (n * n) c]] w fun e w' => ∃ A' c', e = .returned (.tuple #[.agg #[.int .i64 (n : Int), .int .i64 (n : Int), .slice A' (n * n) c'], .int .i64 0]) ∧ n * n ≤ c' ∧
      RdL ByR 1 (fun k => w.heap.size ≤ k) w' A' (n * n) (mkF (invE V n) n n).flatten ∧ Below w.heap.size w w' := by
  have HR := Lib.hid R
  have HF := Lib.hid F
  obtain ⟨e1, e2, _⟩ := eliR_ok hV hI
  have E1 := Lib.hid e1
  have E2 := Lib.hid e2
  have q1 : (n : Int) ≤ 255 := by omega
  have q0 : (0 : Int) ≤ (n : Int) := Int.natCast_nonneg _
  clear R F e1 e2
  go_enter Tryz.func72, Tryz.ntmps72
  go_wp2_with fail
  have hm1 := (BoxAt.new w #[.int .i64 (n : Int), .int .i64 (n : Int), .slice A (n * n) c] 55).alloc (.cells #[.int .i64 0, .int .i64 0, .slice none 0 0] 55)
  have hr1 := BoxAt.new (w.alloc (.cells #[.int .i64 (n : Int), .int .i64 (n : Int), .slice A (n * n) c] 55)) #[.int .i64 0, .int .i64 0, .slice none 0 0] 55
  have hb1 : Below w.heap.size w ((w.alloc (.cells #[.int .i64 (n : Int), .int .i64 (n : Int), .slice A (n * n) c] 55)).alloc (.cells #[.int .i64 0, .int .i64 0, .slice none 0 0] 55)) := (by repeat (first | (with_reducible exact Below.refl _ _) | (with_reducible assumption) | (with_reducible refine Below.drew ?_) | (with_reducible refine Below.setCell ?_ ?_ _) | (with_reducible refine Below.alloc ?_ ?_ _) | (with_reducible refine Below.later ?_ ?_ _) | (first | (with_reducible exact Nat.le_refl _) | omega | (simp only [World.size_alloc, World.size_setCell, World.size_drew] <;> omega))))
  rw [World.size_alloc] at hr1
  generalize ((w.alloc (.cells #[.int .i64 (n : Int), .int .i64 (n : Int), .slice A (n * n) c] 55)).alloc (.cells #[.int .i64 0, .int .i64 0, .slice none 0 0] 55)) = w1 at *
  refine (nobody_any (HF.out.below hb1)).mono ?_
  rintro e w2 ⟨rfl, hb2⟩
  have hbA := hb1.trans (hb2.mono hb1.size)
  replace hm1 := hm1.below hb2
  replace hr1 := hr1.below hb2
  have k0 := hm1.cell 0
  have k1 := hm1.cell 1
  have k2 := hm1.cell 2
  clear hb1 hb2
  go_wp2_with fail
  refine (right_ok h1 h2 h1 h2).mono ?_
  rintro e w3 ⟨rfl, hb3⟩
  replace hbA := hbA.trans (hb3.mono hbA.size)
  replace hm1 := hm1.below hb3
  replace hr1 := hr1.below hb3
  replace k0 := hm1.cell 0
  replace k1 := hm1.cell 1
  replace k2 := hm1.cell 2
  clear hb3
  go_wp2_with fail
  have hml := hm1.lt
  have hrl := hr1.lt
  refine (begun_any hV h1 h2 (HR.out.below ByR.stable hbA) hc).mono ?_
  rintro e w4 ⟨p, g, cc, rfl, hW, hb4⟩
  have hs3 := hbA.size
  replace hbA := hbA.trans (hb4.mono hbA.size)
  replace hm1 := hm1.below hb4
  replace hr1 := hr1.below hb4
  have hgg := hW.hg
  have hm3 := hb4.size
  clear hb4 k0 k1 k2
  go_wp2_with fail
  have hb5 : Below w4.heap.size w4 (w4.alloc (.cells #[.pointer (some ⟨p, 0, none⟩)] 144)) := (Below.refl _ _).alloc (Nat.le_refl _) _
  have hp5 := BoxAt.new w4 #[.pointer (some ⟨p, 0, none⟩)] 144
  generalize (w4.alloc (.cells #[.pointer (some ⟨p, 0, none⟩)] 144)) = w5 at *
  obtain ⟨pb, hpb⟩ : ∃ pb, w4.heap.size = pb := ⟨_, rfl⟩
  have hgl : g < w4.heap.size := by obtain ⟨cur, h1, _⟩ := hW.cur; exact h1.lt
  replace hbA := hbA.trans (hb5.mono hbA.size)
  replace hm1 := hm1.below hb5
  replace hr1 := hr1.below hb5
  replace hW := (hW.below hb5).below (w' := w5.drew) (Below.refl _ _).drew
  rw [hpb] at hp5 hgl ⊢
  have hbd : Below w.heap.size w w5.drew := hbA.drew
  have hel := eliminate_any hW (HF.out.below hbd) (by have := HF.out.lt; omega) (by omega) (by omega : n ≤ n + n) (by omega)
  rw [E1.out] at hel
  have s1 : w5.drew.cell? ⟨pb, 0, none⟩ = some (.pointer (some ⟨p, 0, none⟩)) ∧ w5.drew.cell? ⟨w.heap.size, 0, none⟩ = some (.int .i64 n) ∧ w5.drew.cell? ⟨w.heap.size, 1, none⟩ = some (.int .i64 n) := ⟨hp5.cell 0, hm1.cell 0, hm1.cell 1⟩
  have HP5 := Lib.hid hp5
  have HM5 := Lib.hid hm1
  have HR5 := Lib.hid hr1
  have HBD := Lib.hid hbd
  clear hp5 hm1 hr1 hbd hb5 hW hbA
  refine wp_region_held_drew (S := fun w' => w'.cell? ⟨pb, 0, none⟩ = some (.pointer (some ⟨p, 0, none⟩)) ∧ w'.cell? ⟨w.heap.size, 0, none⟩ = some (.int .i64 n) ∧ w'.cell? ⟨w.heap.size, 1, none⟩ = some (.int .i64 n)) (by kernel_rfl) (by first | exact s1 | exact s2) (fun hHeld => ?_)
  refine wpAnyH_take (i := 0) (v := ?_) rfl (by kernel_rfl) (by kernel_rfl) (by kernel_rfl) (fun _ _ _ h => h) (Or.inl ⟨by first | kernel_rfl | rfl, ?_⟩) (by assumption) ?_
  rotate_left
  · (intro wq hSw; (try dsimp only at hSw); (try simp (maxSteps := 2000000) only [List.getElem_toArray, List.getElem_cons_succ, List.getElem_cons_zero]); go_simp); try with_reducible rfl
  try simp (maxSteps := 2000000) only [List.getElem_toArray, List.getElem_cons_succ, List.getElem_cons_zero, Act.put, List.setIfInBounds_toArray, List.set_cons_zero, List.set_cons_succ]
  refine wpAnyH_take (i := 1) (v := ?_) rfl (by kernel_rfl) (by kernel_rfl) (by kernel_rfl) (fun _ _ _ h => h) (Or.inl ⟨by first | kernel_rfl | rfl, ?_⟩) (by assumption) ?_
  rotate_left
  · (intro wq hSw; (try dsimp only at hSw); (try simp (maxSteps := 2000000) only [List.getElem_toArray, List.getElem_cons_succ, List.getElem_cons_zero]); go_simp); try with_reducible rfl
  try simp (maxSteps := 2000000) only [List.getElem_toArray, List.getElem_cons_succ, List.getElem_cons_zero, Act.put, List.setIfInBounds_toArray, List.set_cons_zero, List.set_cons_succ]
  refine wpAnyH_take (i := 2) (v := ?_) rfl (by kernel_rfl) (by kernel_rfl) (by kernel_rfl) (fun _ _ _ h => h) (Or.inl ⟨by first | kernel_rfl | rfl, ?_⟩) (by assumption) ?_
  rotate_left
  · (intro wq hSw; (try dsimp only at hSw); (try simp (maxSteps := 2000000) only [List.getElem_toArray, List.getElem_cons_succ, List.getElem_cons_zero]); go_simp); try with_reducible rfl
  try simp (maxSteps := 2000000) only [List.getElem_toArray, List.getElem_cons_succ, List.getElem_cons_zero, Act.put, List.setIfInBounds_toArray, List.set_cons_zero, List.set_cons_succ]
  refine wpAnyH_take (i := 4) (v := ?_) rfl (by kernel_rfl) (by kernel_rfl) (by kernel_rfl) (fun _ _ _ h => h) (Or.inl ⟨by first | kernel_rfl | rfl, ?_⟩) (by assumption) ?_
  rotate_left
  · (intro wq hSw; (try dsimp only at hSw); (try simp (maxSteps := 2000000) only [List.getElem_toArray, List.getElem_cons_succ, List.getElem_cons_zero]); go_simp); try with_reducible rfl
  try simp (maxSteps := 2000000) only [List.getElem_toArray, List.getElem_cons_succ, List.getElem_cons_zero, Act.put, List.setIfInBounds_toArray, List.set_cons_zero, List.set_cons_succ]
  refine wpAnyH_take (i := 5) (v := ?_) rfl (by kernel_rfl) (by kernel_rfl) (by kernel_rfl) (fun _ _ _ h => h) (Or.inl ⟨by first | kernel_rfl | rfl, ?_⟩) (by assumption) ?_
  rotate_left
  · (intro wq hSw; (try dsimp only at hSw); (try simp (maxSteps := 2000000) only [List.getElem_toArray, List.getElem_cons_succ, List.getElem_cons_zero]); go_simp); try with_reducible rfl
  try simp (maxSteps := 2000000) only [List.getElem_toArray, List.getElem_cons_succ, List.getElem_cons_zero, Act.put, List.setIfInBounds_toArray, List.set_cons_zero, List.set_cons_succ]
  refine wpAnyH_ready (rs := [3]) (by kernel_rfl) (by simp) ?_
  refine AllReadyH.cons rfl (fun K hK => ?_) AllReadyH.nil
  try simp (maxSteps := 2000000) only [List.getElem_toArray, List.getElem_cons_succ, List.getElem_cons_zero]
  go_simp
  go_at_call 95
  refine hel.mono ?_
  rintro e w6 ⟨rfl, h6, h7⟩
  have hp6 := (HP5.out.below (Below.refl _ _).drew).keeps h7 (by omega)
  have hm6 := (HM5.out.below (Below.refl _ _).drew).keeps h7 (by omega)
  have hr6 := (HR5.out.below (Below.refl _ _).drew).keeps h7 (by omega)
  have s2 : w6.cell? ⟨pb, 0, none⟩ = some (.pointer (some ⟨p, 0, none⟩)) ∧ w6.cell? ⟨w.heap.size, 0, none⟩ = some (.int .i64 n) ∧ w6.cell? ⟨w.heap.size, 1, none⟩ = some (.int .i64 n) := ⟨hp6.cell 0, hm6.cell 0, hm6.cell 1⟩
  have hb6 : Below w.heap.size w w6 := HBD.out.trans (Keep.below h7 HBD.out.size (fun k hk => by omega))
  have HP6 := Lib.hid hp6
  have HM6 := Lib.hid hm6
  have HR6 := Lib.hid hr6
  have HW6 := Lib.hid h6
  have HB6 := Lib.hid hb6
  clear hp6 hm6 hr6 h6 h7 hb6 hel
  try (go_wp2_with fail)
  refine hK.out _ _ (by first | exact s1 | exact s2) (fun hHeld => ?_)
  clear hK K
  try simp (maxSteps := 2000000) only [List.getElem_toArray, List.getElem_cons_succ, List.getElem_cons_zero, Act.put, List.setIfInBounds_toArray, List.set_cons_zero, List.set_cons_succ]
  refine wpAnyH_take (i := 6) (v := ?_) rfl (by kernel_rfl) (by kernel_rfl) (by kernel_rfl) (fun _ _ _ h => h) (Or.inl ⟨by first | kernel_rfl | rfl, ?_⟩) (by assumption) ?_
  rotate_left
  · (intro wq hSw; (try dsimp only at hSw); (try simp (maxSteps := 2000000) only [List.getElem_toArray, List.getElem_cons_succ, List.getElem_cons_zero]); go_simp); try with_reducible rfl
  try simp (maxSteps := 2000000) only [List.getElem_toArray, List.getElem_cons_succ, List.getElem_cons_zero, Act.put, List.setIfInBounds_toArray, List.set_cons_zero, List.set_cons_succ]
  refine wpAnyH_done (by kernel_rfl) ?_ _
  have k0 := HM6.out.cell 0
  have k1 := HM6.out.cell 1
  have hs6 := HB6.out.size
  clear s1 s2 hHeld
  go_wp2_with fail
  refine (filled_any h2 h2 (g := 96) (f := invE V n) (Lib.hid call_inv1) (Lib.hid fun i j W hi hj hW => ?_)).mono ?_
  · exact (inv1_any (HW6.out.below hW) (HP6.out.below hW) (HM6.out.below hW) h2 hi hj).mono fun e W' h => ⟨h.1, gt_lt (E2.out.shp.row hi).2 _, h.2⟩
  rintro e w7 ⟨A', c', rfl, hc', hr7, hb7⟩
  have g0 := (HR6.out.below hb7).cell 0
  have g1 := (HR6.out.below hb7).cell 1
  have g2 := (HR6.out.below hb7).cell 2
  have f0 := (HR6.out.below hb7).frozen 0
  have f1 := (HR6.out.below hb7).frozen 1
  have f2 := (HR6.out.below hb7).frozen 2
  have hrl6 := HR6.out.lt
  have HB7 := Lib.hid hb7
  have HRR := Lib.hid hr7
  clear hr7 hb7 k0 k1
  go_wp2_with fail
  refine bodyPost_ret (v := .tuple #[.agg #[.int .i64 (n : Int), .int .i64 (n : Int), .slice A' (n * n) c'], .int .i64 0]) (by simp [results, Tryz.results72, go_sem, *]) rfl ?_
  refine ⟨A', c', rfl, hc', ?_, ?_⟩
  · refine RdL.weaken ByR.stable (S := fun k => w6.heap.size ≤ k) ?_ (fun k hk => by have h5 : w6.heap.size ≤ k := hk; show _ ≤ k; omega)
    rw [← mkF_flat]
    repeat (first | exact HRR.out | refine RdL.setCell ByR.stable ?_ (show ¬ w6.heap.size ≤ _ by dsimp only; omega) _)
  · have hbk := HB6.out.trans (HB7.out.mono hs6)
    repeat (first | exact hbk | refine Below.setCell ?_ (by dsimp only; omega) _)
end Go.Proofs.YthhljmlpjnkfgaaGreat
