/-
  Do drives side by side answer as the document's?
  Do drives side by side answer as the document's, whatever is asked?
  ArrayPlays: where there are no drives, or too many.
-/
import Derived.Test.YtolmpopjonkfgaaPl12
set_option linter.unusedSimpArgs false
set_option linter.unusedVariables false
namespace Go.Proofs.Ytolmpopjonkfgaa
open Go.RowKit Go.Cib
attribute [local go_sem] cell_set Later.cell Later.frozen Grw.cell Grw.frozen

/-- wpAnyH_take, the slot said. -/
theorem wpAnyH_take2 {P : Program} {md : Region.Mode} {ops : Array Oper} {Q : Exit → Act → World → Prop} {S : World → Prop} {i : Nat} {oi : Oper} {v : Value} {fuel : Nat} {listed : Array Bool} {a : Act} {w : World} (d : Option Nat) (hi : ops[i]? = some oi) (hd : oi.dst = d)
    (hs : Region.noSelect ops = true) (hf : Region.free md ops listed i = true) (hr : (Region.ready md ops listed).contains i = true)
    (hQ : ∀ c a w, Q (.panic c) (a.put oi.dst v) w → Q (.panic c) a w) (hy : YieldsIf P ops S oi v a) (hS : S w)
    (h : wpAnyH P md ops Q S fuel (listed.setIfInBounds i true) (a.put d v) w) : wpAnyH P md ops Q S (fuel + 1) listed a w := by
  subst hd
  exact wpAnyH_take hi hs hf hr hQ hy hS h
theorem conv_all {S : Nat → Prop} {w : World} {A : Option Addr} {n c : Nat} {bs : List Int} (h : RdL U8R 1 S w A n bs) : (convert 27 9 (.slice A n c)).run Try.prog w = .ok (.string (strOfNums bs)) w := by
  by_cases hn : 0 < n
  · exact conv_run h hn
  · obtain rfl : n = 0 := by omega
    have hb : bs = [] := List.length_eq_zero_iff.1 h.1
    subst hb
    rw [run_convert_bytes_string w _ _ 5 _ _ _ (by kernel_rfl) (by kernel_rfl) (by kernel_rfl)]
    cases A with
    | none => simp [Conv.bytesToString]; rfl
    | some a => simp [Conv.bytesToString, loadCells, loadCellsFrom]; rfl
set_option maxRecDepth 100000 in
set_option maxHeartbeats 8000000 in
theorem alike10_in {w0 : World} {U V : Nat → Prop} {w : World} {a x n s t : Nat} {sa : List DSt} {ra : List RSt} (h : Hid (Twin w0 U V w a x n s t sa ra)) (ht : t < 1000) (k : Nat) (hk : k < n) (z : Int) :
    Calls Try.prog 49 #[.pointer (some ⟨a, 0, none⟩), .pointer (some ⟨x, 0, none⟩), .int .i64 k, .int .i64 z] w fun e w' => e = .returned (.bool true) ∧ Below w.heap.size w w' := by
  obtain ⟨st, rs, hsa, hra, SM, hsz, hrg⟩ := h.out.inv.at_ hk
  have hgd := h.out.inv.good (by omega) rs (List.mem_of_getElem? hra)
  obtain ⟨va, Fa, pa, hBa⟩ := h.out.da
  obtain ⟨vr, Fr, pr, hBr⟩ := h.out.dr
  have hla : sa.length = n := h.out.inv.la
  have hlr : ra.length = n := h.out.inv.lr
  have HA := Lib.hid hBa
  have HR := Lib.hid hBr
  have HSA := Lib.hid hsa
  have HRA := Lib.hid hra
  have hrd := aread_in HA k hsa z
  have HDE := Lib.hid SM.dead
  rw [SM.dead] at hrd
  have HRE := Lib.hid (SM.read_eq z)
  have HST := Lib.hid (SM.stored_eq z)
  have HRO := Lib.hid (SM.rotten_eq hrg.1 z)
  have HLN : Hid (st.cache.length = rs.wait.length) := Lib.hid (by rw [SM.cache, List.length_map])
  obtain ⟨E, hE⟩ : ∃ E, readyE rs.gone s z = E := ⟨_, rfl⟩
  rw [hE] at hrd
  have HE := Lib.hid hE
  clear hBa hBr hsa hra SM hsz hrg hE
  go_enter Try.func49, Try.ntmps49
  go_wp2_with fail
  refine hrd.mono ?_
  rintro e w1 ⟨A1, m1, c1, rfl, r1, t1⟩
  have HA1 := Lib.hid (HA.out.below t1)
  have HR1 := Lib.hid (HR.out.below t1)
  have T1 := Lib.hid t1
  have hrr := raread_in HR1 k HRA.out hgd z
  rw [HE.out] at hrr
  have R1 := Lib.hid r1
  clear hrd r1 t1
  go_wp2_with fail
  refine hrr.mono ?_
  rintro e w2 ⟨A2, m2, c2, rfl, r2, t2⟩
  rw [HRE.out] at r2
  have cv1 := conv_all (c := c1) (R1.out.below U8R.stable t2)
  have cv2 := conv_all (c := c2) r2
  have HA2 := Lib.hid (HA1.out.below t2)
  have HR2 := Lib.hid (HR1.out.below t2)
  have T2 := Lib.hid (below_then t2 T1.out)
  clear hrr r2 t2 R1 HA1 HR1 HA HR
  go_wp2_with fail
  have hhas := rahas_any HR2 (k : Int)
  rw [hlr, has_in hk] at hhas
  clear cv1 cv2
  refine hhas.mono ?_
  rintro e w3 ⟨rfl, t3⟩
  have HA3 := Lib.hid (HA2.out.below t3)
  have HR3 := Lib.hid (HR2.out.below t3)
  have T3 := Lib.hid (below_then t3 T2.out)
  clear hhas t3 HA2 HR2
  go_wp2_with fail
  obtain ⟨gb, cc, rfl⟩ := rarr_form HR3.out (by omega)
  obtain ⟨pp, hpp, hDr, hkl⟩ := HR3.out.p_at HRA.out
  have gc0 := rarr_c0 HR3.out
  have gcg := rarr_cg HR3.out hpp
  obtain ⟨Sb, vL, vW, hB, _⟩ := id hDr
  obtain ⟨AW, cW, rfl⟩ := ownL_form hB.oW
  have gk2 : w3.cell? ⟨pp, 2, none⟩ = some (.slice AW rs.wait.length cW) := (ref_cells hB).2.2.1
  have gk3 := (ref_cells hB).2.2.2
  have hl1 : x < w3.heap.size := HR3.out.box.lt
  have hl2 : gb < w3.heap.size := (HR3.out.own.lt gb rfl).2
  have hl3 : pp < w3.heap.size := hB.box.lt
  have HDR := Lib.hid hDr
  have CC : Hid (∀ w', Below w3.heap.size w3 w' → w'.cell? ⟨x, 0, none⟩ = some (.slice (some ⟨gb, 0, none⟩) ra.length cc) ∧ w'.cell? ⟨gb, k, none⟩ = some (.pointer (some ⟨pp, 0, none⟩)) ∧ w'.cell? ⟨pp, 2, none⟩ = some (.slice AW rs.wait.length cW) ∧ w'.cell? ⟨pp, 3, none⟩ = some (.bool rs.gone)) := Lib.hid fun w' h => ⟨(h.cell (p := ⟨x, 0, none⟩) hl1).trans gc0, (h.cell (p := ⟨gb, k, none⟩) hl2).trans gcg, (h.cell (p := ⟨pp, 2, none⟩) hl3).trans gk2, (h.cell (p := ⟨pp, 3, none⟩) hl3).trans gk3⟩
  have y := CC.out w3 (Below.refl _ _)
  obtain ⟨W, hW⟩ : ∃ W, rs.wait.length = W := ⟨_, rfl⟩
  obtain ⟨gn, hgn⟩ : ∃ b, rs.gone = b := ⟨_, rfl⟩
  have q1 : (0 : Int) ≤ (k : Int) := Int.natCast_nonneg _
  have q2 : (k : Int) < (ra.length : Int) := by omega
  clear gc0 gcg gk2 gk3 hB hDr hpp hla h hl1 hl2 hl3 hkl hW hgn W gn
  refine wp_region_held_drew (S := fun w' => w'.cell? ⟨x, 0, none⟩ = some (.slice (some ⟨gb, 0, none⟩) ra.length cc) ∧ w'.cell? ⟨gb, k, none⟩ = some (.pointer (some ⟨pp, 0, none⟩)) ∧ w'.cell? ⟨pp, 2, none⟩ = some (.slice AW rs.wait.length cW) ∧ w'.cell? ⟨pp, 3, none⟩ = some (.bool rs.gone)) (by kernel_rfl) (by first | exact y | exact ⟨y, hb⟩) (fun hHeld => ?_)
  refine wpAnyH_take (i := 0) (v := ?_) rfl (by kernel_rfl) (by kernel_rfl) (by kernel_rfl) (fun _ _ _ h => h) (Or.inl ⟨by first | kernel_rfl | rfl, ?_⟩) (by assumption) ?_
  rotate_left
  · (intro wq hSw; (try dsimp only at hSw); (try simp (maxSteps := 2000000) only [List.getElem_toArray, List.getElem_cons_succ, List.getElem_cons_zero]); go_simp); try with_reducible rfl
  try simp (maxSteps := 2000000) only [List.getElem_toArray, List.getElem_cons_succ, List.getElem_cons_zero, Act.put, List.setIfInBounds_toArray, List.set_cons_zero, List.set_cons_succ]
  refine wpAnyH_take (i := 1) (v := ?_) rfl (by kernel_rfl) (by kernel_rfl) (by kernel_rfl) (fun _ _ _ h => h) (Or.inl ⟨by first | kernel_rfl | rfl, ?_⟩) (by assumption) ?_
  rotate_left
  · (intro wq hSw; (try dsimp only at hSw); (try simp (maxSteps := 2000000) only [List.getElem_toArray, List.getElem_cons_succ, List.getElem_cons_zero]); go_simp); try with_reducible rfl
  try simp (maxSteps := 2000000) only [List.getElem_toArray, List.getElem_cons_succ, List.getElem_cons_zero, Act.put, List.setIfInBounds_toArray, List.set_cons_zero, List.set_cons_succ]
  refine wpAnyH_take (i := 3) (v := ?_) rfl (by kernel_rfl) (by kernel_rfl) (by kernel_rfl) (fun _ _ _ h => h) (Or.inl ⟨by first | kernel_rfl | rfl, ?_⟩) (by assumption) ?_
  rotate_left
  · (intro wq hSw; (try dsimp only at hSw); (try simp (maxSteps := 2000000) only [List.getElem_toArray, List.getElem_cons_succ, List.getElem_cons_zero]); go_simp); try with_reducible rfl
  try simp (maxSteps := 2000000) only [List.getElem_toArray, List.getElem_cons_succ, List.getElem_cons_zero, Act.put, List.setIfInBounds_toArray, List.set_cons_zero, List.set_cons_succ]
  refine wpAnyH_take (i := 4) (v := ?_) rfl (by kernel_rfl) (by kernel_rfl) (by kernel_rfl) (fun _ _ _ h => h) (Or.inl ⟨by first | kernel_rfl | rfl, ?_⟩) (by assumption) ?_
  rotate_left
  · (intro wq hSw; (try dsimp only at hSw); (try simp (maxSteps := 2000000) only [List.getElem_toArray, List.getElem_cons_succ, List.getElem_cons_zero]); go_simp); try with_reducible rfl
  try simp (maxSteps := 2000000) only [List.getElem_toArray, List.getElem_cons_succ, List.getElem_cons_zero, Act.put, List.setIfInBounds_toArray, List.set_cons_zero, List.set_cons_succ]
  refine wpAnyH_take (i := 5) (v := ?_) rfl (by kernel_rfl) (by kernel_rfl) (by kernel_rfl) (fun _ _ _ h => h) (Or.inl ⟨by first | kernel_rfl | rfl, ?_⟩) (by assumption) ?_
  rotate_left
  · (intro wq hSw; (try dsimp only at hSw); (try simp (maxSteps := 2000000) only [List.getElem_toArray, List.getElem_cons_succ, List.getElem_cons_zero]); go_simp); try with_reducible rfl
  try simp (maxSteps := 2000000) only [List.getElem_toArray, List.getElem_cons_succ, List.getElem_cons_zero, Act.put, List.setIfInBounds_toArray, List.set_cons_zero, List.set_cons_succ]
  refine wpAnyH_take (i := 6) (v := ?_) rfl (by kernel_rfl) (by kernel_rfl) (by kernel_rfl) (fun _ _ _ h => h) (Or.inl ⟨by first | kernel_rfl | rfl, ?_⟩) (by assumption) ?_
  rotate_left
  · (intro wq hSw; (try dsimp only at hSw); (try simp (maxSteps := 2000000) only [List.getElem_toArray, List.getElem_cons_succ, List.getElem_cons_zero]); go_simp); try with_reducible rfl
  try simp (maxSteps := 2000000) only [List.getElem_toArray, List.getElem_cons_succ, List.getElem_cons_zero, Act.put, List.setIfInBounds_toArray, List.set_cons_zero, List.set_cons_succ]
  refine wpAnyH_take (i := 7) (v := ?_) rfl (by kernel_rfl) (by kernel_rfl) (by kernel_rfl) (fun _ _ _ h => h) (Or.inl ⟨by first | kernel_rfl | rfl, ?_⟩) (by assumption) ?_
  rotate_left
  · (intro wq hSw; (try dsimp only at hSw); (try simp (maxSteps := 2000000) only [List.getElem_toArray, List.getElem_cons_succ, List.getElem_cons_zero]); go_simp); try with_reducible rfl
  try simp (maxSteps := 2000000) only [List.getElem_toArray, List.getElem_cons_succ, List.getElem_cons_zero, Act.put, List.setIfInBounds_toArray, List.set_cons_zero, List.set_cons_succ]
  refine wpAnyH_take (i := 8) (v := ?_) rfl (by kernel_rfl) (by kernel_rfl) (by kernel_rfl) (fun _ _ _ h => h) (Or.inl ⟨by first | kernel_rfl | rfl, ?_⟩) (by assumption) ?_
  rotate_left
  · (intro wq hSw; (try dsimp only at hSw); (try simp (maxSteps := 2000000) only [List.getElem_toArray, List.getElem_cons_succ, List.getElem_cons_zero]); go_simp); try with_reducible rfl
  try simp (maxSteps := 2000000) only [List.getElem_toArray, List.getElem_cons_succ, List.getElem_cons_zero, Act.put, List.setIfInBounds_toArray, List.set_cons_zero, List.set_cons_succ]
  refine wpAnyH_take (i := 9) (v := ?_) rfl (by kernel_rfl) (by kernel_rfl) (by kernel_rfl) (fun _ _ _ h => h) (Or.inl ⟨by first | kernel_rfl | rfl, ?_⟩) (by assumption) ?_
  rotate_left
  · (intro wq hSw; (try dsimp only at hSw); (try simp (maxSteps := 2000000) only [List.getElem_toArray, List.getElem_cons_succ, List.getElem_cons_zero]); go_simp); try with_reducible rfl
  try simp (maxSteps := 2000000) only [List.getElem_toArray, List.getElem_cons_succ, List.getElem_cons_zero, Act.put, List.setIfInBounds_toArray, List.set_cons_zero, List.set_cons_succ]
  refine wpAnyH_take (i := 10) (v := ?_) rfl (by kernel_rfl) (by kernel_rfl) (by kernel_rfl) (fun _ _ _ h => h) (Or.inl ⟨by first | kernel_rfl | rfl, ?_⟩) (by assumption) ?_
  rotate_left
  · (intro wq hSw; (try dsimp only at hSw); (try simp (maxSteps := 2000000) only [List.getElem_toArray, List.getElem_cons_succ, List.getElem_cons_zero]); go_simp); try with_reducible rfl
  try simp (maxSteps := 2000000) only [List.getElem_toArray, List.getElem_cons_succ, List.getElem_cons_zero, Act.put, List.setIfInBounds_toArray, List.set_cons_zero, List.set_cons_succ]
  refine wpAnyH_take (i := 11) (v := ?_) rfl (by kernel_rfl) (by kernel_rfl) (by kernel_rfl) (fun _ _ _ h => h) (Or.inl ⟨by first | kernel_rfl | rfl, ?_⟩) (by assumption) ?_
  rotate_left
  · (intro wq hSw; (try dsimp only at hSw); (try simp (maxSteps := 2000000) only [List.getElem_toArray, List.getElem_cons_succ, List.getElem_cons_zero]); go_simp); try with_reducible rfl
  try simp (maxSteps := 2000000) only [List.getElem_toArray, List.getElem_cons_succ, List.getElem_cons_zero, Act.put, List.setIfInBounds_toArray, List.set_cons_zero, List.set_cons_succ]
  refine wpAnyH_take (i := 12) (v := ?_) rfl (by kernel_rfl) (by kernel_rfl) (by kernel_rfl) (fun _ _ _ h => h) (Or.inl ⟨by first | kernel_rfl | rfl, ?_⟩) (by assumption) ?_
  rotate_left
  · (intro wq hSw; (try dsimp only at hSw); (try simp (maxSteps := 2000000) only [List.getElem_toArray, List.getElem_cons_succ, List.getElem_cons_zero]); go_simp); try with_reducible rfl
  try simp (maxSteps := 2000000) only [List.getElem_toArray, List.getElem_cons_succ, List.getElem_cons_zero, Act.put, List.setIfInBounds_toArray, List.set_cons_zero, List.set_cons_succ]
  refine wpAnyH_ready (rs := [2]) (by kernel_rfl) (by simp) ?_
  refine AllReadyH.cons rfl (fun K hK => ?_) AllReadyH.nil
  try simp (maxSteps := 2000000) only [List.getElem_toArray, List.getElem_cons_succ, List.getElem_cons_zero]
  go_simp
  refine (adead_in (Lib.hid (HA3.out.below (Below.refl _ _).drew)) k HSA.out).mono ?_
  rintro e wd ⟨rfl, td⟩
  have TD := Lib.hid (below_then td (Below.refl _ _).drew)
  rw [HDE.out]
  clear td y
  have y := CC.out wd TD.out
  try (go_wp2_with fail)
  refine hK.out _ _ (by first | exact y | exact ⟨y, hb⟩) (fun hHeld => ?_)
  clear hK K
  try simp (maxSteps := 2000000) only [List.getElem_toArray, List.getElem_cons_succ, List.getElem_cons_zero, Act.put, List.setIfInBounds_toArray, List.set_cons_zero, List.set_cons_succ]
  refine wpAnyH_take (i := 13) (v := ?_) rfl (by kernel_rfl) (by kernel_rfl) (by kernel_rfl) (fun _ _ _ h => h) (Or.inl ⟨by first | kernel_rfl | rfl, ?_⟩) (by assumption) ?_
  rotate_left
  · (intro wq hSw; (try dsimp only at hSw); (try simp (maxSteps := 2000000) only [List.getElem_toArray, List.getElem_cons_succ, List.getElem_cons_zero]); go_simp); try with_reducible rfl
  try simp (maxSteps := 2000000) only [List.getElem_toArray, List.getElem_cons_succ, List.getElem_cons_zero, Act.put, List.setIfInBounds_toArray, List.set_cons_zero, List.set_cons_succ]
  refine wpAnyH_take (i := 14) (v := ?_) rfl (by kernel_rfl) (by kernel_rfl) (by kernel_rfl) (fun _ _ _ h => h) (Or.inl ⟨by first | kernel_rfl | rfl, ?_⟩) (by assumption) ?_
  rotate_left
  · (intro wq hSw; (try dsimp only at hSw); (try simp (maxSteps := 2000000) only [List.getElem_toArray, List.getElem_cons_succ, List.getElem_cons_zero]); go_simp); try with_reducible rfl
  try simp (maxSteps := 2000000) only [List.getElem_toArray, List.getElem_cons_succ, List.getElem_cons_zero, Act.put, List.setIfInBounds_toArray, List.set_cons_zero, List.set_cons_succ]
  refine wpAnyH_take (i := 15) (v := ?_) rfl (by kernel_rfl) (by kernel_rfl) (by kernel_rfl) (fun _ _ _ h => h) (Or.inl ⟨by first | kernel_rfl | rfl, ?_⟩) (by assumption) ?_
  rotate_left
  · (intro wq hSw; (try dsimp only at hSw); (try simp (maxSteps := 2000000) only [List.getElem_toArray, List.getElem_cons_succ, List.getElem_cons_zero]); go_simp); try with_reducible rfl
  try simp (maxSteps := 2000000) only [List.getElem_toArray, List.getElem_cons_succ, List.getElem_cons_zero, Act.put, List.setIfInBounds_toArray, List.set_cons_zero, List.set_cons_succ]
  refine wpAnyH_take (i := 16) (v := ?_) rfl (by kernel_rfl) (by kernel_rfl) (by kernel_rfl) (fun _ _ _ h => h) (Or.inl ⟨by first | kernel_rfl | rfl, ?_⟩) (by assumption) ?_
  rotate_left
  · (intro wq hSw; (try dsimp only at hSw); (try simp (maxSteps := 2000000) only [List.getElem_toArray, List.getElem_cons_succ, List.getElem_cons_zero]); go_simp); try with_reducible rfl
  try simp (maxSteps := 2000000) only [List.getElem_toArray, List.getElem_cons_succ, List.getElem_cons_zero, Act.put, List.setIfInBounds_toArray, List.set_cons_zero, List.set_cons_succ]
  refine wpAnyH_take (i := 18) (v := ?_) rfl (by kernel_rfl) (by kernel_rfl) (by kernel_rfl) (fun _ _ _ h => h) (Or.inl ⟨by first | kernel_rfl | rfl, ?_⟩) (by assumption) ?_
  rotate_left
  · (intro wq hSw; (try dsimp only at hSw); (try simp (maxSteps := 2000000) only [List.getElem_toArray, List.getElem_cons_succ, List.getElem_cons_zero]); go_simp); try with_reducible rfl
  try simp (maxSteps := 2000000) only [List.getElem_toArray, List.getElem_cons_succ, List.getElem_cons_zero, Act.put, List.setIfInBounds_toArray, List.set_cons_zero, List.set_cons_succ]
  refine wpAnyH_take (i := 19) (v := ?_) rfl (by kernel_rfl) (by kernel_rfl) (by kernel_rfl) (fun _ _ _ h => h) (Or.inl ⟨by first | kernel_rfl | rfl, ?_⟩) (by assumption) ?_
  rotate_left
  · (intro wq hSw; (try dsimp only at hSw); (try simp (maxSteps := 2000000) only [List.getElem_toArray, List.getElem_cons_succ, List.getElem_cons_zero]); go_simp); try with_reducible rfl
  try simp (maxSteps := 2000000) only [List.getElem_toArray, List.getElem_cons_succ, List.getElem_cons_zero, Act.put, List.setIfInBounds_toArray, List.set_cons_zero, List.set_cons_succ]
  refine wpAnyH_take (i := 20) (v := ?_) rfl (by kernel_rfl) (by kernel_rfl) (by kernel_rfl) (fun _ _ _ h => h) (Or.inl ⟨by first | kernel_rfl | rfl, ?_⟩) (by assumption) ?_
  rotate_left
  · (intro wq hSw; (try dsimp only at hSw); (try simp (maxSteps := 2000000) only [List.getElem_toArray, List.getElem_cons_succ, List.getElem_cons_zero]); go_simp); try with_reducible rfl
  try simp (maxSteps := 2000000) only [List.getElem_toArray, List.getElem_cons_succ, List.getElem_cons_zero, Act.put, List.setIfInBounds_toArray, List.set_cons_zero, List.set_cons_succ]
  refine wpAnyH_take (i := 21) (v := ?_) rfl (by kernel_rfl) (by kernel_rfl) (by kernel_rfl) (fun _ _ _ h => h) (Or.inl ⟨by first | kernel_rfl | rfl, ?_⟩) (by assumption) ?_
  rotate_left
  · (intro wq hSw; (try dsimp only at hSw); (try simp (maxSteps := 2000000) only [List.getElem_toArray, List.getElem_cons_succ, List.getElem_cons_zero]); go_simp); try with_reducible rfl
  try simp (maxSteps := 2000000) only [List.getElem_toArray, List.getElem_cons_succ, List.getElem_cons_zero, Act.put, List.setIfInBounds_toArray, List.set_cons_zero, List.set_cons_succ]
  refine wpAnyH_take (i := 22) (v := ?_) rfl (by kernel_rfl) (by kernel_rfl) (by kernel_rfl) (fun _ _ _ h => h) (Or.inl ⟨by first | kernel_rfl | rfl, ?_⟩) (by assumption) ?_
  rotate_left
  · (intro wq hSw; (try dsimp only at hSw); (try simp (maxSteps := 2000000) only [List.getElem_toArray, List.getElem_cons_succ, List.getElem_cons_zero]); go_simp); try with_reducible rfl
  try simp (maxSteps := 2000000) only [List.getElem_toArray, List.getElem_cons_succ, List.getElem_cons_zero, Act.put, List.setIfInBounds_toArray, List.set_cons_zero, List.set_cons_succ]
  refine wpAnyH_take (i := 23) (v := ?_) rfl (by kernel_rfl) (by kernel_rfl) (by kernel_rfl) (fun _ _ _ h => h) (Or.inl ⟨by first | kernel_rfl | rfl, ?_⟩) (by assumption) ?_
  rotate_left
  · (intro wq hSw; (try dsimp only at hSw); (try simp (maxSteps := 2000000) only [List.getElem_toArray, List.getElem_cons_succ, List.getElem_cons_zero]); go_simp); try with_reducible rfl
  try simp (maxSteps := 2000000) only [List.getElem_toArray, List.getElem_cons_succ, List.getElem_cons_zero, Act.put, List.setIfInBounds_toArray, List.set_cons_zero, List.set_cons_succ]
  refine wpAnyH_take (i := 24) (v := ?_) rfl (by kernel_rfl) (by kernel_rfl) (by kernel_rfl) (fun _ _ _ h => h) (Or.inl ⟨by first | kernel_rfl | rfl, ?_⟩) (by assumption) ?_
  rotate_left
  · (intro wq hSw; (try dsimp only at hSw); (try simp (maxSteps := 2000000) only [List.getElem_toArray, List.getElem_cons_succ, List.getElem_cons_zero]); go_simp); try with_reducible rfl
  try simp (maxSteps := 2000000) only [List.getElem_toArray, List.getElem_cons_succ, List.getElem_cons_zero, Act.put, List.setIfInBounds_toArray, List.set_cons_zero, List.set_cons_succ]
  refine wpAnyH_take (i := 25) (v := ?_) rfl (by kernel_rfl) (by kernel_rfl) (by kernel_rfl) (fun _ _ _ h => h) (Or.inl ⟨by first | kernel_rfl | rfl, ?_⟩) (by assumption) ?_
  rotate_left
  · (intro wq hSw; (try dsimp only at hSw); (try simp (maxSteps := 2000000) only [List.getElem_toArray, List.getElem_cons_succ, List.getElem_cons_zero]); go_simp); try with_reducible rfl
  try simp (maxSteps := 2000000) only [List.getElem_toArray, List.getElem_cons_succ, List.getElem_cons_zero, Act.put, List.setIfInBounds_toArray, List.set_cons_zero, List.set_cons_succ]
  refine wpAnyH_take (i := 26) (v := ?_) rfl (by kernel_rfl) (by kernel_rfl) (by kernel_rfl) (fun _ _ _ h => h) (Or.inl ⟨by first | kernel_rfl | rfl, ?_⟩) (by assumption) ?_
  rotate_left
  · (intro wq hSw; (try dsimp only at hSw); (try simp (maxSteps := 2000000) only [List.getElem_toArray, List.getElem_cons_succ, List.getElem_cons_zero]); go_simp); try with_reducible rfl
  try simp (maxSteps := 2000000) only [List.getElem_toArray, List.getElem_cons_succ, List.getElem_cons_zero, Act.put, List.setIfInBounds_toArray, List.set_cons_zero, List.set_cons_succ]
  refine wpAnyH_take (i := 27) (v := ?_) rfl (by kernel_rfl) (by kernel_rfl) (by kernel_rfl) (fun _ _ _ h => h) (Or.inl ⟨by first | kernel_rfl | rfl, ?_⟩) (by assumption) ?_
  rotate_left
  · (intro wq hSw; (try dsimp only at hSw); (try simp (maxSteps := 2000000) only [List.getElem_toArray, List.getElem_cons_succ, List.getElem_cons_zero]); go_simp); try with_reducible rfl
  try simp (maxSteps := 2000000) only [List.getElem_toArray, List.getElem_cons_succ, List.getElem_cons_zero, Act.put, List.setIfInBounds_toArray, List.set_cons_zero, List.set_cons_succ]
  refine wpAnyH_take (i := 28) (v := ?_) rfl (by kernel_rfl) (by kernel_rfl) (by kernel_rfl) (fun _ _ _ h => h) (Or.inl ⟨by first | kernel_rfl | rfl, ?_⟩) (by assumption) ?_
  rotate_left
  · (intro wq hSw; (try dsimp only at hSw); (try simp (maxSteps := 2000000) only [List.getElem_toArray, List.getElem_cons_succ, List.getElem_cons_zero]); go_simp); try with_reducible rfl
  try simp (maxSteps := 2000000) only [List.getElem_toArray, List.getElem_cons_succ, List.getElem_cons_zero, Act.put, List.setIfInBounds_toArray, List.set_cons_zero, List.set_cons_succ]
  refine wpAnyH_ready (rs := [17]) (by kernel_rfl) (by simp) ?_
  refine AllReadyH.cons rfl (fun K hK => ?_) AllReadyH.nil
  try simp (maxSteps := 2000000) only [List.getElem_toArray, List.getElem_cons_succ, List.getElem_cons_zero]
  go_simp
  refine (awaits_in (Lib.hid (HA3.out.below TD.out)) k HSA.out).mono ?_
  rintro e ww ⟨rfl, tw⟩
  have TW := Lib.hid (below_then tw TD.out)
  rw [HLN.out]
  clear tw y
  have y := CC.out ww TW.out
  try (go_wp2_with fail)
  refine hK.out _ _ (by first | exact y | exact ⟨y, hb⟩) (fun hHeld => ?_)
  clear hK K
  try simp (maxSteps := 2000000) only [List.getElem_toArray, List.getElem_cons_succ, List.getElem_cons_zero, Act.put, List.setIfInBounds_toArray, List.set_cons_zero, List.set_cons_succ]
  refine wpAnyH_take (i := 29) (v := ?_) rfl (by kernel_rfl) (by kernel_rfl) (by kernel_rfl) (fun _ _ _ h => h) (Or.inl ⟨by first | kernel_rfl | rfl, ?_⟩) (by assumption) ?_
  rotate_left
  · (intro wq hSw; (try dsimp only at hSw); (try simp (maxSteps := 2000000) only [List.getElem_toArray, List.getElem_cons_succ, List.getElem_cons_zero]); go_simp); try with_reducible rfl
  try simp (maxSteps := 2000000) only [List.getElem_toArray, List.getElem_cons_succ, List.getElem_cons_zero, Act.put, List.setIfInBounds_toArray, List.set_cons_zero, List.set_cons_succ]
  refine wpAnyH_take (i := 30) (v := ?_) rfl (by kernel_rfl) (by kernel_rfl) (by kernel_rfl) (fun _ _ _ h => h) (Or.inl ⟨by first | kernel_rfl | rfl, ?_⟩) (by assumption) ?_
  rotate_left
  · (intro wq hSw; (try dsimp only at hSw); (try simp (maxSteps := 2000000) only [List.getElem_toArray, List.getElem_cons_succ, List.getElem_cons_zero]); go_simp); try with_reducible rfl
  try simp (maxSteps := 2000000) only [List.getElem_toArray, List.getElem_cons_succ, List.getElem_cons_zero, Act.put, List.setIfInBounds_toArray, List.set_cons_zero, List.set_cons_succ]
  refine wpAnyH_take (i := 31) (v := ?_) rfl (by kernel_rfl) (by kernel_rfl) (by kernel_rfl) (fun _ _ _ h => h) (Or.inl ⟨by first | kernel_rfl | rfl, ?_⟩) (by assumption) ?_
  rotate_left
  · (intro wq hSw; (try dsimp only at hSw); (try simp (maxSteps := 2000000) only [List.getElem_toArray, List.getElem_cons_succ, List.getElem_cons_zero]); go_simp); try with_reducible rfl
  try simp (maxSteps := 2000000) only [List.getElem_toArray, List.getElem_cons_succ, List.getElem_cons_zero, Act.put, List.setIfInBounds_toArray, List.set_cons_zero, List.set_cons_succ]
  refine wpAnyH_take (i := 32) (v := ?_) rfl (by kernel_rfl) (by kernel_rfl) (by kernel_rfl) (fun _ _ _ h => h) (Or.inl ⟨by first | kernel_rfl | rfl, ?_⟩) (by assumption) ?_
  rotate_left
  · (intro wq hSw; (try dsimp only at hSw); (try simp (maxSteps := 2000000) only [List.getElem_toArray, List.getElem_cons_succ, List.getElem_cons_zero]); go_simp); try with_reducible rfl
  try simp (maxSteps := 2000000) only [List.getElem_toArray, List.getElem_cons_succ, List.getElem_cons_zero, Act.put, List.setIfInBounds_toArray, List.set_cons_zero, List.set_cons_succ]
  refine wpAnyH_take (i := 33) (v := ?_) rfl (by kernel_rfl) (by kernel_rfl) (by kernel_rfl) (fun _ _ _ h => h) (Or.inl ⟨by first | kernel_rfl | rfl, ?_⟩) (by assumption) ?_
  rotate_left
  · (intro wq hSw; (try dsimp only at hSw); (try simp (maxSteps := 2000000) only [List.getElem_toArray, List.getElem_cons_succ, List.getElem_cons_zero]); go_simp); try with_reducible rfl
  try simp (maxSteps := 2000000) only [List.getElem_toArray, List.getElem_cons_succ, List.getElem_cons_zero, Act.put, List.setIfInBounds_toArray, List.set_cons_zero, List.set_cons_succ]
  refine wpAnyH_take (i := 34) (v := ?_) rfl (by kernel_rfl) (by kernel_rfl) (by kernel_rfl) (fun _ _ _ h => h) (Or.inl ⟨by first | kernel_rfl | rfl, ?_⟩) (by assumption) ?_
  rotate_left
  · (intro wq hSw; (try dsimp only at hSw); (try simp (maxSteps := 2000000) only [List.getElem_toArray, List.getElem_cons_succ, List.getElem_cons_zero]); go_simp); try with_reducible rfl
  try simp (maxSteps := 2000000) only [List.getElem_toArray, List.getElem_cons_succ, List.getElem_cons_zero, Act.put, List.setIfInBounds_toArray, List.set_cons_zero, List.set_cons_succ]
  refine wpAnyH_take (i := 37) (v := ?_) rfl (by kernel_rfl) (by kernel_rfl) (by kernel_rfl) (fun _ _ _ h => h) (Or.inl ⟨by first | kernel_rfl | rfl, ?_⟩) (by assumption) ?_
  rotate_left
  · (intro wq hSw; (try dsimp only at hSw); (try simp (maxSteps := 2000000) only [List.getElem_toArray, List.getElem_cons_succ, List.getElem_cons_zero]); go_simp); try with_reducible rfl
  try simp (maxSteps := 2000000) only [List.getElem_toArray, List.getElem_cons_succ, List.getElem_cons_zero, Act.put, List.setIfInBounds_toArray, List.set_cons_zero, List.set_cons_succ]
  refine wpAnyH_take (i := 38) (v := ?_) rfl (by kernel_rfl) (by kernel_rfl) (by kernel_rfl) (fun _ _ _ h => h) (Or.inl ⟨by first | kernel_rfl | rfl, ?_⟩) (by assumption) ?_
  rotate_left
  · (intro wq hSw; (try dsimp only at hSw); (try simp (maxSteps := 2000000) only [List.getElem_toArray, List.getElem_cons_succ, List.getElem_cons_zero]); go_simp); try with_reducible rfl
  try simp (maxSteps := 2000000) only [List.getElem_toArray, List.getElem_cons_succ, List.getElem_cons_zero, Act.put, List.setIfInBounds_toArray, List.set_cons_zero, List.set_cons_succ]
  refine wpAnyH_take (i := 39) (v := ?_) rfl (by kernel_rfl) (by kernel_rfl) (by kernel_rfl) (fun _ _ _ h => h) (Or.inl ⟨by first | kernel_rfl | rfl, ?_⟩) (by assumption) ?_
  rotate_left
  · (intro wq hSw; (try dsimp only at hSw); (try simp (maxSteps := 2000000) only [List.getElem_toArray, List.getElem_cons_succ, List.getElem_cons_zero]); go_simp); try with_reducible rfl
  try simp (maxSteps := 2000000) only [List.getElem_toArray, List.getElem_cons_succ, List.getElem_cons_zero, Act.put, List.setIfInBounds_toArray, List.set_cons_zero, List.set_cons_succ]
  refine wpAnyH_take (i := 40) (v := ?_) rfl (by kernel_rfl) (by kernel_rfl) (by kernel_rfl) (fun _ _ _ h => h) (Or.inl ⟨by first | kernel_rfl | rfl, ?_⟩) (by assumption) ?_
  rotate_left
  · (intro wq hSw; (try dsimp only at hSw); (try simp (maxSteps := 2000000) only [List.getElem_toArray, List.getElem_cons_succ, List.getElem_cons_zero]); go_simp); try with_reducible rfl
  try simp (maxSteps := 2000000) only [List.getElem_toArray, List.getElem_cons_succ, List.getElem_cons_zero, Act.put, List.setIfInBounds_toArray, List.set_cons_zero, List.set_cons_succ]
  refine wpAnyH_take (i := 41) (v := ?_) rfl (by kernel_rfl) (by kernel_rfl) (by kernel_rfl) (fun _ _ _ h => h) (Or.inl ⟨by first | kernel_rfl | rfl, ?_⟩) (by assumption) ?_
  rotate_left
  · (intro wq hSw; (try dsimp only at hSw); (try simp (maxSteps := 2000000) only [List.getElem_toArray, List.getElem_cons_succ, List.getElem_cons_zero]); go_simp); try with_reducible rfl
  try simp (maxSteps := 2000000) only [List.getElem_toArray, List.getElem_cons_succ, List.getElem_cons_zero, Act.put, List.setIfInBounds_toArray, List.set_cons_zero, List.set_cons_succ]
  refine wpAnyH_take (i := 42) (v := ?_) rfl (by kernel_rfl) (by kernel_rfl) (by kernel_rfl) (fun _ _ _ h => h) (Or.inl ⟨by first | kernel_rfl | rfl, ?_⟩) (by assumption) ?_
  rotate_left
  · (intro wq hSw; (try dsimp only at hSw); (try simp (maxSteps := 2000000) only [List.getElem_toArray, List.getElem_cons_succ, List.getElem_cons_zero]); go_simp); try with_reducible rfl
  try simp (maxSteps := 2000000) only [List.getElem_toArray, List.getElem_cons_succ, List.getElem_cons_zero, Act.put, List.setIfInBounds_toArray, List.set_cons_zero, List.set_cons_succ]
  refine wpAnyH_take (i := 43) (v := ?_) rfl (by kernel_rfl) (by kernel_rfl) (by kernel_rfl) (fun _ _ _ h => h) (Or.inl ⟨by first | kernel_rfl | rfl, ?_⟩) (by assumption) ?_
  rotate_left
  · (intro wq hSw; (try dsimp only at hSw); (try simp (maxSteps := 2000000) only [List.getElem_toArray, List.getElem_cons_succ, List.getElem_cons_zero]); go_simp); try with_reducible rfl
  try simp (maxSteps := 2000000) only [List.getElem_toArray, List.getElem_cons_succ, List.getElem_cons_zero, Act.put, List.setIfInBounds_toArray, List.set_cons_zero, List.set_cons_succ]
  refine wpAnyH_take (i := 44) (v := ?_) rfl (by kernel_rfl) (by kernel_rfl) (by kernel_rfl) (fun _ _ _ h => h) (Or.inl ⟨by first | kernel_rfl | rfl, ?_⟩) (by assumption) ?_
  rotate_left
  · (intro wq hSw; (try dsimp only at hSw); (try simp (maxSteps := 2000000) only [List.getElem_toArray, List.getElem_cons_succ, List.getElem_cons_zero]); go_simp); try with_reducible rfl
  try simp (maxSteps := 2000000) only [List.getElem_toArray, List.getElem_cons_succ, List.getElem_cons_zero, Act.put, List.setIfInBounds_toArray, List.set_cons_zero, List.set_cons_succ]
  refine wpAnyH_ready (rs := [35]) (by kernel_rfl) (by simp) ?_
  refine AllReadyH.cons rfl (fun K hK => ?_) AllReadyH.nil
  try simp (maxSteps := 2000000) only [List.getElem_toArray, List.getElem_cons_succ, List.getElem_cons_zero]
  go_simp
  refine (astored_in (Lib.hid (HA3.out.below TW.out)) k HSA.out z).mono ?_
  rintro e w35 ⟨A35, m35, c35, rfl, r35, t35⟩
  have T35 := Lib.hid (below_then t35 TW.out)
  have Q35 := Lib.hid r35
  have v35 : ∀ w', Below w35.heap.size w35 w' → (convert 27 9 (.slice A35 m35 c35)).run Try.prog w' = .ok (.string (strOfNums (storedL st s z))) w' := fun w' h => conv_all (Q35.out.below U8R.stable h)
  clear r35 t35 y
  have y := CC.out w35 T35.out
  have hb := Below.refl w35.heap.size w35
  try (go_wp2_with fail)
  refine hK.out _ _ (by first | exact y | exact ⟨y, hb⟩) (fun hHeld => ?_)
  clear hK K
  try simp (maxSteps := 2000000) only [List.getElem_toArray, List.getElem_cons_succ, List.getElem_cons_zero, Act.put, List.setIfInBounds_toArray, List.set_cons_zero, List.set_cons_succ]
  have hbb : (w35.cell? ⟨x, 0, none⟩ = some (.slice (some ⟨gb, 0, none⟩) ra.length cc) ∧ w35.cell? ⟨gb, k, none⟩ = some (.pointer (some ⟨pp, 0, none⟩)) ∧ w35.cell? ⟨pp, 2, none⟩ = some (.slice AW rs.wait.length cW) ∧ w35.cell? ⟨pp, 3, none⟩ = some (.bool rs.gone)) ∧ Below w35.heap.size w35 w35 := ⟨y, hb⟩
  refine wpAnyH_narrow (S' := fun w' => (w'.cell? ⟨x, 0, none⟩ = some (.slice (some ⟨gb, 0, none⟩) ra.length cc) ∧ w'.cell? ⟨gb, k, none⟩ = some (.pointer (some ⟨pp, 0, none⟩)) ∧ w'.cell? ⟨pp, 2, none⟩ = some (.slice AW rs.wait.length cW) ∧ w'.cell? ⟨pp, 3, none⟩ = some (.bool rs.gone)) ∧ Below w35.heap.size w35 w') (fun w' h => h.1) _ _ _ _ ?_
  refine wpAnyH_take (i := 36) (v := ?_) rfl (by kernel_rfl) (by kernel_rfl) (by kernel_rfl) (fun _ _ _ h => h) (Or.inl ⟨by first | kernel_rfl | rfl, ?_⟩) (by assumption) ?_
  rotate_left
  · (intro wq hSw; (try dsimp only at hSw); (try simp (maxSteps := 2000000) only [List.getElem_toArray, List.getElem_cons_succ, List.getElem_cons_zero]); go_simp); try with_reducible rfl
  try simp (maxSteps := 2000000) only [List.getElem_toArray, List.getElem_cons_succ, List.getElem_cons_zero, Act.put, List.setIfInBounds_toArray, List.set_cons_zero, List.set_cons_succ]
  refine wpAnyH_ready (rs := [45]) (by kernel_rfl) (by simp) ?_
  refine AllReadyH.cons rfl (fun K hK => ?_) AllReadyH.nil
  try simp (maxSteps := 2000000) only [List.getElem_toArray, List.getElem_cons_succ, List.getElem_cons_zero]
  go_simp
  refine (rstored_whole (Lib.hid (HDR.out.below T35.out)) hgd z).mono ?_
  rintro e w45 ⟨A45, m45, c45, rfl, r45, t45⟩
  have T45 := Lib.hid (below_then t45 T35.out)
  rw [HST.out] at r45
  have v45 := conv_all (c := c45) r45
  clear y hb hbb r45
  have y := CC.out w45 T45.out
  have hb := t45
  clear t45
  try (go_wp2_with fail)
  refine hK.out _ _ (by first | exact y | exact ⟨y, hb⟩) (fun hHeld => ?_)
  clear hK K
  try simp (maxSteps := 2000000) only [List.getElem_toArray, List.getElem_cons_succ, List.getElem_cons_zero, Act.put, List.setIfInBounds_toArray, List.set_cons_zero, List.set_cons_succ]
  refine wpAnyH_ready (rs := [46]) (by kernel_rfl) (by simp) ?_
  refine AllReadyH.cons rfl (fun K hK => ?_) AllReadyH.nil
  try simp (maxSteps := 2000000) only [List.getElem_toArray, List.getElem_cons_succ, List.getElem_cons_zero]
  go_simp
  refine hK.out _ _ (by first | exact y | exact ⟨y, hb⟩) (fun hHeld => ?_)
  clear hK K
  try simp (maxSteps := 2000000) only [List.getElem_toArray, List.getElem_cons_succ, List.getElem_cons_zero, Act.put, List.setIfInBounds_toArray, List.set_cons_zero, List.set_cons_succ]
  refine wpAnyH_take (i := 47) (v := ?_) rfl (by kernel_rfl) (by kernel_rfl) (by kernel_rfl) (fun _ _ _ h => h) (Or.inl ⟨by first | kernel_rfl | rfl, ?_⟩) (by assumption) ?_
  rotate_left
  · (intro wq hSw; (try dsimp only at hSw); (try simp (maxSteps := 2000000) only [List.getElem_toArray, List.getElem_cons_succ, List.getElem_cons_zero]); go_simp); try with_reducible rfl
  try simp (maxSteps := 2000000) only [List.getElem_toArray, List.getElem_cons_succ, List.getElem_cons_zero, Act.put, List.setIfInBounds_toArray, List.set_cons_zero, List.set_cons_succ]
  refine wpAnyH_take (i := 48) (v := ?_) rfl (by kernel_rfl) (by kernel_rfl) (by kernel_rfl) (fun _ _ _ h => h) (Or.inl ⟨by first | kernel_rfl | rfl, ?_⟩) (by assumption) ?_
  rotate_left
  · (intro wq hSw; (try dsimp only at hSw); (try simp (maxSteps := 2000000) only [List.getElem_toArray, List.getElem_cons_succ, List.getElem_cons_zero]); go_simp); try with_reducible rfl
  try simp (maxSteps := 2000000) only [List.getElem_toArray, List.getElem_cons_succ, List.getElem_cons_zero, Act.put, List.setIfInBounds_toArray, List.set_cons_zero, List.set_cons_succ]
  refine wpAnyH_take (i := 49) (v := ?_) rfl (by kernel_rfl) (by kernel_rfl) (by kernel_rfl) (fun _ _ _ h => h) (Or.inl ⟨by first | kernel_rfl | rfl, ?_⟩) (by assumption) ?_
  rotate_left
  · (intro wq hSw; (try dsimp only at hSw); (try simp (maxSteps := 2000000) only [List.getElem_toArray, List.getElem_cons_succ, List.getElem_cons_zero]); go_simp); try with_reducible rfl
  try simp (maxSteps := 2000000) only [List.getElem_toArray, List.getElem_cons_succ, List.getElem_cons_zero, Act.put, List.setIfInBounds_toArray, List.set_cons_zero, List.set_cons_succ]
  refine wpAnyH_take (i := 50) (v := ?_) rfl (by kernel_rfl) (by kernel_rfl) (by kernel_rfl) (fun _ _ _ h => h) (Or.inl ⟨by first | kernel_rfl | rfl, ?_⟩) (by assumption) ?_
  rotate_left
  · (intro wq hSw; (try dsimp only at hSw); (try simp (maxSteps := 2000000) only [List.getElem_toArray, List.getElem_cons_succ, List.getElem_cons_zero]); go_simp); try with_reducible rfl
  try simp (maxSteps := 2000000) only [List.getElem_toArray, List.getElem_cons_succ, List.getElem_cons_zero, Act.put, List.setIfInBounds_toArray, List.set_cons_zero, List.set_cons_succ]
  refine wpAnyH_take (i := 51) (v := ?_) rfl (by kernel_rfl) (by kernel_rfl) (by kernel_rfl) (fun _ _ _ h => h) (Or.inl ⟨by first | kernel_rfl | rfl, ?_⟩) (by assumption) ?_
  rotate_left
  · (intro wq hSw; (try dsimp only at hSw); (try simp (maxSteps := 2000000) only [List.getElem_toArray, List.getElem_cons_succ, List.getElem_cons_zero]); go_simp); try with_reducible rfl
  try simp (maxSteps := 2000000) only [List.getElem_toArray, List.getElem_cons_succ, List.getElem_cons_zero, Act.put, List.setIfInBounds_toArray, List.set_cons_zero, List.set_cons_succ]
  refine wpAnyH_take (i := 52) (v := ?_) rfl (by kernel_rfl) (by kernel_rfl) (by kernel_rfl) (fun _ _ _ h => h) (Or.inl ⟨by first | kernel_rfl | rfl, ?_⟩) (by assumption) ?_
  rotate_left
  · (intro wq hSw; (try dsimp only at hSw); (try simp (maxSteps := 2000000) only [List.getElem_toArray, List.getElem_cons_succ, List.getElem_cons_zero]); go_simp); try with_reducible rfl
  try simp (maxSteps := 2000000) only [List.getElem_toArray, List.getElem_cons_succ, List.getElem_cons_zero, Act.put, List.setIfInBounds_toArray, List.set_cons_zero, List.set_cons_succ]
  refine wpAnyH_take (i := 54) (v := ?_) rfl (by kernel_rfl) (by kernel_rfl) (by kernel_rfl) (fun _ _ _ h => h) (Or.inl ⟨by first | kernel_rfl | rfl, ?_⟩) (by assumption) ?_
  rotate_left
  · (intro wq hSw; (try dsimp only at hSw); (try simp (maxSteps := 2000000) only [List.getElem_toArray, List.getElem_cons_succ, List.getElem_cons_zero]); go_simp); try with_reducible rfl
  try simp (maxSteps := 2000000) only [List.getElem_toArray, List.getElem_cons_succ, List.getElem_cons_zero, Act.put, List.setIfInBounds_toArray, List.set_cons_zero, List.set_cons_succ]
  refine wpAnyH_take (i := 55) (v := ?_) rfl (by kernel_rfl) (by kernel_rfl) (by kernel_rfl) (fun _ _ _ h => h) (Or.inl ⟨by first | kernel_rfl | rfl, ?_⟩) (by assumption) ?_
  rotate_left
  · (intro wq hSw; (try dsimp only at hSw); (try simp (maxSteps := 2000000) only [List.getElem_toArray, List.getElem_cons_succ, List.getElem_cons_zero]); go_simp); try with_reducible rfl
  try simp (maxSteps := 2000000) only [List.getElem_toArray, List.getElem_cons_succ, List.getElem_cons_zero, Act.put, List.setIfInBounds_toArray, List.set_cons_zero, List.set_cons_succ]
  refine wpAnyH_take (i := 56) (v := ?_) rfl (by kernel_rfl) (by kernel_rfl) (by kernel_rfl) (fun _ _ _ h => h) (Or.inl ⟨by first | kernel_rfl | rfl, ?_⟩) (by assumption) ?_
  rotate_left
  · (intro wq hSw; (try dsimp only at hSw); (try simp (maxSteps := 2000000) only [List.getElem_toArray, List.getElem_cons_succ, List.getElem_cons_zero]); go_simp); try with_reducible rfl
  try simp (maxSteps := 2000000) only [List.getElem_toArray, List.getElem_cons_succ, List.getElem_cons_zero, Act.put, List.setIfInBounds_toArray, List.set_cons_zero, List.set_cons_succ]
  refine wpAnyH_take (i := 57) (v := ?_) rfl (by kernel_rfl) (by kernel_rfl) (by kernel_rfl) (fun _ _ _ h => h) (Or.inl ⟨by first | kernel_rfl | rfl, ?_⟩) (by assumption) ?_
  rotate_left
  · (intro wq hSw; (try dsimp only at hSw); (try simp (maxSteps := 2000000) only [List.getElem_toArray, List.getElem_cons_succ, List.getElem_cons_zero]); go_simp); try with_reducible rfl
  try simp (maxSteps := 2000000) only [List.getElem_toArray, List.getElem_cons_succ, List.getElem_cons_zero, Act.put, List.setIfInBounds_toArray, List.set_cons_zero, List.set_cons_succ]
  refine wpAnyH_take (i := 58) (v := ?_) rfl (by kernel_rfl) (by kernel_rfl) (by kernel_rfl) (fun _ _ _ h => h) (Or.inl ⟨by first | kernel_rfl | rfl, ?_⟩) (by assumption) ?_
  rotate_left
  · (intro wq hSw; (try dsimp only at hSw); (try simp (maxSteps := 2000000) only [List.getElem_toArray, List.getElem_cons_succ, List.getElem_cons_zero]); go_simp); try with_reducible rfl
  try simp (maxSteps := 2000000) only [List.getElem_toArray, List.getElem_cons_succ, List.getElem_cons_zero, Act.put, List.setIfInBounds_toArray, List.set_cons_zero, List.set_cons_succ]
  refine wpAnyH_take (i := 59) (v := ?_) rfl (by kernel_rfl) (by kernel_rfl) (by kernel_rfl) (fun _ _ _ h => h) (Or.inl ⟨by first | kernel_rfl | rfl, ?_⟩) (by assumption) ?_
  rotate_left
  · (intro wq hSw; (try dsimp only at hSw); (try simp (maxSteps := 2000000) only [List.getElem_toArray, List.getElem_cons_succ, List.getElem_cons_zero]); go_simp); try with_reducible rfl
  try simp (maxSteps := 2000000) only [List.getElem_toArray, List.getElem_cons_succ, List.getElem_cons_zero, Act.put, List.setIfInBounds_toArray, List.set_cons_zero, List.set_cons_succ]
  refine wpAnyH_take (i := 60) (v := ?_) rfl (by kernel_rfl) (by kernel_rfl) (by kernel_rfl) (fun _ _ _ h => h) (Or.inl ⟨by first | kernel_rfl | rfl, ?_⟩) (by assumption) ?_
  rotate_left
  · (intro wq hSw; (try dsimp only at hSw); (try simp (maxSteps := 2000000) only [List.getElem_toArray, List.getElem_cons_succ, List.getElem_cons_zero]); go_simp); try with_reducible rfl
  try simp (maxSteps := 2000000) only [List.getElem_toArray, List.getElem_cons_succ, List.getElem_cons_zero, Act.put, List.setIfInBounds_toArray, List.set_cons_zero, List.set_cons_succ]
  refine wpAnyH_take (i := 61) (v := ?_) rfl (by kernel_rfl) (by kernel_rfl) (by kernel_rfl) (fun _ _ _ h => h) (Or.inl ⟨by first | kernel_rfl | rfl, ?_⟩) (by assumption) ?_
  rotate_left
  · (intro wq hSw; (try dsimp only at hSw); (try simp (maxSteps := 2000000) only [List.getElem_toArray, List.getElem_cons_succ, List.getElem_cons_zero]); go_simp); try with_reducible rfl
  try simp (maxSteps := 2000000) only [List.getElem_toArray, List.getElem_cons_succ, List.getElem_cons_zero, Act.put, List.setIfInBounds_toArray, List.set_cons_zero, List.set_cons_succ]
  refine wpAnyH_ready (rs := [53]) (by kernel_rfl) (by simp) ?_
  refine AllReadyH.cons rfl (fun K hK => ?_) AllReadyH.nil
  try simp (maxSteps := 2000000) only [List.getElem_toArray, List.getElem_cons_succ, List.getElem_cons_zero]
  go_simp
  refine (arotten_all (Lib.hid (HA3.out.below T45.out)) k HSA.out z).mono ?_
  rintro e w53 ⟨rfl, t53⟩
  have T53 := Lib.hid (below_then t53 T45.out)
  have hb2 := below_then t53 hb
  clear y hb t53
  have y := CC.out w53 T53.out
  have hb := hb2
  clear hb2
  try (go_wp2_with fail)
  refine hK.out _ _ (by first | exact y | exact ⟨y, hb⟩) (fun hHeld => ?_)
  clear hK K
  try simp (maxSteps := 2000000) only [List.getElem_toArray, List.getElem_cons_succ, List.getElem_cons_zero, Act.put, List.setIfInBounds_toArray, List.set_cons_zero, List.set_cons_succ]
  refine wpAnyH_ready (rs := [62]) (by kernel_rfl) (by simp) ?_
  refine AllReadyH.cons rfl (fun K hK => ?_) AllReadyH.nil
  try simp (maxSteps := 2000000) only [List.getElem_toArray, List.getElem_cons_succ, List.getElem_cons_zero]
  go_simp
  refine (rrotten_any (Lib.hid (HDR.out.below T53.out)) z (by have := hgd.few; omega)).mono ?_
  rintro e w62 ⟨rfl, t62⟩
  have T62 := Lib.hid (below_then t62 T53.out)
  rw [HRO.out]
  have hb2 := below_then t62 hb
  clear y hb t62
  have y := CC.out w62 T62.out
  have hb := hb2
  clear hb2
  try (go_wp2_with fail)
  refine hK.out _ _ (by first | exact y | exact ⟨y, hb⟩) (fun hHeld => ?_)
  clear hK K
  try simp (maxSteps := 2000000) only [List.getElem_toArray, List.getElem_cons_succ, List.getElem_cons_zero, Act.put, List.setIfInBounds_toArray, List.set_cons_zero, List.set_cons_succ]
  refine wpAnyH_take2 (i := 63) (v := ?_) (some 128) rfl (by kernel_rfl) (by kernel_rfl) (by kernel_rfl) (by kernel_rfl) (fun _ _ _ h => h) (Or.inl ⟨by first | kernel_rfl | rfl, ?_⟩) (by assumption) ?_
  rotate_left
  · (intro wq hSw; (try dsimp only at hSw); (try simp (maxSteps := 2000000) only [List.getElem_toArray, List.getElem_cons_succ, List.getElem_cons_zero]); go_simp); try with_reducible rfl
  try simp (maxSteps := 2000000) only [List.getElem_toArray, List.getElem_cons_succ, List.getElem_cons_zero, Act.put, List.setIfInBounds_toArray, List.set_cons_zero, List.set_cons_succ]
  refine wpAnyH_take2 (i := 64) (v := ?_) (some 129) rfl (by kernel_rfl) (by kernel_rfl) (by kernel_rfl) (by kernel_rfl) (fun _ _ _ h => h) (Or.inl ⟨by first | kernel_rfl | rfl, ?_⟩) (by assumption) ?_
  rotate_left
  · (intro wq hSw; (try dsimp only at hSw); (try simp (maxSteps := 2000000) only [List.getElem_toArray, List.getElem_cons_succ, List.getElem_cons_zero]); go_simp); try with_reducible rfl
  try simp (maxSteps := 2000000) only [List.getElem_toArray, List.getElem_cons_succ, List.getElem_cons_zero, Act.put, List.setIfInBounds_toArray, List.set_cons_zero, List.set_cons_succ]
  refine wpAnyH_take2 (i := 65) (v := ?_) (some 8) rfl (by kernel_rfl) (by kernel_rfl) (by kernel_rfl) (by kernel_rfl) (fun _ _ _ h => h) (Or.inl ⟨by first | kernel_rfl | rfl, ?_⟩) (by assumption) ?_
  rotate_left
  · (intro wq hSw; (try dsimp only at hSw); (try simp (maxSteps := 2000000) only [List.getElem_toArray, List.getElem_cons_succ, List.getElem_cons_zero]); go_simp); try with_reducible rfl
  try simp (maxSteps := 2000000) only [List.getElem_toArray, List.getElem_cons_succ, List.getElem_cons_zero, Act.put, List.setIfInBounds_toArray, List.set_cons_zero, List.set_cons_succ]
  refine wpAnyH_done (by kernel_rfl) ?_ _
  go_wp2_with fail
  go_ret
  exact ⟨by first | rfl | kernel_rfl, T3.out.trans (T62.out.mono T3.out.size)⟩
end Go.Proofs.Ytolmpopjonkfgaa

set_option linter.unusedSimpArgs false
set_option linter.unusedVariables false
namespace Go.Proofs.Ytolmpopjonkfgaa
open Go.RowKit Go.Cib
attribute [local go_sem] cell_set Later.cell Later.frozen Grw.cell Grw.frozen

set_option maxRecDepth 100000 in
set_option maxHeartbeats 8000000 in
theorem alike10_out {w0 : World} {U V : Nat → Prop} {w : World} {a x n s t : Nat} {sa : List DSt} {ra : List RSt} (h : Hid (Twin w0 U V w a x n s t sa ra)) (hn : 0 < n) (d : Int) (hd : ¬ (0 ≤ d ∧ d < n)) (z : Int) :
    Calls Try.prog 49 #[.pointer (some ⟨a, 0, none⟩), .pointer (some ⟨x, 0, none⟩), .int .i64 d, .int .i64 z] w fun e w' => e = .returned (.bool true) ∧ Below w.heap.size w w' := by
  obtain ⟨va, Fa, pa, hBa⟩ := h.out.da
  obtain ⟨vr, Fr, pr, hBr⟩ := h.out.dr
  have hla : sa.length = n := h.out.inv.la
  have hlr : ra.length = n := h.out.inv.lr
  have HA := Lib.hid hBa
  have HR := Lib.hid hBr
  have hna : 0 < sa.length := by omega
  have hda : ¬ (0 ≤ d ∧ d < sa.length) := by rw [hla]; exact hd
  have hdr : ¬ (0 ≤ d ∧ d < ra.length) := by rw [hlr]; exact hd
  have HDA := Lib.hid hda
  have hrd := aread_out HA hna d hda z
  have hhasE := has_out hdr
  have HDR := Lib.hid hdr
  have HHE := Lib.hid hhasE
  clear hBa hBr hda hdr hd hhasE h hla hlr
  go_enter Try.func49, Try.ntmps49
  go_wp2_with fail
  refine hrd.mono ?_
  rintro e w1 ⟨rfl, t1⟩
  have HA1 := Lib.hid (HA.out.below t1)
  have HR1 := Lib.hid (HR.out.below t1)
  have T1 := Lib.hid t1
  have hrr := raread_out HR1 d HDR.out z
  clear hrd t1 HA HR
  go_wp2_with fail
  refine hrr.mono ?_
  rintro e w2 ⟨rfl, t2⟩
  have cv := conv_nil w2
  have HA2 := Lib.hid (HA1.out.below t2)
  have HR2 := Lib.hid (HR1.out.below t2)
  have T2 := Lib.hid (below_then t2 T1.out)
  clear hrr t2 HA1 HR1
  go_wp2_with fail
  have hhas := rahas_any HR2 d
  rw [HHE.out] at hhas
  clear cv
  refine hhas.mono ?_
  rintro e w3 ⟨rfl, t3⟩
  have HA3 := Lib.hid (HA2.out.below t3)
  have T3 := Lib.hid (below_then t3 T2.out)
  have h1 := adead_out HA3 hna d HDA.out
  clear hhas t3 HA2 HR2
  go_wp2_with fail
  refine h1.mono ?_
  rintro e w4 ⟨rfl, t4⟩
  have HA4 := Lib.hid (HA3.out.below t4)
  have T4 := Lib.hid (below_then t4 T3.out)
  have h1 := awaits_out HA4 hna d HDA.out
  clear t4 HA3
  go_wp2_with fail
  refine h1.mono ?_
  rintro e w5 ⟨rfl, t5⟩
  have HA5 := Lib.hid (HA4.out.below t5)
  have T5 := Lib.hid (below_then t5 T4.out)
  have h1 := astored_out HA5 hna d HDA.out z
  clear t5 HA4
  go_wp2_with fail
  refine h1.mono ?_
  rintro e w6 ⟨rfl, t6⟩
  have HA6 := Lib.hid (HA5.out.below t6)
  have T6 := Lib.hid (below_then t6 T5.out)
  have h1 := arotten_out HA6 hna d HDA.out z
  clear t6 HA5
  go_wp2_with fail
  refine h1.mono ?_
  rintro e w7 ⟨rfl, t7⟩
  have T7 := Lib.hid (below_then t7 T6.out)
  clear t7 HA6 h1
  go_wp2_with fail
  go_ret
  exact ⟨rfl, T7.out⟩
theorem alike10_any {w0 : World} {U V : Nat → Prop} {w : World} {a x n s t : Nat} {sa : List DSt} {ra : List RSt} (h : Hid (Twin w0 U V w a x n s t sa ra)) (hn : 0 < n) (ht : t < 1000) (d z : Int) :
    Calls Try.prog 49 #[.pointer (some ⟨a, 0, none⟩), .pointer (some ⟨x, 0, none⟩), .int .i64 d, .int .i64 z] w fun e w' => e = .returned (.bool true) ∧ Below w.heap.size w w' := by
  by_cases hd : 0 ≤ d ∧ d < n
  · obtain ⟨k, rfl⟩ : ∃ k : Nat, d = k := ⟨d.toNat, by omega⟩
    exact alike10_in h ht k (by omega) z
  · exact alike10_out h hn d hd z
end Go.Proofs.Ytolmpopjonkfgaa

set_option linter.unusedSimpArgs false
set_option linter.unusedVariables false
namespace Go.Proofs.Ytolmpopjonkfgaa
open Go.RowKit Go.Cib
attribute [local go_sem] cell_set Later.cell Later.frozen Grw.cell Grw.frozen

set_option maxRecDepth 100000 in
set_option maxHeartbeats 4000000 in
theorem plays_big (n s : Int) (A : Option Addr) (m cc : Nat) (w : World) {acts : List ActA} (R : Hid (RdL ActAR 7 (fun _ => True) w A m acts)) (h : (12 < n ∧ n ≤ 255) ∨ (20 < s ∧ s ≤ 600)) :
    Calls Try.prog 9 #[.int .i64 n, .int .i64 s, .slice A m cc] w fun e w' => e = .returned (.bool true) ∧ Below w.heap.size w w' := by
  go_enter Try.func9, Try.ntmps9
  go_wp2_with fail
  refine (fewA_any R).mono ?_
  rintro e w1 ⟨⟨r0, rfl, hm0⟩, s1⟩
  have S1 := Lib.hid s1
  have hst := stands_any w1
  clear s1 hm0
  cases r0 with
  | false =>
    clear h
    go_wp2_with fail
    refine hst.mono ?_
    rintro e w' ⟨rfl, hb⟩
    go_wp2_with fail
    go_ret
    exact ⟨rfl, S1.out.trans (hb.mono S1.out.size)⟩
  | true =>
    by_cases hn : 12 < n ∧ n ≤ 255
    · have d0 : decide (12 < n) = true := decide_eq_true hn.1
      have d1 : decide (n ≤ 255) = true := decide_eq_true hn.2
      clear h hn
      go_wp2_with fail
      refine hst.mono ?_
      rintro e w' ⟨rfl, hb⟩
      go_wp2_with fail
      go_ret
      exact ⟨rfl, S1.out.trans (hb.mono S1.out.size)⟩
    · have hs : 20 < s ∧ s ≤ 600 := h.resolve_left hn
      have d2 : decide (20 < s) = true := decide_eq_true hs.1
      have d3 : decide (s ≤ 600) = true := decide_eq_true hs.2
      by_cases h1 : 12 < n
      · have d0 : decide (12 < n) = true := decide_eq_true h1
        have d1 : decide (n ≤ 255) = false := decide_eq_false (fun e => hn ⟨h1, e⟩)
        clear h hn hs
        go_wp2_with fail
        refine hst.mono ?_
        rintro e w' ⟨rfl, hb⟩
        go_wp2_with fail
        go_ret
        exact ⟨rfl, S1.out.trans (hb.mono S1.out.size)⟩
      · have d0 : decide (12 < n) = false := decide_eq_false h1
        clear h hn hs
        go_wp2_with fail
        refine hst.mono ?_
        rintro e w' ⟨rfl, hb⟩
        go_wp2_with fail
        go_ret
        exact ⟨rfl, S1.out.trans (hb.mono S1.out.size)⟩

set_option maxRecDepth 100000 in
set_option maxHeartbeats 4000000 in
theorem plays_none (n s : Int) (A : Option Addr) (m cc : Nat) (w : World) {acts : List ActA} (R : Hid (RdL ActAR 7 (fun _ => True) w A m acts)) (h : ¬ ((12 < n ∧ n ≤ 255) ∨ (20 < s ∧ s ≤ 600))) (h2 : ¬ (1 ≤ n ∧ n ≤ 255 ∧ 1 ≤ s ∧ s ≤ 600)) :
    Calls Try.prog 9 #[.int .i64 n, .int .i64 s, .slice A m cc] w fun e w' => e = .returned (.bool true) ∧ Below w.heap.size w w' := by
  go_enter Try.func9, Try.ntmps9
  go_wp2_with fail
  refine (fewA_any R).mono ?_
  rintro e w1 ⟨⟨r0, rfl, hm0⟩, s1⟩
  have S1 := Lib.hid s1
  have hst := stands_any w1
  have hnew := anew_nil n s h2 w1
  have hrnew := ranew_none n s h2
  clear s1 hm0 h2
  cases r0 with
  | false =>
    clear h hnew hrnew
    go_wp2_with fail
    refine hst.mono ?_
    rintro e w' ⟨rfl, hb⟩
    go_wp2_with fail
    go_ret
    exact ⟨rfl, S1.out.trans (hb.mono S1.out.size)⟩
  | true =>
    clear hst
    by_cases h1 : 12 < n
    · have d0 : decide (12 < n) = true := decide_eq_true h1
      have d1 : decide (n ≤ 255) = false := decide_eq_false (fun e => h (.inl ⟨h1, e⟩))
      by_cases h3 : 20 < s
      · have d2 : decide (20 < s) = true := decide_eq_true h3
        have d3 : decide (s ≤ 600) = false := decide_eq_false (fun e => h (.inr ⟨h3, e⟩))
        clear h h1 h3
        go_wp2_with fail
        refine hnew.mono ?_
        rintro e w2 ⟨rfl, t2⟩
        have T2 := Lib.hid t2
        have hr := hrnew w2
        clear t2
        go_wp2_with fail
        refine hr.mono ?_
        rintro e w3 ⟨rfl, t3⟩
        have T3 := Lib.hid (below_then t3 T2.out)
        clear t3 hr
        go_wp2_with fail
        refine (stands_any w3).mono ?_
        rintro e w4 ⟨rfl, t4⟩
        have T4 := Lib.hid (below_then t4 T3.out)
        clear t4
        go_wp2_with fail
        go_ret
        exact ⟨rfl, S1.out.trans (T4.out.mono S1.out.size)⟩
      · have d2 : decide (20 < s) = false := decide_eq_false h3
        clear h h1 h3
        go_wp2_with fail
        refine hnew.mono ?_
        rintro e w2 ⟨rfl, t2⟩
        have T2 := Lib.hid t2
        have hr := hrnew w2
        clear t2
        go_wp2_with fail
        refine hr.mono ?_
        rintro e w3 ⟨rfl, t3⟩
        have T3 := Lib.hid (below_then t3 T2.out)
        clear t3 hr
        go_wp2_with fail
        refine (stands_any w3).mono ?_
        rintro e w4 ⟨rfl, t4⟩
        have T4 := Lib.hid (below_then t4 T3.out)
        clear t4
        go_wp2_with fail
        go_ret
        exact ⟨rfl, S1.out.trans (T4.out.mono S1.out.size)⟩
    · have d0 : decide (12 < n) = false := decide_eq_false h1
      by_cases h3 : 20 < s
      · have d2 : decide (20 < s) = true := decide_eq_true h3
        have d3 : decide (s ≤ 600) = false := decide_eq_false (fun e => h (.inr ⟨h3, e⟩))
        clear h h1 h3
        go_wp2_with fail
        refine hnew.mono ?_
        rintro e w2 ⟨rfl, t2⟩
        have T2 := Lib.hid t2
        have hr := hrnew w2
        clear t2
        go_wp2_with fail
        refine hr.mono ?_
        rintro e w3 ⟨rfl, t3⟩
        have T3 := Lib.hid (below_then t3 T2.out)
        clear t3 hr
        go_wp2_with fail
        refine (stands_any w3).mono ?_
        rintro e w4 ⟨rfl, t4⟩
        have T4 := Lib.hid (below_then t4 T3.out)
        clear t4
        go_wp2_with fail
        go_ret
        exact ⟨rfl, S1.out.trans (T4.out.mono S1.out.size)⟩
      · have d2 : decide (20 < s) = false := decide_eq_false h3
        clear h h1 h3
        go_wp2_with fail
        refine hnew.mono ?_
        rintro e w2 ⟨rfl, t2⟩
        have T2 := Lib.hid t2
        have hr := hrnew w2
        clear t2
        go_wp2_with fail
        refine hr.mono ?_
        rintro e w3 ⟨rfl, t3⟩
        have T3 := Lib.hid (below_then t3 T2.out)
        clear t3 hr
        go_wp2_with fail
        refine (stands_any w3).mono ?_
        rintro e w4 ⟨rfl, t4⟩
        have T4 := Lib.hid (below_then t4 T3.out)
        clear t4
        go_wp2_with fail
        go_ret
        exact ⟨rfl, S1.out.trans (T4.out.mono S1.out.size)⟩
end Go.Proofs.Ytolmpopjonkfgaa
