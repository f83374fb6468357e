/-
  The document's drive: Write refused; Flush.
-/
import Derived.Test.YtnceaimhhfjmdaaRefD2
set_option linter.unusedSimpArgs false
set_option linter.unusedVariables false
namespace Go.Proofs.Ytnceaimhhfjmdaa
open Go.RowKit Go.Cib
attribute [local go_sem] cell_set Later.cell Later.frozen Grw.cell Grw.frozen

section
variable {P : Program} {ops : Array Oper} {rest : List Oper} {o : Oper} {a : Act} {Q : Exit → Act → World → Prop} {w : World}
/-- append(s, x...), both slices of the call's own, side by side. -/
theorem wpList_appO {X : Type} {R : (Nat → Prop) → World → List Value → X → Prop} (hR : Stable R) (hone : ∀ S w cs x, R S w cs x → ∀ u ∈ cs, u.oneCell' = true) {T E : TypeId} {z : Value} {size bytes : Nat} (st : SlTy P T E z size bytes) {s x : Operand}
    (hgd : o.guard = none) (ho : o.op = .call { callee := .builtin .append, args := #[s, x], argTypes := #[T, T] })
    {base base2 n m : Nat} {S : Nat → Prop} {v v2 : Value} {xs ys : List X} (hs : a.eval s = v) (hown : OwnL R E size base S w v n xs) (hx : a.eval x = v2) (hown2 : OwnL R E size base2 S w v2 m ys)
    (hy : ∀ cs y, R (Go.Cib.Rest S v2) w cs y → R (Go.Cib.Rest S v) w cs y) (hlen : n + m ≤ maxLen) (hbytes : (n + m) * bytes ≤ 140737488355328) (hbase : base ≤ w.heap.size)
    (h : ∀ v' w', OwnL R E size base S w' v' (n + m) (xs ++ ys) → w.grownBy w' v.ownBlock → (v'.ownBlock = v.ownBlock ∨ v'.ownBlock = some w.heap.size) → wpList P ops Q rest (a.put o.dst v') w') :
    wpList P ops Q (o :: rest) a w := by
  obtain ⟨i, hi, hz, hsz, hby⟩ := info_parts st.info
  obtain ⟨css, k1, k2, k3, k4, k5⟩ := hown
  obtain ⟨css2, j1, j2, j3, j4, j5⟩ := hown2
  have hn0 : 0 < size := st.pos
  have hfin : ∀ v' w', w'.ownsRow base E size v' (n + m) (css.flatten ++ css2.flatten) → w.grownBy w' v.ownBlock → (v'.ownBlock = v.ownBlock ∨ v'.ownBlock = some w.heap.size) → OwnL R E size base S w' v' (n + m) (xs ++ ys) := fun v' w' hown' hg hat => by
    have hst : ∀ (b : Nat), Go.Cib.Rest S v b → b < w.heap.size → Go.Cib.Rest S v' b ∧ w'.heap[b]? = w.heap[b]? := fun b hS hlt => by
      refine ⟨⟨hS.1, ?_⟩, hg.block b hlt hS.2⟩
      rcases hat with e | e
      · rw [e]; exact hS.2
      · rw [e]; intro h; injection h with h; omega
    refine ⟨css ++ css2, by simpa using hown', by simp [k2, j2], by simp [k3, j3], ?_, ?_⟩
    · intro c' hc'
      rcases List.mem_append.1 hc' with hc' | hc'
      · exact k4 _ hc'
      · exact j4 _ hc'
    · intro i c' y' hc' hy'
      by_cases hin : i < n
      · rw [List.getElem?_append_left (by omega)] at hc' hy'
        exact hR _ _ _ _ _ _ (k5 i c' y' hc' hy') hst
      · rw [List.getElem?_append_right (by omega)] at hc' hy'
        rw [k3] at hc'; rw [k2] at hy'
        exact hR _ _ _ _ _ _ (hy _ _ (j5 _ c' y' hc' hy')) hst
  have hone2 : ∀ u ∈ css2.flatten, u.oneCell' = true := by
    intro u hu
    obtain ⟨cs, hcs, huc⟩ := List.mem_flatten.1 hu
    obtain ⟨i, hi', rfl⟩ := List.mem_iff_getElem.1 hcs
    exact hone _ _ _ _ (j5 i _ (ys[i]'(by omega)) (List.getElem?_eq_getElem hi') (List.getElem?_eq_getElem (by omega))) u huc
  rcases Nat.eq_zero_or_pos m with hm | hm
  · subst hm
    have hc2 : css2 = [] := List.length_eq_zero_iff.1 j3
    subst hc2
    have hv2 : ∃ A c, v2 = .slice A 0 c := by
      rcases j1.2 with ⟨rfl, _⟩ | ⟨g, cap, cur, rfl, _⟩
      · exact ⟨_, _, rfl⟩
      · exact ⟨_, _, rfl⟩
    obtain ⟨A, c, rfl⟩ := hv2
    refine wpList_plain hgd fun K hK => ?_
    have hrun : (Builtin.append_ #[T, T] o.type #[v, .slice A 0 c]).run P w = .ok v w := by
      rcases k1.2 with ⟨rfl, rfl⟩ | ⟨g, cap, cur, rfl, _, _, hnc, _⟩
      · cases A <;> simp [Builtin.append_, run_underlying st.und, sizeOf, typeInfo, hi, Builtin.lenOf, Builtin.firstCells, loadCells, loadCellsFrom]
      · cases A <;> simp [Builtin.append_, run_underlying st.und, sizeOf, typeInfo, hi, Builtin.lenOf, Builtin.firstCells, hnc, storeCells, loadCells, loadCellsFrom]
    unfold Oper.wp execOp
    simp only [ho, resolve, invoke, builtin, Sem.run_bind, Sem.run_pure, Result.andThen_ok, List.map_toArray, List.map_cons, List.map_nil, hs, hx, hrun]
    exact hK _ _ (h v w (hfin v w (by simpa using k1) (World.grownBy.refl w _) (.inl rfl)) (World.grownBy.refl w _) (.inl rfl))
  · obtain ⟨g, cap, rfl, _, _⟩ := j1.form hm
    refine wpList_append_own_at w hgd s x T ho base E i z size bytes st.und hi hz hsz hby st.zsz hn0 v n css.flatten hs k1 ⟨g, 0, none⟩ m cap css2.flatten hx j1.1 (fun j u hj => j1.cells rfl j u hj) hone2 hlen hbytes hbase ?_
    intro v' w' hown' hg _ hat
    exact h v' w' (hfin v' w' hown' hg hat) hg hat
end

set_option maxRecDepth 100000 in
theorem rwrite_bad {G : Nat → Prop} {w : World} {x n : Nat} {rs : RSt} (h : Hid (RefAt G w x n rs)) (z : Int) (A : Option Addr) (m c : Nat) (hz : ¬ (rs.gone = false ∧ (0 ≤ z ∧ z < n) ∧ m = 64)) :
    Calls Try.prog 59 #[.pointer (some ⟨x, 0, none⟩), .int .i64 z, .slice A m c] w fun e w' => (∃ E, e = .returned (.int .i64 E)) ∧ Below w.heap.size w w' := by
  obtain ⟨Sb, vL, vW, hB, _⟩ := h.out
  obtain ⟨k0, k1, k2, k3⟩ := ref_cells hB
  clear hB
  cases hd : rs.gone with
  | true =>
    rw [hd] at k3
    go_enter Try.func59, Try.ntmps59
    go_wp2_with fail
    go_ret
    exact ⟨⟨_, rfl⟩, Below.refl _ _⟩
  | false =>
    rw [hd] at k3
    by_cases h0 : 0 ≤ z ∧ z < n
    · have e1 : decide (0 ≤ z ∧ z < (n : Int)) = true := by simpa using h0
      have hm : ¬ (m : Int) = 64 := fun e => hz ⟨hd, h0, by omega⟩
      have hm2 : ((m : Int) == 64) = false := by simpa using hm
      have hm3 : ((m : Int) != 64) = true := by simpa using hm
      clear hz
      go_enter Try.func59, Try.ntmps59
      go_wp2_with fail
      refine (rhas_any h z).mono ?_
      rintro e w1 ⟨rfl, h1⟩
      rw [e1]
      clear e1 h0
      go_wp2_with fail
      go_ret
      exact ⟨⟨_, rfl⟩, h1⟩
    · have e1 : decide (0 ≤ z ∧ z < (n : Int)) = false := by simpa using h0
      clear hz
      go_enter Try.func59, Try.ntmps59
      go_wp2_with fail
      refine (rhas_any h z).mono ?_
      rintro e w1 ⟨rfl, h1⟩
      rw [e1]
      clear e1 h0
      go_wp2_with fail
      go_ret
      exact ⟨⟨_, rfl⟩, h1⟩

set_option maxRecDepth 100000 in
theorem rflush_gone {G : Nat → Prop} {w : World} {x n : Nat} {rs : RSt} (h : Hid (RefAt G w x n rs)) (hd : rs.gone = true) :
    Calls Try.prog 60 #[.pointer (some ⟨x, 0, none⟩)] w fun e w' => e = .returned (.int .i64 90) ∧ Below w.heap.size w w' := by
  obtain ⟨Sb, vL, vW, hB, _⟩ := h.out
  obtain ⟨k0, k1, k2, k3⟩ := ref_cells hB
  rw [hd] at k3
  clear hB
  go_enter Try.func60, Try.ntmps60
  go_wp2_with fail
  go_ret
  exact ⟨rfl, Below.refl _ _⟩

theorem ownL_form {X : Type} {R : (Nat → Prop) → World → List Value → X → Prop} {E : TypeId} {s base : Nat} {S : Nat → Prop} {w : World} {v : Value} {n : Nat} {xs : List X} (h : OwnL R E s base S w v n xs) : ∃ A c, v = .slice A n c := by
  obtain ⟨A, c, e, _⟩ := h.form
  exact ⟨A, c, e⟩
/-- L was lengthened, Wait let go. -/
theorem rL_post {G Sb : Nat → Prop} {w w1 u : World} {x n : Nat} {vL vW vN : Value} {rs : RSt} {ys : List Ev} (hB : RefB Sb w1 x n vL vW rs) (g1 : G x) (g2 : ∀ b, Sb b → G b) (g3 : ∀ k, vL.ownBlock = some k → G k) (g4 : ∀ k, vW.ownBlock = some k → G k) (lt : ∀ k, G k → k < w1.heap.size)
    (h1 : Below w.heap.size w w1) (hu : w1.grownBy u vL.ownBlock)
    (own : OwnL EvR 112 4 0 Sb u vN (rs.L ++ ys).length (rs.L ++ ys)) (hat : vN.ownBlock = vL.ownBlock ∨ vN.ownBlock = some w1.heap.size) :
    RUpd G w ((u.setCell ⟨x, 1, none⟩ vN).setCell ⟨x, 2, none⟩ (.slice none 0 0)) x n { rs with L := rs.L ++ ys, wait := [] } := by
  have hk : ∀ k, k < w1.heap.size → some k ≠ vL.ownBlock → u.heap[k]? = w1.heap[k]? := fun k hk hn => hu.block k hk hn
  have hset : ∀ k, k ≠ x → ((u.setCell ⟨x, 1, none⟩ vN).setCell ⟨x, 2, none⟩ (.slice none 0 0)).heap[k]? = u.heap[k]? := fun k hk => (Below.heap_setCell _ _ _ _ hk).trans (Below.heap_setCell _ _ _ _ hk)
  have hx : x < w1.heap.size := lt x g1
  have hus := hu.size
  have hN : ∀ k, vN.ownBlock = some k → (vL.ownBlock = some k) ∨ k = w1.heap.size := fun k hk => by
    rcases hat with h | h
    · exact .inl (h ▸ hk)
    · rw [h] at hk; injection hk with hk; exact .inr hk.symm
  have hNx : vN.ownBlock ≠ some x := fun e => by
    rcases hN x e with h | h
    · exact hB.lx h
    · omega
  refine ⟨fun b => G b ∨ (w1.heap.size ≤ b ∧ b < u.heap.size), ⟨Sb, vN, .slice none 0 0, ⟨?_, ?_, OwnL.nil_, ?_, hNx, by simp [Value.ownBlock], ?_⟩, .inl g1, fun b hb => .inl (g2 b hb), ?_, by simp [Value.ownBlock], ?_⟩, ?_, ?_⟩
  · exact ((hB.box.keep (hk x hx (fun e => hB.lx e.symm))).set 1 vN).set 2 _
  · exact ownL_blocks EvR.stable own (fun k hk2 => hset k (fun e => hNx (e ▸ hk2))) (fun b hs2 => hset b (hB.sx b hs2).1)
  · intro b h
    refine ⟨(hB.sx b h).1, fun e => ?_, by simp [Value.ownBlock]⟩
    have := lt b (g2 b h)
    rcases hN b e.symm with h2 | h2
    · exact (hB.sx b h).2.1 h2.symm
    · omega
  · cases hv : vN.ownBlock with
    | none => exact .inl rfl
    | some k => exact .inr (by simp [Value.ownBlock])
  · intro k hk2
    rcases hN k hk2 with h2 | h2
    · exact .inl (g3 k h2)
    · have := (own.lt k hk2).2
      exact .inr ⟨by omega, this⟩
  · rintro k (h | h)
    · have := lt k h; simp; omega
    · simpa using h.2
  · rintro k (h | h) hlk
    · exact h
    · have := h1.size; omega
  · refine (Keep.of_below (F := G) h1).trans (G := G) ?_ (fun k h _ => h)
    exact ⟨hu.os, hu.tape, hu.output, by simpa using hus, fun k hk2 hg => (hset k (fun e => hg (e ▸ g1))).trans (hk k hk2 (fun e => hg (g3 k e.symm)))⟩

set_option maxRecDepth 100000 in
set_option maxHeartbeats 8000000 in
theorem rflush_good {G : Nat → Prop} {w : World} {x n : Nat} {rs : RSt} (h : Hid (RefAt G w x n rs)) (hd : rs.gone = false) (hcl : rs.L.length + rs.wait.length < 1000000) :
    Calls Try.prog 60 #[.pointer (some ⟨x, 0, none⟩)] w fun e w' => e = .returned (.int .i64 0) ∧ RUpd G w w' x n { rs with L := rs.L ++ rs.wait, wait := [] } := by
  obtain ⟨Sb, vL, vW, hB, g1, g2, g3, g4, lt⟩ := h.out
  obtain ⟨AL, cL, rfl⟩ := ownL_form hB.oL
  obtain ⟨AW, cW, rfl⟩ := ownL_form hB.oW
  obtain ⟨k0, k1, k2, k3⟩ := ref_cells hB
  have z1 := hB.box.frozen 1
  have z2 := hB.box.frozen 2
  rw [hd] at k3
  have HB := Lib.hid hB
  have hxL : some x ≠ (Value.slice AL rs.L.length cL).ownBlock := fun e => hB.lx e.symm
  have ownL0 : OwnL EvR 112 4 0 Sb w.drew (.slice AL rs.L.length cL) rs.L.length rs.L := hB.oL.keep EvR.stable ((Below.refl _ _).drew)
  have ownW0 : OwnL EvR 112 4 0 Sb w.drew (.slice AW rs.wait.length cW) rs.wait.length rs.wait := hB.oW.keep EvR.stable ((Below.refl _ _).drew)
  have hyy : ∀ cs y, EvR (Go.Cib.Rest Sb (.slice AW rs.wait.length cW)) w.drew cs y → EvR (Go.Cib.Rest Sb (.slice AL rs.L.length cL)) w.drew cs y := fun cs y hy => EvR.stable _ _ _ _ _ _ hy fun b hb _ => ⟨⟨hb.1, (hB.sx b hb.1).2.1⟩, rfl⟩
  have KA : ∀ w', World.grownBy (World.drew w) w' (Value.slice AL rs.L.length cL).ownBlock → w'.cell? ⟨x, 2, none⟩ = some (.slice AW rs.wait.length cW) := fun w' hg => cell_far2 (w := World.drew w) k2 hg hxL
  have KS : ∀ (w' : World) (v : Value), w'.cell? ⟨x, 2, none⟩ = some (.slice AW rs.wait.length cW) → (w'.setCell ⟨x, 1, none⟩ v).cell? ⟨x, 2, none⟩ = some (.slice AW rs.wait.length cW) := fun w' v h => by
    rw [World.cell?_setCell_other _ _ _ _ (by simp)]; exact h
  have KQ := Lib.hid (fun w' (hg : World.grownBy (World.drew w) w' (Value.slice AL rs.L.length cL).ownBlock) => And.intro (cell_far2 (w := World.drew w) (a := ⟨x, 1, none⟩) k1 hg hxL) (frozen_far2 (w := World.drew w) (a := ⟨x, 1, none⟩) k1 z1 hg hxL))
  have KZ := Lib.hid (fun w' (hg : World.grownBy (World.drew w) w' (Value.slice AL rs.L.length cL).ownBlock) => frozen_far2 (w := World.drew w) (a := ⟨x, 2, none⟩) k2 z2 hg hxL)
  clear hB h
  go_enter Try.func60, Try.ntmps60
  go_wp2_with fail
  refine wp_region_held_drew (S := (fun w' => w'.cell? ⟨x, 2, none⟩ = some (.slice AW rs.wait.length cW))) (by kernel_rfl) (by first | exact k2 | exact (KA _ hg9) | exact (KS _ _ (KA _ hg9))) (fun hHeld => ?_)
  refine wpAnyH_take (i := 0) (v := ?_) rfl (by kernel_rfl) (by kernel_rfl) (by kernel_rfl) (fun _ _ _ h => h) (Or.inl ⟨by rfl, ?_⟩) (by assumption) ?_
  rotate_left
  · (intro wq hSw; (try dsimp only at hSw); (try simp only [List.getElem_toArray, List.getElem_cons_succ, List.getElem_cons_zero]); go_simp); try with_reducible rfl
  try simp only [List.getElem_toArray, List.getElem_cons_succ, List.getElem_cons_zero, Act.put, List.setIfInBounds_toArray, List.set_cons_zero, List.set_cons_succ]
  refine wpAnyH_take (i := 1) (v := ?_) rfl (by kernel_rfl) (by kernel_rfl) (by kernel_rfl) (fun _ _ _ h => h) (Or.inl ⟨by rfl, ?_⟩) (by assumption) ?_
  rotate_left
  · (intro wq hSw; (try dsimp only at hSw); (try simp only [List.getElem_toArray, List.getElem_cons_succ, List.getElem_cons_zero]); go_simp); try with_reducible rfl
  try simp only [List.getElem_toArray, List.getElem_cons_succ, List.getElem_cons_zero, Act.put, List.setIfInBounds_toArray, List.set_cons_zero, List.set_cons_succ]
  refine wpAnyH_take (i := 2) (v := ?_) rfl (by kernel_rfl) (by kernel_rfl) (by kernel_rfl) (fun _ _ _ h => h) (Or.inl ⟨by rfl, ?_⟩) (by assumption) ?_
  rotate_left
  · (intro wq hSw; (try dsimp only at hSw); (try simp only [List.getElem_toArray, List.getElem_cons_succ, List.getElem_cons_zero]); go_simp); try with_reducible rfl
  try simp only [List.getElem_toArray, List.getElem_cons_succ, List.getElem_cons_zero, Act.put, List.setIfInBounds_toArray, List.set_cons_zero, List.set_cons_succ]
  refine wpAnyH_take (i := 3) (v := ?_) rfl (by kernel_rfl) (by kernel_rfl) (by kernel_rfl) (fun _ _ _ h => h) (Or.inl ⟨by rfl, ?_⟩) (by assumption) ?_
  rotate_left
  · (intro wq hSw; (try dsimp only at hSw); (try simp only [List.getElem_toArray, List.getElem_cons_succ, List.getElem_cons_zero]); go_simp); try with_reducible rfl
  try simp only [List.getElem_toArray, List.getElem_cons_succ, List.getElem_cons_zero, Act.put, List.setIfInBounds_toArray, List.set_cons_zero, List.set_cons_succ]
  refine wpAnyH_take (i := 5) (v := ?_) rfl (by kernel_rfl) (by kernel_rfl) (by kernel_rfl) (fun _ _ _ h => h) (Or.inl ⟨by rfl, ?_⟩) (by assumption) ?_
  rotate_left
  · (intro wq hSw; (try dsimp only at hSw); (try simp only [List.getElem_toArray, List.getElem_cons_succ, List.getElem_cons_zero]); go_simp); try with_reducible rfl
  try simp only [List.getElem_toArray, List.getElem_cons_succ, List.getElem_cons_zero, Act.put, List.setIfInBounds_toArray, List.set_cons_zero, List.set_cons_succ]
  refine wpAnyH_take (i := 6) (v := ?_) rfl (by kernel_rfl) (by kernel_rfl) (by kernel_rfl) (fun _ _ _ h => h) (Or.inl ⟨by rfl, ?_⟩) (by assumption) ?_
  rotate_left
  · (intro wq hSw; (try dsimp only at hSw); (try simp only [List.getElem_toArray, List.getElem_cons_succ, List.getElem_cons_zero]); go_simp); try with_reducible rfl
  try simp only [List.getElem_toArray, List.getElem_cons_succ, List.getElem_cons_zero, Act.put, List.setIfInBounds_toArray, List.set_cons_zero, List.set_cons_succ]
  refine wpAnyH_take (i := 7) (v := ?_) rfl (by kernel_rfl) (by kernel_rfl) (by kernel_rfl) (fun _ _ _ h => h) (Or.inl ⟨by rfl, ?_⟩) (by assumption) ?_
  rotate_left
  · (intro wq hSw; (try dsimp only at hSw); (try simp only [List.getElem_toArray, List.getElem_cons_succ, List.getElem_cons_zero]); go_simp); try with_reducible rfl
  try simp only [List.getElem_toArray, List.getElem_cons_succ, List.getElem_cons_zero, Act.put, List.setIfInBounds_toArray, List.set_cons_zero, List.set_cons_succ]
  refine wpAnyH_take (i := 8) (v := ?_) rfl (by kernel_rfl) (by kernel_rfl) (by kernel_rfl) (fun _ _ _ h => h) (Or.inl ⟨by rfl, ?_⟩) (by assumption) ?_
  rotate_left
  · (intro wq hSw; (try dsimp only at hSw); (try simp only [List.getElem_toArray, List.getElem_cons_succ, List.getElem_cons_zero]); go_simp); try with_reducible rfl
  try simp only [List.getElem_toArray, List.getElem_cons_succ, List.getElem_cons_zero, Act.put, List.setIfInBounds_toArray, List.set_cons_zero, List.set_cons_succ]
  refine wpAnyH_ready (rs := [4]) (by kernel_rfl) (by simp) ?_
  refine AllReadyH.cons rfl (fun K hK => ?_) AllReadyH.nil
  try simp only [List.getElem_toArray, List.getElem_cons_succ, List.getElem_cons_zero]
  go_simp
  refine hK.out _ _ (by first | exact k2 | exact (KA _ hg9) | exact (KS _ _ (KA _ hg9))) (fun hHeld => ?_)
  clear hK K
  try simp only [List.getElem_toArray, List.getElem_cons_succ, List.getElem_cons_zero, Act.put, List.setIfInBounds_toArray, List.set_cons_zero, List.set_cons_succ]
  refine wpAnyH_ready (rs := [9]) (by kernel_rfl) (by simp) ?_
  refine AllReadyH.cons rfl (fun K hK => ?_) AllReadyH.nil
  refine step_of_list (by rfl) (wpList_appO EvR.stable EvR.one slEv (by rfl) (by rfl) (base := 0) (S := Sb) (by rfl) ownL0 (by rfl) ownW0 hyy (by unfold maxLen; omega) (by omega) (Nat.zero_le _) ?_)
  intro v9 w9 own9 hg9 hat9
  refine And.intro rfl ?_
  obtain ⟨A9, c9, rfl⟩ := ownL_form own9
  obtain ⟨kz, zz⟩ := KQ.out w9 hg9
  refine hK.out _ _ (by first | exact k2 | exact (KA _ hg9) | exact (KS _ _ (KA _ hg9))) (fun hHeld => ?_)
  clear hK K
  try simp only [List.getElem_toArray, List.getElem_cons_succ, List.getElem_cons_zero, Act.put, List.setIfInBounds_toArray, List.set_cons_zero, List.set_cons_succ]
  refine wpAnyH_take (i := 10) (v := ?_) rfl (by kernel_rfl) (by kernel_rfl) (by kernel_rfl) (fun _ _ _ h => h) (Or.inl ⟨by rfl, ?_⟩) (by assumption) ?_
  rotate_left
  · (intro wq hSw; (try dsimp only at hSw); (try simp only [List.getElem_toArray, List.getElem_cons_succ, List.getElem_cons_zero]); go_simp); try with_reducible rfl
  try simp only [List.getElem_toArray, List.getElem_cons_succ, List.getElem_cons_zero, Act.put, List.setIfInBounds_toArray, List.set_cons_zero, List.set_cons_succ]
  refine wpAnyH_take (i := 11) (v := ?_) rfl (by kernel_rfl) (by kernel_rfl) (by kernel_rfl) (fun _ _ _ h => h) (Or.inl ⟨by rfl, ?_⟩) (by assumption) ?_
  rotate_left
  · (intro wq hSw; (try dsimp only at hSw); (try simp only [List.getElem_toArray, List.getElem_cons_succ, List.getElem_cons_zero]); go_simp); try with_reducible rfl
  try simp only [List.getElem_toArray, List.getElem_cons_succ, List.getElem_cons_zero, Act.put, List.setIfInBounds_toArray, List.set_cons_zero, List.set_cons_succ]
  refine wpAnyH_ready (rs := [12]) (by kernel_rfl) (by simp) ?_
  refine AllReadyH.cons rfl (fun K hK => ?_) AllReadyH.nil
  try simp only [List.getElem_toArray, List.getElem_cons_succ, List.getElem_cons_zero]
  go_simp
  refine hK.out _ _ (by first | exact k2 | exact (KA _ hg9) | exact (KS _ _ (KA _ hg9))) (fun hHeld => ?_)
  clear hK K
  try simp only [List.getElem_toArray, List.getElem_cons_succ, List.getElem_cons_zero, Act.put, List.setIfInBounds_toArray, List.set_cons_zero, List.set_cons_succ]
  refine wpAnyH_done (by kernel_rfl) ?_ _
  have zf := KZ.out w9 hg9
  have kf := KA w9 hg9
  have hlen : (rs.L ++ rs.wait).length = rs.L.length + rs.wait.length := by simp
  have own9 : Hid (OwnL EvR 112 4 0 Sb w9 (.slice A9 (rs.L.length + rs.wait.length) c9) (rs.L ++ rs.wait).length (rs.L ++ rs.wait)) := Lib.hid (by rw [hlen]; exact own9)
  have hg := Lib.hid hg9
  have ht := Lib.hid hat9
  clear KA KS KQ KZ hlen
  go_wp2_with fail
  go_ret
  exact ⟨rfl, rL_post HB.out g1 g2 g3 g4 lt (Below.refl _ _) (undrew hg.out) own9.out ht.out⟩
end Go.Proofs.Ytnceaimhhfjmdaa
