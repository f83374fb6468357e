/-
  The document's drive: Write refused; Flush.
  The document's drive: Crash.
  The document's drive: Crash, walked.
  The document's drive: Rotten, Rot.
  The document's drive: Stored.
  The document's drive: Read.
  The document's drive, whatever is asked; a drive and the document's side by side.
  The document's drive and ours: the very codes.
  Drives side by side: what one is asked; how many aren't dead; all flushed.
  ArrayRows: two rows that are built, and what the drives are.
  ArrayRows, walked.
  Acts on arrays among the arguments: are there few? Rows of sectors.
  Rows of sectors, as they are built.
  The document's drives side by side: how they lie.
  An act, on both.
  The document's drives side by side: one drive.
-/
import Derived.Test.YtihnlhfngmbglaaGreatLt8
import Derived.Deep.RegionLaw
import Derived.Test.YtihnlhfngmbglaaGreatLt1
import Derived.Test.YtihnlhfngmbglaaGreatLt2
import Derived.Test.YtihnlhfngmbglaaGreatLt3
set_option linter.unusedSimpArgs false
set_option linter.unusedVariables false
namespace Go.Proofs.YtihnlhfngmbglaaGreat
open Go.RowKit Go.Cib
attribute [local go_sem] cell_set Later.cell Later.frozen Grw.cell Grw.frozen
section

section
variable {P : Program} {ops : Array Oper} {rest : List Oper} {o : Oper} {a : Act} {Q : Exit → Act → World → Prop} {w : World}
/-- append(s, x...), both slices of the call's own, side by side. -/
theorem wpList_appO {X : Type} {R : (Nat → Prop) → World → List Value → X → Prop} (hR : Stable R) (hone : ∀ S w cs x, R S w cs x → ∀ u ∈ cs, u.oneCell' = true) {T E : TypeId} {z : Value} {size bytes : Nat} (st : SlTy P T E z size bytes) {s x : Operand}
    (hgd : o.guard = none) (ho : o.op = .call { callee := .builtin .append, args := #[s, x], argTypes := #[T, T] })
    {base base2 n m : Nat} {S : Nat → Prop} {v v2 : Value} {xs ys : List X} (hs : a.eval s = v) (hown : OwnL R E size base S w v n xs) (hx : a.eval x = v2) (hown2 : OwnL R E size base2 S w v2 m ys)
    (hy : ∀ cs y, R (Go.Cib.Rest S v2) w cs y → R (Go.Cib.Rest S v) w cs y) (hlen : n + m ≤ maxLen) (hbytes : (n + m) * bytes ≤ 140737488355328) (hbase : base ≤ w.heap.size)
    (h : ∀ v' w', OwnL R E size base S w' v' (n + m) (xs ++ ys) → w.grownBy w' v.ownBlock → (v'.ownBlock = v.ownBlock ∨ v'.ownBlock = some w.heap.size) → wpList P ops Q rest (a.put o.dst v') w') :
    wpList P ops Q (o :: rest) a w := by
  obtain ⟨i, hi, hz, hsz, hby⟩ := info_parts st.info
  obtain ⟨css, k1, k2, k3, k4, k5⟩ := hown
  obtain ⟨css2, j1, j2, j3, j4, j5⟩ := hown2
  have hn0 : 0 < size := st.pos
  have hfin : ∀ v' w', w'.ownsRow base E size v' (n + m) (css.flatten ++ css2.flatten) → w.grownBy w' v.ownBlock → (v'.ownBlock = v.ownBlock ∨ v'.ownBlock = some w.heap.size) → OwnL R E size base S w' v' (n + m) (xs ++ ys) := fun v' w' hown' hg hat => by
    have hst : ∀ (b : Nat), Go.Cib.Rest S v b → b < w.heap.size → Go.Cib.Rest S v' b ∧ w'.heap[b]? = w.heap[b]? := fun b hS hlt => by
      refine ⟨⟨hS.1, ?_⟩, hg.block b hlt hS.2⟩
      rcases hat with e | e
      · rw [e]; exact hS.2
      · rw [e]; intro h; injection h with h; omega
    refine ⟨css ++ css2, by simpa using hown', by simp [k2, j2], by simp [k3, j3], ?_, ?_⟩
    · intro c' hc'
      rcases List.mem_append.1 hc' with hc' | hc'
      · exact k4 _ hc'
      · exact j4 _ hc'
    · intro i c' y' hc' hy'
      by_cases hin : i < n
      · rw [List.getElem?_append_left (by omega)] at hc' hy'
        exact hR _ _ _ _ _ _ (k5 i c' y' hc' hy') hst
      · rw [List.getElem?_append_right (by omega)] at hc' hy'
        rw [k3] at hc'; rw [k2] at hy'
        exact hR _ _ _ _ _ _ (hy _ _ (j5 _ c' y' hc' hy')) hst
  have hone2 : ∀ u ∈ css2.flatten, u.oneCell' = true := by
    intro u hu
    obtain ⟨cs, hcs, huc⟩ := List.mem_flatten.1 hu
    obtain ⟨i, hi', rfl⟩ := List.mem_iff_getElem.1 hcs
    exact hone _ _ _ _ (j5 i _ (ys[i]'(by omega)) (List.getElem?_eq_getElem hi') (List.getElem?_eq_getElem (by omega))) u huc
  rcases Nat.eq_zero_or_pos m with hm | hm
  · subst hm
    have hc2 : css2 = [] := List.length_eq_zero_iff.1 j3
    subst hc2
    have hv2 : ∃ A c, v2 = .slice A 0 c := by
      rcases j1.2 with ⟨rfl, _⟩ | ⟨g, cap, cur, rfl, _⟩
      · exact ⟨_, _, rfl⟩
      · exact ⟨_, _, rfl⟩
    obtain ⟨A, c, rfl⟩ := hv2
    refine wpList_plain hgd fun K hK => ?_
    have hrun : (Builtin.append_ #[T, T] o.type #[v, .slice A 0 c]).run P w = .ok v w := by
      rcases k1.2 with ⟨rfl, rfl⟩ | ⟨g, cap, cur, rfl, _, _, hnc, _⟩
      · cases A <;> simp [Builtin.append_, run_underlying st.und, sizeOf, typeInfo, hi, Builtin.lenOf, Builtin.firstCells, loadCells, loadCellsFrom]
      · cases A <;> simp [Builtin.append_, run_underlying st.und, sizeOf, typeInfo, hi, Builtin.lenOf, Builtin.firstCells, hnc, storeCells, loadCells, loadCellsFrom]
    unfold Oper.wp execOp
    simp only [ho, resolve, invoke, builtin, Sem.run_bind, Sem.run_pure, Result.andThen_ok, List.map_toArray, List.map_cons, List.map_nil, hs, hx, hrun]
    exact hK _ _ (h v w (hfin v w (by simpa using k1) (World.grownBy.refl w _) (.inl rfl)) (World.grownBy.refl w _) (.inl rfl))
  · obtain ⟨g, cap, rfl, _, _⟩ := j1.form hm
    refine wpList_append_own_at w hgd s x T ho base E i z size bytes st.und hi hz hsz hby st.zsz hn0 v n css.flatten hs k1 ⟨g, 0, none⟩ m cap css2.flatten hx j1.1 (fun j u hj => j1.cells rfl j u hj) hone2 hlen hbytes hbase ?_
    intro v' w' hown' hg _ hat
    exact h v' w' (hfin v' w' hown' hg hat) hg hat
end

set_option maxRecDepth 100000 in
theorem rflush_gone {G : Nat → Prop} {w : World} {x n : Nat} {rs : RSt} (h : Hid (RefAt G w x n rs)) (hd : rs.gone = true) :
    Calls Tryz.prog 104 #[.pointer (some ⟨x, 0, none⟩)] w fun e w' => e = .returned (.int .i64 90) ∧ Below w.heap.size w w' := by
  obtain ⟨Sb, vL, vW, hB, _⟩ := h.out
  obtain ⟨k0, k1, k2, k3⟩ := ref_cells hB
  rw [hd] at k3
  clear hB
  go_enter Tryz.func104, Tryz.ntmps104
  go_wp2_with fail
  go_ret
  exact ⟨rfl, Below.refl _ _⟩

theorem ownL_form {X : Type} {R : (Nat → Prop) → World → List Value → X → Prop} {E : TypeId} {s base : Nat} {S : Nat → Prop} {w : World} {v : Value} {n : Nat} {xs : List X} (h : OwnL R E s base S w v n xs) : ∃ A c, v = .slice A n c := by
  obtain ⟨A, c, e, _⟩ := h.form
  exact ⟨A, c, e⟩
/-- L was lengthened, Wait let go. -/
theorem rL_post {G Sb : Nat → Prop} {w w1 u : World} {x n : Nat} {vL vW vN : Value} {rs : RSt} {ys : List Ev} (hB : RefB Sb w1 x n vL vW rs) (g1 : G x) (g2 : ∀ b, Sb b → G b) (g3 : ∀ k, vL.ownBlock = some k → G k) (g4 : ∀ k, vW.ownBlock = some k → G k) (lt : ∀ k, G k → k < w1.heap.size)
    (h1 : Below w.heap.size w w1) (hu : w1.grownBy u vL.ownBlock)
    (own : OwnL EvR 232 4 0 Sb u vN (rs.L ++ ys).length (rs.L ++ ys)) (hat : vN.ownBlock = vL.ownBlock ∨ vN.ownBlock = some w1.heap.size) :
    RUpd G w ((u.setCell ⟨x, 1, none⟩ vN).setCell ⟨x, 2, none⟩ (.slice none 0 0)) x n { rs with L := rs.L ++ ys, wait := [] } := by
  have hk : ∀ k, k < w1.heap.size → some k ≠ vL.ownBlock → u.heap[k]? = w1.heap[k]? := fun k hk hn => hu.block k hk hn
  have hset : ∀ k, k ≠ x → ((u.setCell ⟨x, 1, none⟩ vN).setCell ⟨x, 2, none⟩ (.slice none 0 0)).heap[k]? = u.heap[k]? := fun k hk => (Below.heap_setCell _ _ _ _ hk).trans (Below.heap_setCell _ _ _ _ hk)
  have hx : x < w1.heap.size := lt x g1
  have hus := hu.size
  have hN : ∀ k, vN.ownBlock = some k → (vL.ownBlock = some k) ∨ k = w1.heap.size := fun k hk => by
    rcases hat with h | h
    · exact .inl (h ▸ hk)
    · rw [h] at hk; injection hk with hk; exact .inr hk.symm
  have hNx : vN.ownBlock ≠ some x := fun e => by
    rcases hN x e with h | h
    · exact hB.lx h
    · omega
  refine ⟨fun b => G b ∨ (w1.heap.size ≤ b ∧ b < u.heap.size), ⟨Sb, vN, .slice none 0 0, ⟨?_, ?_, OwnL.nil_, ?_, hNx, by simp [Value.ownBlock], ?_⟩, .inl g1, fun b hb => .inl (g2 b hb), ?_, by simp [Value.ownBlock], ?_⟩, ?_, ?_⟩
  · exact ((hB.box.keep (hk x hx (fun e => hB.lx e.symm))).set 1 vN).set 2 _
  · exact ownL_blocks EvR.stable own (fun k hk2 => hset k (fun e => hNx (e ▸ hk2))) (fun b hs2 => hset b (hB.sx b hs2).1)
  · intro b h
    refine ⟨(hB.sx b h).1, fun e => ?_, by simp [Value.ownBlock]⟩
    have := lt b (g2 b h)
    rcases hN b e.symm with h2 | h2
    · exact (hB.sx b h).2.1 h2.symm
    · omega
  · cases hv : vN.ownBlock with
    | none => exact .inl rfl
    | some k => exact .inr (by simp [Value.ownBlock])
  · intro k hk2
    rcases hN k hk2 with h2 | h2
    · exact .inl (g3 k h2)
    · have := (own.lt k hk2).2
      exact .inr ⟨by omega, this⟩
  · rintro k (h | h)
    · have := lt k h; simp; omega
    · simpa using h.2
  · rintro k (h | h) hlk
    · exact h
    · have := h1.size; omega
  · refine (Keep.of_below (F := G) h1).trans (G := G) ?_ (fun k h _ => h)
    exact ⟨hu.os, hu.tape, hu.output, by simpa using hus, fun k hk2 hg => (hset k (fun e => hg (e ▸ g1))).trans (hk k hk2 (fun e => hg (g3 k e.symm)))⟩

set_option maxRecDepth 100000 in
set_option maxHeartbeats 8000000 in
theorem rflush_good {G : Nat → Prop} {w : World} {x n : Nat} {rs : RSt} (h : Hid (RefAt G w x n rs)) (hd : rs.gone = false) (hcl : rs.L.length + rs.wait.length < 1000000) :
    Calls Tryz.prog 104 #[.pointer (some ⟨x, 0, none⟩)] w fun e w' => e = .returned (.int .i64 0) ∧ RUpd G w w' x n { rs with L := rs.L ++ rs.wait, wait := [] } := by
  obtain ⟨Sb, vL, vW, hB, g1, g2, g3, g4, lt⟩ := h.out
  obtain ⟨AL, cL, rfl⟩ := ownL_form hB.oL
  obtain ⟨AW, cW, rfl⟩ := ownL_form hB.oW
  obtain ⟨k0, k1, k2, k3⟩ := ref_cells hB
  have z1 := hB.box.frozen 1
  have z2 := hB.box.frozen 2
  rw [hd] at k3
  have HB := Lib.hid hB
  have hxL : some x ≠ (Value.slice AL rs.L.length cL).ownBlock := fun e => hB.lx e.symm
  have ownL0 : OwnL EvR 232 4 0 Sb w.drew (.slice AL rs.L.length cL) rs.L.length rs.L := hB.oL.keep EvR.stable ((Below.refl _ _).drew)
  have ownW0 : OwnL EvR 232 4 0 Sb w.drew (.slice AW rs.wait.length cW) rs.wait.length rs.wait := hB.oW.keep EvR.stable ((Below.refl _ _).drew)
  have hyy : ∀ cs y, EvR (Go.Cib.Rest Sb (.slice AW rs.wait.length cW)) w.drew cs y → EvR (Go.Cib.Rest Sb (.slice AL rs.L.length cL)) w.drew cs y := fun cs y hy => EvR.stable _ _ _ _ _ _ hy fun b hb _ => ⟨⟨hb.1, (hB.sx b hb.1).2.1⟩, rfl⟩
  have KA : ∀ w', World.grownBy (World.drew w) w' (Value.slice AL rs.L.length cL).ownBlock → w'.cell? ⟨x, 2, none⟩ = some (.slice AW rs.wait.length cW) := fun w' hg => cell_far2 (w := World.drew w) k2 hg hxL
  have KS : ∀ (w' : World) (v : Value), w'.cell? ⟨x, 2, none⟩ = some (.slice AW rs.wait.length cW) → (w'.setCell ⟨x, 1, none⟩ v).cell? ⟨x, 2, none⟩ = some (.slice AW rs.wait.length cW) := fun w' v h => by
    rw [World.cell?_setCell_other _ _ _ _ (by simp)]; exact h
  have KQ := Lib.hid (fun w' (hg : World.grownBy (World.drew w) w' (Value.slice AL rs.L.length cL).ownBlock) => And.intro (cell_far2 (w := World.drew w) (a := ⟨x, 1, none⟩) k1 hg hxL) (frozen_far2 (w := World.drew w) (a := ⟨x, 1, none⟩) k1 z1 hg hxL))
  have KZ := Lib.hid (fun w' (hg : World.grownBy (World.drew w) w' (Value.slice AL rs.L.length cL).ownBlock) => frozen_far2 (w := World.drew w) (a := ⟨x, 2, none⟩) k2 z2 hg hxL)
  clear hB h
  go_enter Tryz.func104, Tryz.ntmps104
  go_wp2_with fail
  refine wp_region_held_drew (S := (fun w' => w'.cell? ⟨x, 2, none⟩ = some (.slice AW rs.wait.length cW))) (by kernel_rfl) (by first | exact k2 | exact (KA _ hg9) | exact (KS _ _ (KA _ hg9))) (fun hHeld => ?_)
  refine wpAnyH_take (i := 0) (v := ?_) rfl (by kernel_rfl) (by kernel_rfl) (by kernel_rfl) (fun _ _ _ h => h) (Or.inl ⟨by rfl, ?_⟩) (by assumption) ?_
  rotate_left
  · (intro wq hSw; (try dsimp only at hSw); (try simp only [zz1, zz2, zz3]); go_simp); try with_reducible rfl
  try simp only [zz1, zz2, zz3, Act.put, zz4, zz5, zz6]
  refine wpAnyH_take (i := 1) (v := ?_) rfl (by kernel_rfl) (by kernel_rfl) (by kernel_rfl) (fun _ _ _ h => h) (Or.inl ⟨by rfl, ?_⟩) (by assumption) ?_
  rotate_left
  · (intro wq hSw; (try dsimp only at hSw); (try simp only [zz1, zz2, zz3]); go_simp); try with_reducible rfl
  try simp only [zz1, zz2, zz3, Act.put, zz4, zz5, zz6]
  refine wpAnyH_take (i := 2) (v := ?_) rfl (by kernel_rfl) (by kernel_rfl) (by kernel_rfl) (fun _ _ _ h => h) (Or.inl ⟨by rfl, ?_⟩) (by assumption) ?_
  rotate_left
  · (intro wq hSw; (try dsimp only at hSw); (try simp only [zz1, zz2, zz3]); go_simp); try with_reducible rfl
  try simp only [zz1, zz2, zz3, Act.put, zz4, zz5, zz6]
  refine wpAnyH_take (i := 3) (v := ?_) rfl (by kernel_rfl) (by kernel_rfl) (by kernel_rfl) (fun _ _ _ h => h) (Or.inl ⟨by rfl, ?_⟩) (by assumption) ?_
  rotate_left
  · (intro wq hSw; (try dsimp only at hSw); (try simp only [zz1, zz2, zz3]); go_simp); try with_reducible rfl
  try simp only [zz1, zz2, zz3, Act.put, zz4, zz5, zz6]
  refine wpAnyH_take (i := 5) (v := ?_) rfl (by kernel_rfl) (by kernel_rfl) (by kernel_rfl) (fun _ _ _ h => h) (Or.inl ⟨by rfl, ?_⟩) (by assumption) ?_
  rotate_left
  · (intro wq hSw; (try dsimp only at hSw); (try simp only [zz1, zz2, zz3]); go_simp); try with_reducible rfl
  try simp only [zz1, zz2, zz3, Act.put, zz4, zz5, zz6]
  refine wpAnyH_take (i := 6) (v := ?_) rfl (by kernel_rfl) (by kernel_rfl) (by kernel_rfl) (fun _ _ _ h => h) (Or.inl ⟨by rfl, ?_⟩) (by assumption) ?_
  rotate_left
  · (intro wq hSw; (try dsimp only at hSw); (try simp only [zz1, zz2, zz3]); go_simp); try with_reducible rfl
  try simp only [zz1, zz2, zz3, Act.put, zz4, zz5, zz6]
  refine wpAnyH_take (i := 7) (v := ?_) rfl (by kernel_rfl) (by kernel_rfl) (by kernel_rfl) (fun _ _ _ h => h) (Or.inl ⟨by rfl, ?_⟩) (by assumption) ?_
  rotate_left
  · (intro wq hSw; (try dsimp only at hSw); (try simp only [zz1, zz2, zz3]); go_simp); try with_reducible rfl
  try simp only [zz1, zz2, zz3, Act.put, zz4, zz5, zz6]
  refine wpAnyH_take (i := 8) (v := ?_) rfl (by kernel_rfl) (by kernel_rfl) (by kernel_rfl) (fun _ _ _ h => h) (Or.inl ⟨by rfl, ?_⟩) (by assumption) ?_
  rotate_left
  · (intro wq hSw; (try dsimp only at hSw); (try simp only [zz1, zz2, zz3]); go_simp); try with_reducible rfl
  try simp only [zz1, zz2, zz3, Act.put, zz4, zz5, zz6]
  refine rdH 4 rfl fun K hK => ?_
  try simp only [zz1, zz2, zz3]
  go_simp
  refine hK.out _ _ (by first | exact k2 | exact (KA _ hg9) | exact (KS _ _ (KA _ hg9))) (fun hHeld => ?_)
  clear hK K
  try simp only [zz1, zz2, zz3, Act.put, zz4, zz5, zz6]
  refine rdH 9 rfl fun K hK => ?_
  refine step_of_list (by rfl) (wpList_appO EvR.stable EvR.one slEv (by rfl) (by rfl) (base := 0) (S := Sb) (by rfl) ownL0 (by rfl) ownW0 hyy (by unfold maxLen; omega) (by omega) (Nat.zero_le _) ?_)
  intro v9 w9 own9 hg9 hat9
  refine And.intro rfl ?_
  obtain ⟨A9, c9, rfl⟩ := ownL_form own9
  obtain ⟨kz, zz⟩ := KQ.out w9 hg9
  refine hK.out _ _ (by first | exact k2 | exact (KA _ hg9) | exact (KS _ _ (KA _ hg9))) (fun hHeld => ?_)
  clear hK K
  try simp only [zz1, zz2, zz3, Act.put, zz4, zz5, zz6]
  refine wpAnyH_take (i := 10) (v := ?_) rfl (by kernel_rfl) (by kernel_rfl) (by kernel_rfl) (fun _ _ _ h => h) (Or.inl ⟨by rfl, ?_⟩) (by assumption) ?_
  rotate_left
  · (intro wq hSw; (try dsimp only at hSw); (try simp only [zz1, zz2, zz3]); go_simp); try with_reducible rfl
  try simp only [zz1, zz2, zz3, Act.put, zz4, zz5, zz6]
  refine wpAnyH_take (i := 11) (v := ?_) rfl (by kernel_rfl) (by kernel_rfl) (by kernel_rfl) (fun _ _ _ h => h) (Or.inl ⟨by rfl, ?_⟩) (by assumption) ?_
  rotate_left
  · (intro wq hSw; (try dsimp only at hSw); (try simp only [zz1, zz2, zz3]); go_simp); try with_reducible rfl
  try simp only [zz1, zz2, zz3, Act.put, zz4, zz5, zz6]
  refine rdH 12 rfl fun K hK => ?_
  try simp only [zz1, zz2, zz3]
  go_simp
  refine hK.out _ _ (by first | exact k2 | exact (KA _ hg9) | exact (KS _ _ (KA _ hg9))) (fun hHeld => ?_)
  clear hK K
  try simp only [zz1, zz2, zz3, Act.put, zz4, zz5, zz6]
  refine wpAnyH_done (by kernel_rfl) ?_ _
  have zf := KZ.out w9 hg9
  have kf := KA w9 hg9
  have hlen : (rs.L ++ rs.wait).length = rs.L.length + rs.wait.length := by simp
  have own9 : Hid (OwnL EvR 232 4 0 Sb w9 (.slice A9 (rs.L.length + rs.wait.length) c9) (rs.L ++ rs.wait).length (rs.L ++ rs.wait)) := Lib.hid (by rw [hlen]; exact own9)
  have hg := Lib.hid hg9
  have ht := Lib.hid hat9
  clear KA KS KQ KZ hlen
  go_wp2_with fail
  go_ret
  exact ⟨rfl, rL_post HB.out g1 g2 g3 g4 lt (Below.refl _ _) (undrew hg.out) own9.out ht.out⟩
end
section

/-- The events that a crash keeps. -/
def keptE (keep : Nat → Bool) : Nat → List Ev → List Ev
  | _, [] => []
  | i, e :: l => if keep i then e :: keptE keep (i + 1) l else keptE keep (i + 1) l
theorem keptE_len (keep : Nat → Bool) : ∀ (l : List Ev) (i : Nat), (keptE keep i l).length ≤ l.length
  | [], i => by simp [keptE]
  | d :: l, i => by
    rw [keptE]
    have := keptE_len keep l (i + 1)
    split <;> simp <;> omega
theorem ev_at2 {Sb : Nat → Prop} {w : World} {base : Nat} {A : Option Addr} {n c : Nat} {xs : List Ev} (h : OwnL EvR 232 4 base Sb w (.slice A n c) n xs) {i : Nat} (hi : i < n) :
    ∃ g e B m d, A = some ⟨g, 0, none⟩ ∧ xs[i]? = some e ∧ RdL U8R 1 (Go.Cib.Rest Sb (.slice A n c)) w B m e.b ∧
      w.cell? ⟨g, i * 4, none⟩ = some (.int .i64 e.at_) ∧ w.cell? ⟨g, i * 4 + 1, none⟩ = some (.slice B m d) ∧ w.cell? ⟨g, i * 4 + 2, none⟩ = some (.int .i64 e.off) ∧ w.cell? ⟨g, i * 4 + 3, none⟩ = some (.int .u32 e.mask) ∧ m ≤ d := by
  obtain ⟨css, h1, h2, h3, h4, h5⟩ := h
  obtain ⟨g, cap, e0, _, _⟩ := h1.form (by omega)
  obtain ⟨rfl, rfl⟩ : A = some ⟨g, 0, none⟩ ∧ c = cap := by simpa using e0
  have hic : css[i]? = some (css[i]'(by omega)) := List.getElem?_eq_getElem (by omega)
  have hix : xs[i]? = some (xs[i]'(by omega)) := List.getElem?_eq_getElem (by omega)
  obtain ⟨B, m, d, hcs, hr, hmd⟩ := h5 i _ _ hic hix
  have hcell : ∀ j v, (css[i]'(by omega))[j]? = some v → w.cell? ⟨g, i * 4 + j, none⟩ = some v := fun j v hj => by
    have hjl : j < 4 := by have := (List.getElem?_eq_some_iff.1 hj).1; rw [h4 _ (List.getElem_mem _)] at this; exact this
    rw [h1.cellAt (i * 4 + j) (by omega), flatten_get css h4 i _ j hic hjl, hj]
  rw [hcs] at hcell
  exact ⟨g, _, B, m, d, rfl, hix, hr, hcell 0 _ rfl, hcell 1 _ rfl, hcell 2 _ rfl, hcell 3 _ rfl, hmd⟩
theorem ev_at {Sb : Nat → Prop} {w : World} {base : Nat} {A : Option Addr} {n c : Nat} {xs : List Ev} (h : OwnL EvR 232 4 base Sb w (.slice A n c) n xs) {i : Nat} (hi : i < n) :
    ∃ g e B m d, A = some ⟨g, 0, none⟩ ∧ xs[i]? = some e ∧ RdL U8R 1 (Go.Cib.Rest Sb (.slice A n c)) w B m e.b ∧
      w.cell? ⟨g, i * 4, none⟩ = some (.int .i64 e.at_) ∧ w.cell? ⟨g, i * 4 + 1, none⟩ = some (.slice B m d) ∧ w.cell? ⟨g, i * 4 + 2, none⟩ = some (.int .i64 e.off) ∧ w.cell? ⟨g, i * 4 + 3, none⟩ = some (.int .u32 e.mask) := by
  obtain ⟨g, e, B, m, d, h1, h2, h3, h4, h5, h6, h7, _⟩ := ev_at2 h hi
  exact ⟨g, e, B, m, d, h1, h2, h3, h4, h5, h6, h7⟩

/-- One event more in L. -/
theorem rpush_post {G Sb : Nat → Prop} {w u : World} {x n : Nat} {vL vW vN : Value} {rs : RSt} {e : Ev} (hB : RefB Sb w x n vL vW rs) (g1 : G x) (g2 : ∀ b, Sb b → G b) (g3 : ∀ k, vL.ownBlock = some k → G k) (g4 : ∀ k, vW.ownBlock = some k → G k) (lt : ∀ k, G k → k < w.heap.size)
    (hu : w.grownBy u vL.ownBlock) (own : OwnL EvR 232 4 0 Sb u vN (rs.L.length + 1) (rs.L ++ [e])) (hat : vN.ownBlock = vL.ownBlock ∨ vN.ownBlock = some (w.heap.size + 1)) :
    RUpd G w (u.setCell ⟨x, 1, none⟩ vN) x n { rs with L := rs.L ++ [e] } := by
  have hk : ∀ k, k < w.heap.size → some k ≠ vL.ownBlock → u.heap[k]? = w.heap[k]? := fun k hk hn => hu.block k hk hn
  have hset : ∀ k, k ≠ x → (u.setCell ⟨x, 1, none⟩ vN).heap[k]? = u.heap[k]? := fun k hk => Below.heap_setCell _ _ _ _ hk
  have hx : x < w.heap.size := lt x g1
  have hus := hu.size
  have hN : ∀ k, vN.ownBlock = some k → (vL.ownBlock = some k) ∨ k = w.heap.size + 1 := fun k hk => by
    rcases hat with h | h
    · exact .inl (h ▸ hk)
    · rw [h] at hk; injection hk with hk; exact .inr hk.symm
  have hNx : vN.ownBlock ≠ some x := fun e => by
    rcases hN x e with h | h
    · exact hB.lx h
    · omega
  have hWL : ∀ k, vW.ownBlock = some k → some k ≠ vL.ownBlock := fun k hk2 e => by
    rcases hB.lw with h | h
    · rw [h] at e; cases e
    · exact h (e.symm.trans hk2.symm)
  refine ⟨fun b => G b ∨ (w.heap.size ≤ b ∧ b < u.heap.size), ⟨Sb, vN, vW, ⟨?_, ?_, ?_, ?_, hNx, hB.wx, ?_⟩, .inl g1, fun b hb => .inl (g2 b hb), ?_, fun k hk2 => .inl (g4 k hk2), ?_⟩, ?_, ?_⟩
  · exact (hB.box.keep (hk x hx (fun e => hB.lx e.symm))).set 1 vN
  · show OwnL EvR _ 4 0 _ _ vN (rs.L ++ [e]).length (rs.L ++ [e])
    rw [show (rs.L ++ [e]).length = rs.L.length + 1 by simp]
    exact ownL_blocks EvR.stable own (fun k hk2 => hset k (fun e => hNx (e ▸ hk2))) (fun b hs2 => hset b (hB.sx b hs2).1)
  · refine ownL_blocks EvR.stable hB.oW (fun k hk2 => ?_) (fun b hs2 => ?_)
    · exact (hset k (fun e => hB.wx (e ▸ hk2))).trans (hk k (lt k (g4 k hk2)) (hWL k hk2))
    · exact (hset b (hB.sx b hs2).1).trans (hk b (lt b (g2 b hs2)) (hB.sx b hs2).2.1)
  · intro b h
    refine ⟨(hB.sx b h).1, fun e => ?_, (hB.sx b h).2.2⟩
    have := lt b (g2 b h)
    rcases hN b e.symm with h2 | h2
    · exact (hB.sx b h).2.1 h2.symm
    · omega
  · cases hv : vN.ownBlock with
    | none => exact .inl rfl
    | some k =>
      right
      intro e
      rcases hN k hv with h2 | h2
      · exact hWL k e.symm h2.symm
      · have := lt k (g4 k e.symm); omega
  · intro k hk2
    rcases hN k hk2 with h2 | h2
    · exact .inl (g3 k h2)
    · have := (own.lt k hk2).2
      exact .inr ⟨by omega, this⟩
  · rintro k (h | h)
    · have := lt k h; simp; omega
    · simpa using h.2
  · rintro k (h | h) hlk
    · exact h
    · omega
  · exact ⟨hu.os, hu.tape, hu.output, by simpa using hus, fun k hk2 hg => (hset k (fun e => hg (e ▸ g1))).trans (hk k hk2 (fun e => hg (g3 k e.symm)))⟩
theorem RUpd.trans {G G1 : Nat → Prop} {w w1 w2 : World} {x n : Nat} {rs : RSt} (hG : ∀ k, G1 k → k < w.heap.size → G k) (hK : Keep G w w1) (h : RUpd G1 w1 w2 x n rs) : RUpd G w w2 x n rs := by
  obtain ⟨G', hD, hF, hK2⟩ := h
  exact ⟨G', hD, fun k hk hlt => hG k (hF k hk (Nat.lt_of_lt_of_le hlt hK.size)) hlt, hK.trans hK2 (fun k h hlt => hG k h hlt)⟩
end
section

end
section
attribute [local go_sem ↓] shut_build

/-- Is what lies at k spoilt? -/
def badE (L : List Ev) (k : Int) : Bool := L.foldl (fun bad e => if e.at_ = k then !(e.mask == 0) else bad) false
theorem badE_snoc (L : List Ev) (e : Ev) (k : Int) : badE (L ++ [e]) k = if e.at_ = k then !(e.mask == 0) else badE L k := by simp [badE]

set_option maxRecDepth 100000 in
set_option maxHeartbeats 4000000 in
theorem rrotten_any {G : Nat → Prop} {w : World} {x n : Nat} {rs : RSt} (h : Hid (RefAt G w x n rs)) (z : Int) (hcl : rs.L.length < 1000000) :
    Calls Tryz.prog 152 #[.pointer (some ⟨x, 0, none⟩), .int .i64 z] w fun e w' => e = .returned (.bool (!rs.gone && badE rs.L z)) ∧ Below w.heap.size w w' := by
  obtain ⟨Sb, vL, vW, hB, g1, g2, g3, g4, lt⟩ := h.out
  obtain ⟨AL, cL, rfl⟩ := ownL_form hB.oL
  have k1 : w.cell? ⟨x, 1, none⟩ = some (.slice AL rs.L.length cL) := hB.box.cell 1
  have k3 : w.cell? ⟨x, 3, none⟩ = some (.bool rs.gone) := hB.box.cell 3
  have HB := Lib.hid hB
  clear hB
  go_enter Tryz.func152, Tryz.ntmps152
  go_wp2_with fail
  cases hd : rs.gone with
  | true =>
    rw [hd] at k3
    go_loopw [5, 6] (fun vb vi wr => vb = .bool false ∧ vi = .int .i64 0 ∧ wr = w) (fun _ _ _ => 0)
    case atStart => exact ⟨rfl, rfl, rfl⟩
    case round =>
      obtain ⟨rfl, rfl, rfl⟩ := hrel
      by_cases h0 : 0 < rs.L.length
      · have h1 : (0 : Int) < (rs.L.length : Int) := by omega
        go_wp2_with fail
        go_ret
        exact ⟨ret_bool2 (by simp [hd]), Below.refl _ _⟩
      · have h1 : ¬ (0 : Int) < (rs.L.length : Int) := by omega
        go_wp2_with fail
        go_ret
        exact ⟨ret_bool2 (by simp [hd]), Below.refl _ _⟩
  | false =>
    rw [hd] at k3
    go_loopw [5, 6] (fun vb vi wr => ∃ (i : Nat) (b : Bool), i ≤ rs.L.length ∧ vb = .bool b ∧ vi = .int .i64 i ∧ wr = w ∧ Hid (b = badE (rs.L.take i) z)) (fun _ vi _ => rs.L.length - (intOf vi).toNat)
    case atStart => exact ⟨0, false, Nat.zero_le _, rfl, rfl, rfl, Lib.hid rfl⟩
    case round =>
      obtain ⟨i, b, hi, rfl, rfl, rfl, hb⟩ := hrel
      by_cases hlt : i < rs.L.length
      · have h1 : (i : Int) < (rs.L.length : Int) := by omega
        have h2 : (0 : Int) ≤ (i : Int) := Int.natCast_nonneg _
        have h3 : (i : Int) < 1000000 := by omega
        obtain ⟨g, e, B, mm, d, rfl, he, hre, y0, y1, y2, y3⟩ := ev_at HB.out.oL hlt
        have htk : rs.L.take (i + 1) = rs.L.take i ++ [e] := by rw [List.take_succ_eq_append_getElem hlt, (List.getElem?_eq_some_iff.1 he).2]
        by_cases ha : e.at_ = z
        · have hn : badE (rs.L.take (i + 1)) z = !(e.mask == 0) := by rw [htk, badE_snoc, if_pos ha]
          have HN := Lib.hid hn
          rw [ha] at y0
          clear hn htk he hre
          go_wp2_with fail
          exact ⟨⟨i + 1, (e.mask != 0), by omega, rfl, by go_num, trivial, Lib.hid (by rw [HN.out]; rfl)⟩, by simp [intOf]; omega⟩
        · have hn : badE (rs.L.take (i + 1)) z = badE (rs.L.take i) z := by rw [htk, badE_snoc, if_neg ha]
          have HN := Lib.hid hn
          have haf : (e.at_ == z) = false := by simpa using ha
          clear hn htk he hre
          go_wp2_with fail
          exact ⟨⟨i + 1, b, by omega, rfl, by go_num, trivial, Lib.hid (by rw [HN.out]; exact hb.out)⟩, by simp [intOf]; omega⟩
      · obtain rfl : i = rs.L.length := by omega
        have h1 : ¬ (rs.L.length : Int) < (rs.L.length : Int) := by omega
        go_wp2_with fail
        go_ret
        refine ⟨ret_bool2 ?_, Below.refl _ _⟩
        rw [hb.out, List.take_length] <;> rfl

def rrotOk (rs : RSt) (n : Nat) (z off mask : Int) : Prop := rs.gone = false ∧ (0 ≤ z ∧ z < n) ∧ (0 ≤ off ∧ off ≤ 60) ∧ ¬ mask = 0 ∧ badE rs.L z = false
set_option maxRecDepth 100000 in
set_option maxHeartbeats 4000000 in
theorem rrot_good {G : Nat → Prop} {w : World} {x n : Nat} {rs : RSt} (h : Hid (RefAt G w x n rs)) (z off mask : Int) (hcl : rs.L.length < 1000000) (hz : rrotOk rs n z off mask) :
    Calls Tryz.prog 112 #[.pointer (some ⟨x, 0, none⟩), .int .i64 z, .int .i64 off, .int .u32 mask] w fun e w' => e = .returned (.int .i64 0) ∧ RUpd G w w' x n { rs with L := rs.L ++ [⟨z, [], off, mask⟩] } := by
  obtain ⟨hd, h0, ⟨h1, h2⟩, h3, hbad⟩ := hz
  obtain ⟨Sb, vL, vW, hB, _⟩ := h.out
  obtain ⟨k0, k1, k2, k3⟩ := ref_cells hB
  clear hB
  rw [hd] at k3
  have e1 : decide (0 ≤ z ∧ z < (n : Int)) = true := by simpa using h0
  have d1 : decide (off < 0) = false := by simp; omega
  have d1' : ¬ off < 0 := by omega
  have d2 : decide (60 < off) = false := by simp; omega
  have d2' : ¬ 60 < off := by omega
  have d3 : (mask == 0) = false := by simpa using h3
  have HBd := Lib.hid (show (!rs.gone && badE rs.L z) = false by rw [hbad]; simp)
  clear hbad h3
  go_enter Tryz.func112, Tryz.ntmps112
  go_wp2_with fail
  refine (rhas_any h z).mono ?_
  rintro e w1 ⟨rfl, t1⟩
  rw [e1]
  clear e1 h0
  have H1 := Lib.hid (h.out.below t1)
  go_wp2_with fail
  refine (rrotten_any H1 z hcl).mono ?_
  rintro e w2 ⟨rfl, t2⟩
  rw [HBd.out]
  have t12 := Lib.hid (t1.trans (t2.mono t1.size))
  obtain ⟨Sb, vL, vW, hB, g1, g2, g3, g4, lt⟩ := H1.out.below t2
  obtain ⟨AL, cL, rfl⟩ := ownL_form hB.oL
  have k1 : w2.cell? ⟨x, 1, none⟩ = some (.slice AL rs.L.length cL) := hB.box.cell 1
  have z1 := hB.box.frozen 1
  have HB := Lib.hid hB
  have hxL : some x ≠ (Value.slice AL rs.L.length cL).ownBlock := fun e => hB.lx e.symm
  have own1 := hB.oL
  have hye : EvR (Go.Cib.Rest Sb (.slice AL rs.L.length cL)) w2 (#[.int .i64 z, .slice none 0 0, .int .i64 off, .int .u32 mask] : Array Value).toList ⟨z, [], off, mask⟩ := ⟨none, 0, 0, rfl, RdL.nil, Nat.le_refl _⟩
  have KF := Lib.hid (fun (u : Grw (Value.slice AL rs.L.length cL).ownBlock w2) => And.intro (cell_far2 (a := ⟨x, 1, none⟩) k1 u.ok hxL) (frozen_far2 (a := ⟨x, 1, none⟩) k1 z1 u.ok hxL))
  clear H1 t1 t2 hB hxL h
  go_wp2_with (at_builtin; refine wpList_push1 EvR.stable EvR.one slEv (by rfl) (by rfl) (W := w2) (base := 0) (S := Sb) (cs := #[.int .i64 z, .slice none 0 0, .int .i64 off, .int .u32 mask]) (y := ⟨z, [], off, mask⟩) (by rfl) (by rfl) own1 (by rfl) hye (by unfold maxLen; omega) (by omega) (Nat.zero_le _) ?_; intro A11 c11 u11 hc11 own11 hlt11 hb11 hat11; obtain ⟨k30, k31⟩ := KF.out u11)
  go_ret
  have hp := rpush_post HB.out g1 g2 g3 g4 lt u11.ok own11 hat11
  exact ⟨rfl, RUpd.trans (G1 := G) (fun k h _ => h) (Keep.of_below t12.out) hp⟩
end
section
attribute [local go_sem ↓] shut_build shut_slice

/-- What lies at k. -/
def storedE (L : List Ev) (k : Int) : List Int := L.foldl (fun b e => if e.at_ = k then (if e.mask = 0 then e.b else rotTo b e.off.toNat e.mask 4) else b) (rep 0)
theorem storedE_snoc (L : List Ev) (e : Ev) (k : Int) : storedE (L ++ [e]) k = if e.at_ = k then (if e.mask = 0 then e.b else rotTo (storedE L k) e.off.toNat e.mask 4) else storedE L k := by simp [storedE]
/-- An event that can be. -/
def EvOk (e : Ev) : Prop := (e.mask = 0 ∧ e.b.length = 64) ∨ (¬ e.mask = 0 ∧ 0 ≤ e.off ∧ e.off ≤ 60)
theorem ownL_u8 {base : Nat} {S : Nat → Prop} {w : World} {v : Value} {n : Nat} {bs : List Int} (h : OwnL U8R 5 1 base S w v n bs) : w.ownsRow base 5 1 v n (secCells bs) := by
  obtain ⟨css, h1, h2, h3, h4, h5⟩ := h
  have e : css.flatten = secCells bs := by
    have hc : css = bs.map (fun x => [Value.int .u8 x]) := by
      apply List.ext_getElem
      · simp [h2, h3]
      · intro i hi hi2
        have := h5 i _ _ (List.getElem?_eq_getElem hi) (List.getElem?_eq_getElem (by omega : i < bs.length))
        simpa using (show css[i] = [.int .u8 bs[i]] from this)
    rw [hc]
    clear hc h5 h2
    induction bs with
    | nil => rfl
    | cons x l ih => rw [List.map_cons, List.flatten_cons]; exact congrArg (Value.int .u8 x :: ·) (by simpa [secCells] using ih)
  rw [← e]; exact h1
theorem row_rdZ {base : Nat} {w : World} {g cap : Nat} {bs : List Int} (h : w.ownsRow base 5 1 (.slice (some ⟨g, 0, none⟩) 64 cap) 64 (secCells bs)) : RdL U8R 1 (base ≤ ·) w (some ⟨g, 0, none⟩) 64 bs := by
  have hl : bs.length = 64 := by have := h.1; simpa [secCells] using this
  refine ⟨hl, fun _ => ⟨g, 0, rfl, (h.lt g rfl).1, (h.lt g rfl).2, fun i x hx => ⟨[.int .u8 x], rfl, rfl, fun j v hj => ?_⟩⟩⟩
  have hil := (List.getElem?_eq_some_iff.1 hx).1
  match j, hj with
  | 0, hj =>
    simp only [List.getElem?_cons_zero, Option.some.injEq] at hj
    subst hj
    rw [h.cellAt _ (by omega)]
    simp [secCells, hx]

set_option maxRecDepth 100000 in
set_option maxHeartbeats 8000000 in
theorem rstored_good {G : Nat → Prop} {w : World} {x n : Nat} {rs : RSt} (h : Hid (RefAt G w x n rs)) (hd : rs.gone = false) (z : Nat) (hz : z < n) (hcl : rs.L.length < 1000000) (hok : Hid (∀ e ∈ rs.L, EvOk e)) :
    Calls Tryz.prog 228 #[.pointer (some ⟨x, 0, none⟩), .int .i64 z] w fun e w' => ∃ g c, e = .returned (.slice (some ⟨g, 0, none⟩) 64 c) ∧ w.heap.size ≤ g ∧ g < w'.heap.size ∧ RdL U8R 1 (· = g) w' (some ⟨g, 0, none⟩) 64 (storedE rs.L z) ∧ Below w.heap.size w w' ∧ 64 ≤ c := by
  obtain ⟨Sb, vL, vW, hB, _⟩ := h.out
  obtain ⟨k0, k1, k2, k3⟩ := ref_cells hB
  clear hB
  rw [hd] at k3
  have e1 : decide (0 ≤ (z : Int) ∧ (z : Int) < n) = true := by simp; omega
  go_enter Tryz.func228, Tryz.ntmps228
  go_wp2_with fail
  refine (rhas_any h z).mono ?_
  rintro e w1 ⟨rfl, t1⟩
  rw [e1]
  clear e1 k0 k1 k2 k3
  obtain ⟨Sb, vL, vW, hB, g1, g2, g3, g4, lt⟩ := h.out.below t1
  obtain ⟨AL, cL, rfl⟩ := ownL_form hB.oL
  have kL : Hid (∀ w', Below w1.heap.size w1 w' → w'.cell? ⟨x, 1, none⟩ = some (.slice AL rs.L.length cL) ∧ OwnL EvR 232 4 0 Sb w' (.slice AL rs.L.length cL) rs.L.length rs.L) := Lib.hid fun w' hb => ⟨(hb.cell (p := ⟨x, 1, none⟩) (lt x g1)).trans (hB.box.cell 1), hB.oL.keep EvR.stable hb⟩
  have hmk := make64 w1
  have b0 := World.ownsRow_lit (base := w1.heap.size) (e := 5) (size := 1) w1 ((List.replicate 64 (0 : Int)).map (Value.int .u8)).toArray 64 (Nat.le_refl _) (by decide) (by simp)
  have a1 : Below w1.heap.size w1 (w1.alloc (.cells ((List.replicate 64 (0 : Int)).map (Value.int .u8)).toArray 5)) := (Below.refl _ _).alloc (Nat.le_refl _) _
  obtain ⟨w2, hw2⟩ : ∃ w2, w1.alloc (.cells ((List.replicate 64 (0 : Int)).map (Value.int .u8)).toArray 5) = w2 := ⟨_, rfl⟩
  rw [hw2] at hmk b0 a1
  have B0 : Hid (w2.ownsRow w1.heap.size 5 1 (.slice (some ⟨w1.heap.size, 0, none⟩) 64 64) 64 (secCells (rep 0))) := Lib.hid (by simpa [secCells, rep, -List.reduceReplicate] using b0)
  have A1 := Lib.hid a1
  have T1 := Lib.hid t1
  have hw1s := t1.size
  clear b0 a1 hw2 hB t1
  go_wp2_with fail
  clear hmk
  go_loopw [5, 6] (fun vb vi wr => ∃ (i g cap : Nat) (bs : List Int), i ≤ rs.L.length ∧ vi = .int .i64 i ∧ vb = .slice (some ⟨g, 0, none⟩) 64 cap ∧ Hid (bs = storedE (rs.L.take i) z) ∧ Hid (wr.ownsRow w1.heap.size 5 1 (.slice (some ⟨g, 0, none⟩) 64 cap) 64 (secCells bs)) ∧ Hid (Below w1.heap.size w1 wr)) (fun _ vi _ => rs.L.length - (intOf vi).toNat)
  case atStart => exact ⟨0, w1.heap.size, 64, rep 0, Nat.zero_le _, rfl, rfl, Lib.hid rfl, B0, A1⟩
  case round =>
    clear B0 A1
    obtain ⟨wo, rfl⟩ : ∃ wo, wo = wr := ⟨_, rfl⟩
    obtain ⟨i, g, cap, bs, hi, rfl, rfl, hbs, hrow, hW1⟩ := hrel
    by_cases hlt : i < rs.L.length
    · have h1 : (i : Int) < (rs.L.length : Int) := by omega
      have h2 : (0 : Int) ≤ (i : Int) := Int.natCast_nonneg _
      have h3 : (i : Int) < 1000000 := by omega
      obtain ⟨k1, hoL⟩ := kL.out wo hW1.out
      obtain ⟨ge, e, B, mm, d, rfl, he, hre, y0, y1, y2, y3⟩ := ev_at hoL hlt
      have HR := Lib.hid hre
      have hee : e ∈ rs.L := List.mem_of_getElem? he
      have htk : rs.L.take (i + 1) = rs.L.take i ++ [e] := by rw [List.take_succ_eq_append_getElem hlt, (List.getElem?_eq_some_iff.1 he).2]
      have hs := storedE_snoc (rs.L.take i) e z
      rw [← htk] at hs
      clear hoL hre he htk
      by_cases ha : e.at_ = z
      · rw [if_pos ha] at hs
        have hok1 := hok.out e hee
        clear hee
        rw [ha] at y0
        by_cases hm : e.mask = 0
        · rw [if_pos hm] at hs
          have HS := Lib.hid hs
          rw [hm] at y3
          have hl : e.b.length = 64 := by
            rcases hok1 with h | h
            · exact h.2
            · exact absurd hm h.1
          obtain rfl : mm = 64 := HR.out.1.symm.trans hl
          have own0 : OwnL U8R 5 1 (wo.heap.size + 1) (fun _ => False) ((wo.alloc (.cells #[.int .i64 z, .slice B 64 d, .int .i64 e.off, .int .u32 0] 232)).alloc (.cells #[] 5)) (.slice (some ⟨wo.heap.size + 1, 0, none⟩) 0 0) 0 [] := by
            have := OwnL.made (R := U8R) (E := 5) (s := 1) (S := fun _ => False) (base := wo.heap.size + 1) (w := wo.alloc (.cells #[.int .i64 z, .slice B 64 d, .int .i64 e.off, .int .u32 0] 232)) #[] 0 (by simp) (by decide) (by simp)
            simpa only [World.size_alloc] using this
          have hB9 : Below wo.heap.size wo ((wo.alloc (.cells #[.int .i64 z, .slice B 64 d, .int .i64 e.off, .int .u32 0] 232)).alloc (.cells #[] 5)) := ((Below.refl _ _).alloc (Nat.le_refl _) _).alloc (by simp) _
          have rd9 := HR.out.below U8R.stable hB9
          have g9 : Hid (∀ w8, ((wo.alloc (.cells #[.int .i64 z, .slice B 64 d, .int .i64 e.off, .int .u32 0] 232)).alloc (.cells #[] 5)).grownBy w8 (Value.slice (some ⟨wo.heap.size + 1, 0, none⟩) 0 0).ownBlock → Below wo.heap.size wo w8) := Lib.hid fun w8 hg => hB9.trans ⟨hg.os, hg.tape, hg.output, hg.size, fun k hk => hg.block k (by simp; omega) (by simp [Value.ownBlock]; omega)⟩
          have s1 := hW1.out.size
          clear hs hB9 hok1 hl
          go_wp2_with (at_builtin; go_must (refine wpList_appL U8R.stable U8R.one slU8 (by rfl) (by rfl) (base := wo.heap.size + 1) (S := fun _ => False) (by rfl) own0 (by rfl) rd9 (fun _ _ hy => hy) (by decide) (by decide) (by simp) ?_); intro A8 c8 w8 hc8 own8 hg8 hat8)
          have hb8 := g9.out w8 hg8
          have r8 := ownL_u8 own8
          obtain ⟨g8, cap8, e8, _, _⟩ := r8.form (by omega)
          obtain ⟨rfl, rfl⟩ : A8 = some ⟨g8, 0, none⟩ ∧ c8 = cap8 := by simpa using e8
          refine ⟨⟨i + 1, g8, c8, e.b, by omega, by go_num, rfl, Lib.hid HS.out.symm, Lib.hid ?_, Lib.hid (hW1.out.trans (hb8.mono s1))⟩, by simp [intOf]; omega⟩
          have r9 : w8.ownsRow (wo.heap.size + 1) 5 1 (.slice (some ⟨g8, 0, none⟩) 64 c8) 64 (secCells e.b) := r8
          exact ⟨r9.1, r9.2.imp id fun ⟨g, cap, cur, e, hg, r⟩ => ⟨g, cap, cur, e, by omega, r⟩⟩
        · rw [if_neg hm] at hs
          have HS := Lib.hid hs
          have hmf : (e.mask == 0) = false := by simpa using hm
          have hoff : 0 ≤ e.off ∧ e.off ≤ 60 := by
            rcases hok1 with h | h
            · exact absurd h.1 hm
            · exact h.2
          obtain ⟨o, ho⟩ : ∃ o : Nat, e.off = o := ⟨e.off.toNat, by omega⟩
          rw [ho] at y2 hoff HS
          have hge : g < wo.heap.size := (hrow.out.lt g rfl).2
          have s1 := hW1.out.size
          have hg1 : w1.heap.size ≤ g := (hrow.out.lt g rfl).1
          have hlb : bs.length = 64 := by have := hrow.out.1; simpa [secCells] using this
          have Q0 : Hid (BoxAt (wo.alloc (.cells #[.int .i64 z, .slice B mm d, .int .i64 o, .int .u32 e.mask] 232)) wo.heap.size #[.int .i64 z, .slice B mm d, .int .i64 o, .int .u32 e.mask]) := Lib.hid (BoxAt.new _ _ _)
          have O0 : Hid ((wo.alloc (.cells #[.int .i64 z, .slice B mm d, .int .i64 o, .int .u32 e.mask] 232)).ownsRow w1.heap.size 5 1 (.slice (some ⟨g, 0, none⟩) 64 cap) 64 (secCells (rotTo bs o e.mask 0))) := Lib.hid (hrow.out.alloc _)
          have W0 : Hid (Below w1.heap.size w1 (wo.alloc (.cells #[.int .i64 z, .slice B mm d, .int .i64 o, .int .u32 e.mask] 232))) := Lib.hid (hW1.out.alloc s1 _)
          clear hs hok1
          go_wp2_with fail
          go_loopw [8] (fun vk wr => ∃ k : Nat, k ≤ 4 ∧ vk = .int .i64 k ∧ Hid (BoxAt wr wo.heap.size #[.int .i64 z, .slice B mm d, .int .i64 o, .int .u32 e.mask]) ∧ Hid (wr.ownsRow w1.heap.size 5 1 (.slice (some ⟨g, 0, none⟩) 64 cap) 64 (secCells (rotTo bs o e.mask k))) ∧ Hid (Below w1.heap.size w1 wr)) (fun vk _ => 4 - (intOf vk).toNat)
          case atStart => exact ⟨0, Nat.zero_le _, rfl, Q0, O0, W0⟩
          case round =>
            clear Q0 O0 W0 y0 y1 y2 y3 k1
            obtain ⟨k, hk, rfl, Q, O, W⟩ := hrel
            by_cases hk4 : k < 4
            · have hlen : (rotTo bs o e.mask k).length = 64 := by rw [rotTo_len]; exact hlb
              obtain ⟨ov, hov⟩ : ∃ v, (rotTo bs o e.mask k)[o + k]? = some v := ⟨_, List.getElem?_eq_getElem (by omega)⟩
              have q0 : wr.cell? ⟨g, o + k, none⟩ = some (.int .u8 ov) := by rw [O.out.cellAt _ (by omega)]; simp [secCells, hov]
              have q1 := O.out.frozenAt (o + k)
              have q2 : wr.cell? ⟨wo.heap.size, 2, none⟩ = some (.int .i64 (o : Int)) := Q.out.cell 2
              have q3 : wr.cell? ⟨wo.heap.size, 3, none⟩ = some (.int .u32 e.mask) := Q.out.cell 3
              have hne : wo.heap.size ≠ g := by omega
              have hoi : IntKind.i64.wrap ((o : Int) + (k : Int)) = (o : Int) + (k : Int) := by rw [IntKind.wrap_i64]; omega
              have hoj : (0 : Int) ≤ (o : Int) + (k : Int) := by omega
              have hok2 : (o : Int) + (k : Int) < 64 := by omega
              have hot : ((o : Int) + (k : Int)).toNat = o + k := by omega
              have h8 : IntKind.i64.wrap (8 * (k : Int)) = ((8 * k : Nat) : Int) := by rw [IntKind.wrap_i64]; omega
              have h80 : (0 : Int) ≤ ((8 * k : Nat) : Int) := Int.natCast_nonneg _
              have O2 := Lib.hid (O.out.stored (o + k) (.int .u8 (rotV ov e.mask k))).1
              have e2 : (secCells (rotTo bs o e.mask k)).set (o + k) (.int .u8 (rotV ov e.mask k)) = secCells (rotTo bs o e.mask (k + 1)) := by simp [secCells, rotTo, hov, List.map_set]
              rw [e2] at O2
              have Q2 := Lib.hid (Q.out.set_other (p := ⟨g, o + k, none⟩) hne (.int .u8 (rotV ov e.mask k)))
              have W2 := Lib.hid (W.out.setCell (p := ⟨g, o + k, none⟩) hg1 (.int .u8 (rotV ov e.mask k)))
              clear hov hlen e2 O Q W hm hmf ha h1 h2 h3 hlt hg1 hge hlb
              go_wp2_with fail
              refine wp_region_held_drew (S := fun w' => w'.cell? ⟨wo.heap.size, 2, none⟩ = some (.int .i64 (o : Int)) ∧ w'.cell? ⟨wo.heap.size, 3, none⟩ = some (.int .u32 e.mask)) (by kernel_rfl) (by first | exact ⟨q2, q3⟩ | exact ⟨cell_setCell_ne (w := World.drew _) q2 hne, cell_setCell_ne (w := World.drew _) q3 hne⟩) (fun hHeld => ?_)
              refine wpAnyH_take (i := 0) (v := ?_) rfl (by kernel_rfl) (by kernel_rfl) (by kernel_rfl) (fun _ _ _ h => h) (Or.inl ⟨by rfl, ?_⟩) (by assumption) ?_
              rotate_left
              · (intro wq hSw; (try dsimp only at hSw); (try simp only [zz1, zz2, zz3]); go_simp); try with_reducible rfl
              try simp only [zz1, zz2, zz3, Act.put, zz4, zz5, zz6]
              refine wpAnyH_take (i := 1) (v := ?_) rfl (by kernel_rfl) (by kernel_rfl) (by kernel_rfl) (fun _ _ _ h => h) (Or.inl ⟨by rfl, ?_⟩) (by assumption) ?_
              rotate_left
              · (intro wq hSw; (try dsimp only at hSw); (try simp only [zz1, zz2, zz3]); go_simp); try with_reducible rfl
              try simp only [zz1, zz2, zz3, Act.put, zz4, zz5, zz6]
              refine wpAnyH_take (i := 2) (v := ?_) rfl (by kernel_rfl) (by kernel_rfl) (by kernel_rfl) (fun _ _ _ h => h) (Or.inl ⟨by rfl, ?_⟩) (by assumption) ?_
              rotate_left
              · (intro wq hSw; (try dsimp only at hSw); (try simp only [zz1, zz2, zz3]); go_simp); try with_reducible rfl
              try simp only [zz1, zz2, zz3, Act.put, zz4, zz5, zz6]
              refine wpAnyH_take (i := 3) (v := ?_) rfl (by kernel_rfl) (by kernel_rfl) (by kernel_rfl) (fun _ _ _ h => h) (Or.inl ⟨by rfl, ?_⟩) (by assumption) ?_
              rotate_left
              · (intro wq hSw; (try dsimp only at hSw); (try simp only [zz1, zz2, zz3]); go_simp); try with_reducible rfl
              try simp only [zz1, zz2, zz3, Act.put, zz4, zz5, zz6]
              refine wpAnyH_take (i := 4) (v := ?_) rfl (by kernel_rfl) (by kernel_rfl) (by kernel_rfl) (fun _ _ _ h => h) (Or.inl ⟨by rfl, ?_⟩) (by assumption) ?_
              rotate_left
              · (intro wq hSw; (try dsimp only at hSw); (try simp only [zz1, zz2, zz3]); go_simp); try with_reducible rfl
              try simp only [zz1, zz2, zz3, Act.put, zz4, zz5, zz6]
              refine wpAnyH_take (i := 5) (v := ?_) rfl (by kernel_rfl) (by kernel_rfl) (by kernel_rfl) (fun _ _ _ h => h) (Or.inl ⟨by rfl, ?_⟩) (by assumption) ?_
              rotate_left
              · (intro wq hSw; (try dsimp only at hSw); (try simp only [zz1, zz2, zz3]); go_simp); try with_reducible rfl
              try simp only [zz1, zz2, zz3, Act.put, zz4, zz5, zz6]
              refine wpAnyH_take (i := 6) (v := ?_) rfl (by kernel_rfl) (by kernel_rfl) (by kernel_rfl) (fun _ _ _ h => h) (Or.inl ⟨by rfl, ?_⟩) (by assumption) ?_
              rotate_left
              · (intro wq hSw; (try dsimp only at hSw); (try simp only [zz1, zz2, zz3]); go_simp); try with_reducible rfl
              try simp only [zz1, zz2, zz3, Act.put, zz4, zz5, zz6]
              refine wpAnyH_take (i := 7) (v := ?_) rfl (by kernel_rfl) (by kernel_rfl) (by kernel_rfl) (fun _ _ _ h => h) (Or.inl ⟨by rfl, ?_⟩) (by assumption) ?_
              rotate_left
              · (intro wq hSw; (try dsimp only at hSw); (try simp only [zz1, zz2, zz3]); go_simp); try with_reducible rfl
              try simp only [zz1, zz2, zz3, Act.put, zz4, zz5, zz6]
              refine wpAnyH_take (i := 8) (v := ?_) rfl (by kernel_rfl) (by kernel_rfl) (by kernel_rfl) (fun _ _ _ h => h) (Or.inl ⟨by rfl, ?_⟩) (by assumption) ?_
              rotate_left
              · (intro wq hSw; (try dsimp only at hSw); (try simp only [zz1, zz2, zz3]); go_simp); try with_reducible rfl
              try simp only [zz1, zz2, zz3, Act.put, zz4, zz5, zz6]
              refine wpAnyH_take (i := 9) (v := ?_) rfl (by kernel_rfl) (by kernel_rfl) (by kernel_rfl) (fun _ _ _ h => h) (Or.inl ⟨by rfl, ?_⟩) (by assumption) ?_
              rotate_left
              · (intro wq hSw; (try dsimp only at hSw); (try simp only [zz1, zz2, zz3]); go_simp); try with_reducible rfl
              try simp only [zz1, zz2, zz3, Act.put, zz4, zz5, zz6]
              refine wpAnyH_take (i := 10) (v := ?_) rfl (by kernel_rfl) (by kernel_rfl) (by kernel_rfl) (fun _ _ _ h => h) (Or.inl ⟨by rfl, ?_⟩) (by assumption) ?_
              rotate_left
              · (intro wq hSw; (try dsimp only at hSw); (try simp only [zz1, zz2, zz3]); go_simp); try with_reducible rfl
              try simp only [zz1, zz2, zz3, Act.put, zz4, zz5, zz6]
              refine wpAnyH_take (i := 12) (v := ?_) rfl (by kernel_rfl) (by kernel_rfl) (by kernel_rfl) (fun _ _ _ h => h) (Or.inl ⟨by rfl, ?_⟩) (by assumption) ?_
              rotate_left
              · (intro wq hSw; (try dsimp only at hSw); (try simp only [zz1, zz2, zz3]); go_simp); try with_reducible rfl
              try simp only [zz1, zz2, zz3, Act.put, zz4, zz5, zz6]
              refine wpAnyH_take (i := 13) (v := ?_) rfl (by kernel_rfl) (by kernel_rfl) (by kernel_rfl) (fun _ _ _ h => h) (Or.inl ⟨by rfl, ?_⟩) (by assumption) ?_
              rotate_left
              · (intro wq hSw; (try dsimp only at hSw); (try simp only [zz1, zz2, zz3]); go_simp); try with_reducible rfl
              try simp only [zz1, zz2, zz3, Act.put, zz4, zz5, zz6]
              refine wpAnyH_take (i := 14) (v := ?_) rfl (by kernel_rfl) (by kernel_rfl) (by kernel_rfl) (fun _ _ _ h => h) (Or.inl ⟨by rfl, ?_⟩) (by assumption) ?_
              rotate_left
              · (intro wq hSw; (try dsimp only at hSw); (try simp only [zz1, zz2, zz3]); go_simp); try with_reducible rfl
              try simp only [zz1, zz2, zz3, Act.put, zz4, zz5, zz6]
              refine wpAnyH_take (i := 15) (v := ?_) rfl (by kernel_rfl) (by kernel_rfl) (by kernel_rfl) (fun _ _ _ h => h) (Or.inl ⟨by rfl, ?_⟩) (by assumption) ?_
              rotate_left
              · (intro wq hSw; (try dsimp only at hSw); (try simp only [zz1, zz2, zz3]); go_simp); try with_reducible rfl
              try simp only [zz1, zz2, zz3, Act.put, zz4, zz5, zz6]
              refine wpAnyH_take (i := 16) (v := ?_) rfl (by kernel_rfl) (by kernel_rfl) (by kernel_rfl) (fun _ _ _ h => h) (Or.inl ⟨by rfl, ?_⟩) (by assumption) ?_
              rotate_left
              · (intro wq hSw; (try dsimp only at hSw); (try simp only [zz1, zz2, zz3]); go_simp); try with_reducible rfl
              try simp only [zz1, zz2, zz3, Act.put, zz4, zz5, zz6]
              refine wpAnyH_take (i := 17) (v := ?_) rfl (by kernel_rfl) (by kernel_rfl) (by kernel_rfl) (fun _ _ _ h => h) (Or.inl ⟨by rfl, ?_⟩) (by assumption) ?_
              rotate_left
              · (intro wq hSw; (try dsimp only at hSw); (try simp only [zz1, zz2, zz3]); go_simp); try with_reducible rfl
              try simp only [zz1, zz2, zz3, Act.put, zz4, zz5, zz6]
              refine wpAnyH_take (i := 18) (v := ?_) rfl (by kernel_rfl) (by kernel_rfl) (by kernel_rfl) (fun _ _ _ h => h) (Or.inl ⟨by rfl, ?_⟩) (by assumption) ?_
              rotate_left
              · (intro wq hSw; (try dsimp only at hSw); (try simp only [zz1, zz2, zz3]); go_simp); try with_reducible rfl
              try simp only [zz1, zz2, zz3, Act.put, zz4, zz5, zz6]
              refine rdH 11 rfl fun K hK => ?_
              try simp only [zz1, zz2, zz3]
              go_simp
              refine hK.out _ _ (by first | exact ⟨q2, q3⟩ | exact ⟨cell_setCell_ne (w := World.drew _) q2 hne, cell_setCell_ne (w := World.drew _) q3 hne⟩) (fun hHeld => ?_)
              clear hK K
              try simp only [zz1, zz2, zz3, Act.put, zz4, zz5, zz6]
              refine wpAnyH_take (i := 19) (v := ?_) rfl (by kernel_rfl) (by kernel_rfl) (by kernel_rfl) (fun _ _ _ h => h) (Or.inl ⟨by rfl, ?_⟩) (by assumption) ?_
              rotate_left
              · (intro wq hSw; (try dsimp only at hSw); (try simp only [zz1, zz2, zz3]); go_simp); try with_reducible rfl
              try simp only [zz1, zz2, zz3, Act.put, zz4, zz5, zz6]
              refine wpAnyH_take (i := 20) (v := ?_) rfl (by kernel_rfl) (by kernel_rfl) (by kernel_rfl) (fun _ _ _ h => h) (Or.inl ⟨by rfl, ?_⟩) (by assumption) ?_
              rotate_left
              · (intro wq hSw; (try dsimp only at hSw); (try simp only [zz1, zz2, zz3]); go_simp); try with_reducible rfl
              try simp only [zz1, zz2, zz3, Act.put, zz4, zz5, zz6]
              refine rdH 21 rfl fun K hK => ?_
              try simp only [zz1, zz2, zz3]
              go_simp
              refine hK.out _ _ (by first | exact ⟨q2, q3⟩ | exact ⟨cell_setCell_ne (w := World.drew _) q2 hne, cell_setCell_ne (w := World.drew _) q3 hne⟩) (fun hHeld => ?_)
              clear hK K
              try simp only [zz1, zz2, zz3, Act.put, zz4, zz5, zz6]
              refine wpAnyH_done (by kernel_rfl) ?_ _
              go_wp2_with fail
              rw [show min (8 * k) 32 = 8 * k by omega, ← rotV_eq]
              exact ⟨⟨k + 1, by omega, by go_num, Lib.hid Q2.out, Lib.hid O2.out, Lib.hid W2.out.drew⟩, by simp [intOf]; omega⟩
            · obtain rfl : k = 4 := by omega
              go_wp2_with fail
              refine ⟨⟨i + 1, g, cap, _, by omega, by go_num, rfl, Lib.hid ?_, O, W⟩, by simp [intOf]; omega⟩
              rw [HS.out, hbs.out]; rfl
      · rw [if_neg ha] at hs
        have HS := Lib.hid hs
        have haf : (e.at_ != (z : Int)) = true := by simpa using ha
        have s1 := hW1.out.size
        clear hs hee
        go_wp2_with fail
        exact ⟨⟨i + 1, g, cap, bs, by omega, by go_num, rfl, Lib.hid (hbs.out.trans HS.out.symm), Lib.hid (hrow.out.alloc _), Lib.hid (hW1.out.alloc s1 _)⟩, by simp [intOf]; omega⟩
    · obtain rfl : i = rs.L.length := by omega
      have h1 : ¬ (rs.L.length : Int) < (rs.L.length : Int) := by omega
      obtain ⟨k1, _⟩ := kL.out wo hW1.out
      go_wp2_with fail
      go_ret
      have hf := hrow.out.lt g rfl
      have hr := row_rdZ hrow.out
      obtain ⟨b, o, e0, _, _, hx⟩ := u8_exact hr (by omega)
      obtain ⟨rfl, rfl⟩ : g = b ∧ 0 = o := by simpa using e0
      rw [hbs.out, List.take_length] at hx
      have hcp : 64 ≤ cap := by
        rcases hrow.out.2 with ⟨h9, _⟩ | ⟨_, cap', _, h9, _, _, hcc, _⟩
        · cases h9
        · injection h9 with _ _ h8; omega
      exact ⟨g, cap, rfl, by omega, hf.2, hx, T1.out.trans (hW1.out.mono hw1s), hcp⟩

end
section
attribute [local go_sem ↓] shut_build shut_slice

/-- What waits for k, newest first, in front of `d`. -/
def waitE (l : List Ev) (k : Int) (d : List Int) : List Int := l.foldl (fun b e => if e.at_ = k then e.b else b) d
theorem waitE_snoc (l : List Ev) (e : Ev) (k : Int) (d : List Int) : waitE (l ++ [e]) k d = if e.at_ = k then e.b else waitE l k d := by simp [waitE]
def seenE (rs : RSt) (k : Int) : List Int := waitE rs.wait k (storedE rs.L k)

set_option maxRecDepth 100000 in
theorem rread_gone {G : Nat → Prop} {w : World} {x n : Nat} {rs : RSt} (h : Hid (RefAt G w x n rs)) (hd : rs.gone = true) (z : Int) :
    Calls Tryz.prog 197 #[.pointer (some ⟨x, 0, none⟩), .int .i64 z] w fun e w' => e = .returned (.tuple #[.slice none 0 0, .int .i64 90]) ∧ Below w.heap.size w w' := by
  obtain ⟨Sb, vL, vW, hB, _⟩ := h.out
  obtain ⟨k0, k1, k2, k3⟩ := ref_cells hB
  clear hB
  rw [hd] at k3
  go_enter Tryz.func197, Tryz.ntmps197
  go_wp2_with fail
  go_ret2
  exact ⟨rfl, Below.refl _ _⟩

set_option maxRecDepth 100000 in
set_option maxHeartbeats 4000000 in
theorem rread_good {G : Nat → Prop} {w : World} {x n : Nat} {rs : RSt} (h : Hid (RefAt G w x n rs)) (hd : rs.gone = false) (z : Nat) (hz : z < n) (hcl : rs.L.length < 1000000) (hcw : rs.wait.length < 1000000) (hok : Hid (∀ e ∈ rs.L, EvOk e)) (hw64 : Hid (∀ e ∈ rs.wait, e.b.length = 64)) :
    Calls Tryz.prog 197 #[.pointer (some ⟨x, 0, none⟩), .int .i64 z] w fun e w' => ∃ A c, e = .returned (.tuple #[.slice A 64 c, .int .i64 0]) ∧ RdL U8R 1 (fun _ => True) w' A 64 (seenE rs z) ∧ Below w.heap.size w w' ∧ 64 ≤ c := by
  obtain ⟨Sb, vL, vW, hB, _⟩ := h.out
  obtain ⟨k0, k1, k2, k3⟩ := ref_cells hB
  clear hB
  rw [hd] at k3
  have e1 : decide (0 ≤ (z : Int) ∧ (z : Int) < n) = true := by simp; omega
  go_enter Tryz.func197, Tryz.ntmps197
  go_wp2_with fail
  refine (rhas_any h z).mono ?_
  rintro e w1 ⟨rfl, t1⟩
  rw [e1]
  clear e1 k0 k1 k2 k3
  have H1 := Lib.hid (h.out.below t1)
  obtain ⟨Sb, vL, vW, hB, g1, g2, g3, g4, lt⟩ := H1.out
  obtain ⟨AW, cW, rfl⟩ := ownL_form hB.oW
  have k2 : w1.cell? ⟨x, 2, none⟩ = some (.slice AW rs.wait.length cW) := hB.box.cell 2
  have OW := Lib.hid hB.oW
  have T1 := Lib.hid t1
  have hw1s := t1.size
  have hsub : IntKind.i64.wrap ((rs.wait.length : Int) - 1) = (rs.wait.length : Int) - 1 := by rw [IntKind.wrap_i64]; omega
  clear hB t1
  go_wp2_with fail
  clear hsub
  go_loopw [6] (fun vi wr => ∃ i : Nat, i ≤ rs.wait.length ∧ vi = .int .i64 ((i : Int) - 1) ∧ wr = w1 ∧ Hid (seenE rs z = waitE (rs.wait.take i) z (storedE rs.L z))) (fun vi _ => (intOf vi + 1).toNat)
  case atStart => exact ⟨rs.wait.length, Nat.le_refl _, rfl, rfl, Lib.hid (by rw [List.take_length]; rfl)⟩
  case round =>
    obtain ⟨i, hi, rfl, rfl, hs⟩ := hrel
    match i, hi, hs with
    | 0, _, hs =>
      have h1 : decide ((0 : Int) ≤ ((0 : Nat) : Int) - 1) = false := by decide
      go_wp2_with fail
      refine (rstored_good H1 hd z hz hcl hok).mono ?_
      rintro e w2 ⟨g, c, rfl, _, _, hr, t2, hc64⟩
      go_wp2_with fail
      go_ret2
      refine ⟨_, c, rfl, ?_, T1.out.trans (t2.mono hw1s), hc64⟩
      rw [hs.out]
      exact hr.weaken U8R.stable (fun _ _ => trivial)
    | i + 1, hi, hs =>
      have hlt : i < rs.wait.length := by omega
      have h0 : ((i + 1 : Nat) : Int) - 1 = (i : Int) := by omega
      rw [h0]
      have h1 : (i : Int) < (rs.wait.length : Int) := by omega
      have h2 : (0 : Int) ≤ (i : Int) := Int.natCast_nonneg _
      have h3 : (i : Int) < 1000000 := by omega
      have hsub : IntKind.i64.wrap ((i : Int) - 1) = (i : Int) - 1 := by rw [IntKind.wrap_i64]; omega
      obtain ⟨ge, e, B, mm, d, rfl, he, hre, y0, y1, y2, y3, hmmd⟩ := ev_at2 OW.out hlt
      have HMD := Lib.hid hmmd
      clear hmmd
      have hee := hw64.out e (List.mem_of_getElem? he)
      have htk : rs.wait.take (i + 1) = rs.wait.take i ++ [e] := by rw [List.take_succ_eq_append_getElem hlt, (List.getElem?_eq_some_iff.1 he).2]
      have hs2 := hs.out
      rw [htk, waitE_snoc] at hs2
      obtain rfl : mm = 64 := hre.1.symm.trans hee
      have HR := Lib.hid hre
      clear hre he htk hee h0
      by_cases ha : e.at_ = z
      · rw [if_pos ha] at hs2
        have HS := Lib.hid hs2
        rw [ha] at y0
        clear hs2
        go_wp2_with fail
        go_ret2
        refine ⟨_, d, rfl, ?_, T1.out, HMD.out⟩
        rw [HS.out]
        exact HR.out.weaken U8R.stable (fun _ _ => trivial)
      · rw [if_neg ha] at hs2
        have HS := Lib.hid hs2
        have haf : (e.at_ == (z : Int)) = false := by simpa using ha
        clear hs2
        go_wp2_with fail
        exact ⟨⟨i, by omega, rfl, trivial, HS⟩, by simp [intOf]⟩
end
section

theorem RefAt.rupd {G : Nat → Prop} {w w' : World} {x n : Nat} {rs : RSt} (h : RefAt G w x n rs) (hb : Below w.heap.size w w') : RUpd G w w' x n rs := ⟨G, h.below hb, fun _ hk _ => hk, Keep.of_below hb⟩
def wrOk (rs : RSt) (n : Nat) (z : Int) (m : Nat) : Prop := rs.gone = false ∧ (0 ≤ z ∧ z < n) ∧ m = 64
instance (rs : RSt) (n : Nat) (z : Int) (m : Nat) : Decidable (wrOk rs n z m) := by unfold wrOk; infer_instance
instance (rs : RSt) (n : Nat) (z off mask : Int) : Decidable (rrotOk rs n z off mask) := by unfold rrotOk; infer_instance
/-- A drive and the document's, apart. -/
structure Two (F G : Nat → Prop) (w : World) (p x n : Nat) (st : DSt) (rs : RSt) : Prop where
  d : DrvAt F w p n st
  r : RefAt G w x n rs
  fg : ∀ k, F k → ¬ G k
/-- Both went on since w. -/
def Both (F G : Nat → Prop) (w w' : World) (p x n : Nat) (st : DSt) (rs : RSt) : Prop := ∃ F' G', Two F' G' w' p x n st rs ∧ (∀ k, F' k → k < w.heap.size → F k) ∧ (∀ k, G' k → k < w.heap.size → G k) ∧ Keep (fun k => F k ∨ G k) w w'
theorem Two.both {F G : Nat → Prop} {w : World} {p x n : Nat} {st : DSt} {rs : RSt} (h : Two F G w p x n st rs) : Both F G w w p x n st rs := ⟨F, G, h, fun _ h _ => h, fun _ h _ => h, Keep.refl _ _⟩
theorem drvAt_lt {F : Nat → Prop} {w : World} {p n : Nat} {st : DSt} (h : DrvAt F w p n st) {k : Nat} (hk : F k) : k < w.heap.size := by
  obtain ⟨_, _, _, _, _, _, _, _, _, _, _, _, _, lt⟩ := h; exact lt k hk
theorem Two.below {F G : Nat → Prop} {w w' : World} {p x n : Nat} {st : DSt} {rs : RSt} (h : Two F G w p x n st rs) (hb : Below w.heap.size w w') : Two F G w' p x n st rs := ⟨h.d.below hb, h.r.below hb, h.fg⟩
theorem Two.drv {F G : Nat → Prop} {w w' : World} {p x n : Nat} {st st' : DSt} {rs : RSt} (h : Two F G w p x n st rs) (hu : Upd F w w' p n st') : ∃ F', Two F' G w' p x n st' rs ∧ (∀ k, F' k → k < w.heap.size → F k) ∧ Keep F w w' := by
  obtain ⟨F', hD, hF, hK⟩ := hu
  refine ⟨F', ⟨hD, h.r.keep hK (fun k hg hf => h.fg k hf hg), fun k hf hg => ?_⟩, hF, hK⟩
  exact h.fg k (hF k hf (h.r.lt hg)) hg
theorem Two.ref {F G : Nat → Prop} {w w' : World} {p x n : Nat} {st : DSt} {rs rs' : RSt} (h : Two F G w p x n st rs) (hu : RUpd G w w' x n rs') : ∃ G', Two F G' w' p x n st rs' ∧ (∀ k, G' k → k < w.heap.size → G k) ∧ Keep G w w' := by
  obtain ⟨G', hD, hG, hK⟩ := hu
  refine ⟨G', ⟨h.d.keep hK (fun k hf hg => h.fg k hf hg), hD, fun k hf hg => ?_⟩, hG, hK⟩
  exact h.fg k hf (hG k hg (drvAt_lt h.d hf))
end
section

section
variable {d bad : Bool} {n : Nat} {z off mask : Int}
end
set_option maxRecDepth 100000 in
theorem rwrite_code {G : Nat → Prop} {w : World} {x n : Nat} {rs : RSt} (h : Hid (RefAt G w x n rs)) (z : Int) (A : Option Addr) (m c : Nat) (hz : ¬ (rs.gone = false ∧ (0 ≤ z ∧ z < n) ∧ m = 64)) :
    Calls Tryz.prog 146 #[.pointer (some ⟨x, 0, none⟩), .int .i64 z, .slice A m c] w fun e w' => e = .returned (.int .i64 (writeE rs.gone n z m)) ∧ Below w.heap.size w w' := by
  obtain ⟨Sb, vL, vW, hB, _⟩ := h.out
  obtain ⟨k0, k1, k2, k3⟩ := ref_cells hB
  clear hB
  cases hd : rs.gone with
  | true =>
    rw [hd] at k3
    have HE := Lib.hid (show writeE true n z m = 90 by simp [writeE, readyE])
    go_enter Tryz.func146, Tryz.ntmps146
    go_wp2_with fail
    go_ret
    exact ⟨by rw [HE.out]; rfl, Below.refl _ _⟩
  | false =>
    rw [hd] at k3
    by_cases h0 : 0 ≤ z ∧ z < n
    · have e1 : decide (0 ≤ z ∧ z < (n : Int)) = true := by simpa using h0
      have hm : ¬ (m : Int) = 64 := fun e => hz ⟨hd, h0, by omega⟩
      have hm2 : ((m : Int) == 64) = false := by simpa using hm
      have hm3 : ((m : Int) != 64) = true := by simpa using hm
      have HE := Lib.hid (show writeE false n z m = 2 by unfold writeE readyE; simp [h0]; omega)
      clear hz
      go_enter Tryz.func146, Tryz.ntmps146
      go_wp2_with fail
      refine (rhas_any h z).mono ?_
      rintro e w1 ⟨rfl, h1⟩
      rw [e1]
      clear e1 h0
      go_wp2_with fail
      go_ret
      exact ⟨by rw [HE.out]; rfl, h1⟩
    · have e1 : decide (0 ≤ z ∧ z < (n : Int)) = false := by simpa using h0
      have HE := Lib.hid (show writeE false n z m = 2 by unfold writeE readyE; simp [h0])
      clear hz
      go_enter Tryz.func146, Tryz.ntmps146
      go_wp2_with fail
      refine (rhas_any h z).mono ?_
      rintro e w1 ⟨rfl, h1⟩
      rw [e1]
      clear e1 h0
      go_wp2_with fail
      go_ret
      exact ⟨by rw [HE.out]; rfl, h1⟩


set_option maxRecDepth 100000 in
set_option maxHeartbeats 4000000 in
theorem rrot_code {G : Nat → Prop} {w : World} {x n : Nat} {rs : RSt} (h : Hid (RefAt G w x n rs)) (z off mask : Int) (hcl : rs.L.length < 1000000) (hz : ¬ rrotOk rs n z off mask) :
    Calls Tryz.prog 112 #[.pointer (some ⟨x, 0, none⟩), .int .i64 z, .int .i64 off, .int .u32 mask] w fun e w' => e = .returned (.int .i64 (rotC rs.gone n z off mask (badE rs.L z))) ∧ Below w.heap.size w w' := by
  obtain ⟨Sb, vL, vW, hB, _⟩ := h.out
  obtain ⟨k0, k1, k2, k3⟩ := ref_cells hB
  clear hB
  cases hd : rs.gone with
  | true =>
    rw [hd] at k3
    have HE := Lib.hid (show rotC true n z off mask (badE rs.L z) = 90 by rw [rotC_ready (by simp [readyE])]; simp [readyE])
    go_enter Tryz.func112, Tryz.ntmps112
    go_wp2_with fail
    go_ret
    exact ⟨by rw [HE.out]; rfl, Below.refl _ _⟩
  | false =>
    rw [hd] at k3
    by_cases h0 : 0 ≤ z ∧ z < n
    · have e1 : decide (0 ≤ z ∧ z < (n : Int)) = true := by simpa using h0
      by_cases h1 : off < 0
      · have d1 : decide (off < 0) = true := by simpa using h1
        have HE := Lib.hid (show rotC false n z off mask (badE rs.L z) = 2 from rotC_arg (by simp [readyE, h0]) (fun h => by omega))
        clear hz
        go_enter Tryz.func112, Tryz.ntmps112
        go_wp2_with fail
        refine (rhas_any h z).mono ?_
        rintro e w1 ⟨rfl, t1⟩
        rw [e1]
        clear e1 h0
        go_wp2_with fail
        go_ret
        exact ⟨by rw [HE.out]; rfl, t1⟩
      have d1 : decide (off < 0) = false := by simpa using h1
      by_cases h2 : 60 < off
      · have d2 : decide (60 < off) = true := by simpa using h2
        have HE := Lib.hid (show rotC false n z off mask (badE rs.L z) = 2 from rotC_arg (by simp [readyE, h0]) (fun h => by omega))
        clear hz
        go_enter Tryz.func112, Tryz.ntmps112
        go_wp2_with fail
        refine (rhas_any h z).mono ?_
        rintro e w1 ⟨rfl, t1⟩
        rw [e1]
        clear e1 h0
        go_wp2_with fail
        go_ret
        exact ⟨by rw [HE.out]; rfl, t1⟩
      have d2 : decide (60 < off) = false := by simpa using h2
      by_cases h3 : mask = 0
      · have d3 : (mask == 0) = true := by simpa using h3
        have HE := Lib.hid (show rotC false n z off mask (badE rs.L z) = 2 from rotC_arg (by simp [readyE, h0]) (fun h => h.2 h3))
        clear hz h3
        go_enter Tryz.func112, Tryz.ntmps112
        go_wp2_with fail
        refine (rhas_any h z).mono ?_
        rintro e w1 ⟨rfl, t1⟩
        rw [e1]
        clear e1 h0
        go_wp2_with fail
        go_ret
        exact ⟨by rw [HE.out]; rfl, t1⟩
      have d3 : (mask == 0) = false := by simpa using h3
      have hbad : badE rs.L z = true := by
        cases hb : badE rs.L z with
        | true => rfl
        | false => exact absurd ⟨hd, h0, ⟨by omega, by omega⟩, h3, hb⟩ hz
      have HBd := Lib.hid (show (!rs.gone && badE rs.L z) = true by rw [hd, hbad]; rfl)
      have HE := Lib.hid (show rotC false n z off mask (badE rs.L z) = 91 from rotC_bad (by simp [readyE, h0]) ⟨⟨by omega, by omega⟩, h3⟩ hbad)
      clear hz hbad
      go_enter Tryz.func112, Tryz.ntmps112
      go_wp2_with fail
      refine (rhas_any h z).mono ?_
      rintro e w1 ⟨rfl, t1⟩
      rw [e1]
      clear e1 h0
      have H1 := Lib.hid (h.out.below t1)
      go_wp2_with fail
      refine (rrotten_any H1 z hcl).mono ?_
      rintro e w2 ⟨rfl, t2⟩
      rw [HBd.out]
      have t12 := t1.trans (t2.mono t1.size)
      clear H1 t1 t2
      go_wp2_with fail
      go_ret
      exact ⟨by rw [HE.out]; rfl, t12⟩
    · have e1 : decide (0 ≤ z ∧ z < (n : Int)) = false := by simpa using h0
      have HE := Lib.hid (show rotC false n z off mask (badE rs.L z) = 2 by rw [rotC_ready (by simp [readyE, h0])]; simp [readyE, h0])
      clear hz
      go_enter Tryz.func112, Tryz.ntmps112
      go_wp2_with fail
      refine (rhas_any h z).mono ?_
      rintro e w1 ⟨rfl, h1⟩
      rw [e1]
      clear e1 h0
      go_wp2_with fail
      go_ret
      exact ⟨by rw [HE.out]; rfl, h1⟩


/-- Write, with its code. -/
theorem rwrite_exact {G : Nat → Prop} {w : World} {x n : Nat} {rs : RSt} (h : Hid (RefAt G w x n rs)) (z : Int) {S0 : Nat → Prop} {A : Option Addr} {m c : Nat} {bs : List Int} (hb : Hid (RdL U8R 1 S0 w A m bs)) (hcl : rs.wait.length < 1000000) :
    Calls Tryz.prog 146 #[.pointer (some ⟨x, 0, none⟩), .int .i64 z, .slice A m c] w fun e w' => e = .returned (.int .i64 (writeE rs.gone n z m)) ∧ RUpd G w w' x n (if wrOk rs n z m then { rs with wait := rs.wait ++ [⟨z, bs, 0, 0⟩] } else rs) := by
  by_cases hok : wrOk rs n z m
  · obtain ⟨hd, hz, rfl⟩ := id hok
    obtain ⟨k, rfl⟩ : ∃ k : Nat, z = k := ⟨z.toNat, by omega⟩
    refine (rwrite_good h hd k (by omega) hb hcl).mono ?_
    rintro e w' ⟨rfl, hu⟩
    rw [if_pos hok]
    exact ⟨by rw [hd]; simp [writeE, readyE, hz], hu⟩
  · refine (rwrite_code h z A m c hok).mono ?_
    rintro e w' ⟨rfl, hu⟩
    rw [if_neg hok]
    exact ⟨rfl, h.out.rupd hu⟩
theorem rflush_exact {G : Nat → Prop} {w : World} {x n : Nat} {rs : RSt} (h : Hid (RefAt G w x n rs)) (hcl : rs.L.length + rs.wait.length < 1000000) :
    Calls Tryz.prog 104 #[.pointer (some ⟨x, 0, none⟩)] w fun e w' => e = .returned (.int .i64 (if rs.gone then 90 else 0)) ∧ RUpd G w w' x n (if rs.gone = false then { rs with L := rs.L ++ rs.wait, wait := [] } else rs) := by
  cases hd : rs.gone with
  | false =>
    refine (rflush_good h hd hcl).mono ?_
    rintro e w' ⟨rfl, hu⟩
    rw [hd] at hu
    exact ⟨rfl, hu⟩
  | true =>
    refine (rflush_gone h hd).mono ?_
    rintro e w' ⟨rfl, hu⟩
    exact ⟨rfl, h.out.rupd hu⟩
theorem rrot_exact {G : Nat → Prop} {w : World} {x n : Nat} {rs : RSt} (h : Hid (RefAt G w x n rs)) (z off mask : Int) (hcl : rs.L.length < 1000000) :
    Calls Tryz.prog 112 #[.pointer (some ⟨x, 0, none⟩), .int .i64 z, .int .i64 off, .int .u32 mask] w fun e w' => e = .returned (.int .i64 (rotC rs.gone n z off mask (badE rs.L z))) ∧ RUpd G w w' x n (if rrotOk rs n z off mask then { rs with L := rs.L ++ [⟨z, [], off, mask⟩] } else rs) := by
  by_cases hz : rrotOk rs n z off mask
  · refine (rrot_good h z off mask hcl hz).mono ?_
    rintro e w' ⟨rfl, hu⟩
    rw [if_pos hz]
    exact ⟨by rw [rotC_ok (by rw [hz.1]; simp [readyE, hz.2.1]) ⟨hz.2.2.1, hz.2.2.2.1⟩ hz.2.2.2.2], hu⟩
  · refine (rrot_code h z off mask hcl hz).mono ?_
    rintro e w' ⟨rfl, hu⟩
    rw [if_neg hz]
    exact ⟨rfl, h.out.rupd hu⟩
end
section

section
variable {U : Nat → Prop} {w : World} {a s : Nat} {v : Value} {Fs : Nat → Nat → Prop} {ps : List Nat} {sts : List DSt}
/-! ### All of them, one by one -/
end
end
section

/-- Each drive is as new, or dead. -/
def NewOrGone (s : Nat) (sts : List DSt) : Prop := ∀ st ∈ sts, st = DSt.new s ∨ st = DSt.gone s
theorem NewOrGone.rep (n s : Nat) : NewOrGone s (List.replicate n (DSt.new s)) := fun st h => .inl (List.eq_of_mem_replicate h)
theorem NewOrGone.fail {s : Nat} {sts : List DSt} (h : NewOrGone s sts) (d : Int) : NewOrGone s (failA s sts d) := by
  unfold failA
  split
  · intro st hst
    rcases List.mem_or_eq_of_mem_set hst with h1 | h1
    · exact h st h1
    · exact .inr h1
  · exact h
theorem NewOrGone.cache {s : Nat} {sts : List DSt} (h : NewOrGone s sts) : ∀ st ∈ sts, st.cache.length < 1000000 := by
  intro st hst
  rcases h st hst with rfl | rfl <;> simp [DSt.new, DSt.gone]

section
variable {s z : Nat} {x : List Int}
end

/-- Two arrays apart, made since w0; what lies in [B, Q) is neither's. -/
structure Duo (w0 : World) (B Q : Nat) (U V : Nat → Prop) (wr : World) (a b s : Nat) (sa sb : List DSt) : Prop where
  da : ArrAt U wr a s sa
  db : ArrAt V wr b s sb
  dis : ∀ k, U k → ¬ V k
  u1 : ∀ k, U k → w0.heap.size ≤ k
  u2 : ∀ k, U k → k < Q → k < B
  v1 : ∀ k, V k → Q ≤ k
  below : Below w0.heap.size w0 wr
  hQ : Q ≤ wr.heap.size
  h0 : w0.heap.size ≤ Q
theorem Duo.later {w0 : World} {B Q : Nat} {U V : Nat → Prop} {wr w2 : World} {a b s : Nat} {sa sb : List DSt} (h : Duo w0 B Q U V wr a b s sa sb) (hb : Below wr.heap.size wr w2) : Duo w0 B Q U V w2 a b s sa sb :=
  ⟨h.da.below hb, h.db.below hb, h.dis, h.u1, h.u2, h.v1, h.below.trans (hb.mono h.below.size), Nat.le_trans h.hQ hb.size, h.h0⟩
/-- Two rows that grow side by side. -/
structure Pair (B : Nat) (w : World) (vA vK : Value) (i j : Nat) (la : List (List Int)) (lk : List (List Bool)) (SA SK : Nat → Prop) : Prop where
  oA : OwnL BytesR 68 1 B SA w vA i la
  oK : OwnL BoolsR 118 1 B SK w vK j lk
  sa : ∀ b, SA b → B ≤ b ∧ b < w.heap.size ∧ some b ≠ vA.ownBlock ∧ some b ≠ vK.ownBlock
  sk : ∀ b, SK b → B ≤ b ∧ b < w.heap.size ∧ some b ≠ vA.ownBlock ∧ some b ≠ vK.ownBlock
  ne : vA.ownBlock = none ∨ vA.ownBlock ≠ vK.ownBlock
theorem Pair.nil_ (B : Nat) (w : World) : Pair B w (.slice none 0 0) (.slice none 0 0) 0 0 [] [] (fun _ => False) (fun _ => False) :=
  ⟨OwnL.nil_, OwnL.nil_, fun _ h => h.elim, fun _ h => h.elim, .inl rfl⟩
theorem Pair.later {B : Nat} {w w2 : World} {vA vK : Value} {i j : Nat} {la : List (List Int)} {lk : List (List Bool)} {SA SK : Nat → Prop} (h : Pair B w vA vK i j la lk SA SK) (hb : Below w.heap.size w w2) : Pair B w2 vA vK i j la lk SA SK :=
  ⟨h.oA.keep BytesR.stable hb, h.oK.keep BoolsR.stable hb, fun b hs => ⟨(h.sa b hs).1, Nat.lt_of_lt_of_le (h.sa b hs).2.1 hb.size, (h.sa b hs).2.2⟩, fun b hs => ⟨(h.sk b hs).1, Nat.lt_of_lt_of_le (h.sk b hs).2.1 hb.size, (h.sk b hs).2.2⟩, h.ne⟩
end
section

end
section
attribute [local go_sem ↓] run_min_as run_max_as

structure ActA where
  kind : Int
  d : Int
  at_ : Int
  off : Int
  c : Int
  mask : Int
  keep : List (List Bool)
def ActAR (S : Nat → Prop) (w : World) (cs : List Value) (a : ActA) : Prop := ∃ KA km kc, cs = [.int .i64 a.kind, .int .i64 a.d, .int .i64 a.at_, .int .i64 a.off, .int .u8 a.c, .int .u32 a.mask, .slice KA km kc] ∧ RdL BoolsR 1 S w KA km a.keep
theorem ActAR.stable : Stable ActAR := by
  rintro S S' w w' cs e ⟨KA, km, kc, rfl, h1⟩ hk
  exact ⟨KA, km, kc, rfl, h1.stable BoolsR.stable hk⟩
end
section
attribute [local go_sem ↓] run_min_as run_max_as

end
section

structure RArrB (U : Nat → Prop) (w : World) (a : Nat) (v : Value) (Fs : Nat → Nat → Prop) (ps : List Nat) (s : Nat) (sts : List RSt) : Prop where
  box : BoxAt w a #[v]
  own : OwnL PtrR 97 1 0 (fun _ => False) w v ps.length ps
  len : sts.length = ps.length
  drv : ∀ i p st, ps[i]? = some p → sts[i]? = some st → RefAt (Fs i) w p s st
  apart : ∀ i j k, Fs i k → Fs j k → i = j
  va : v.ownBlock ≠ some a
  fx : ∀ i k, Fs i k → k ≠ a ∧ v.ownBlock ≠ some k
  ua : U a
  uv : ∀ k, v.ownBlock = some k → U k
  uf : ∀ i k, Fs i k → U k
  lt : ∀ k, U k → k < w.heap.size
def RArrAt (U : Nat → Prop) (w : World) (a s : Nat) (sts : List RSt) : Prop := ∃ v Fs ps, RArrB U w a v Fs ps s sts
def RAUpd (U : Nat → Prop) (w w' : World) (a s : Nat) (sts : List RSt) : Prop := ∃ U', RArrAt U' w' a s sts ∧ (∀ k, U' k → k < w.heap.size → U k) ∧ Keep U w w'

theorem RArrB.keep {U G : Nat → Prop} {w w' : World} {a s : Nat} {v : Value} {Fs : Nat → Nat → Prop} {ps : List Nat} {sts : List RSt} (h : RArrB U w a v Fs ps s sts) (hk : Keep G w w') (hd : ∀ k, U k → ¬ G k) : RArrB U w' a v Fs ps s sts := by
  have hh : ∀ k, U k → w'.heap[k]? = w.heap[k]? := fun k hu => hk.block k (h.lt k hu) (hd k hu)
  refine ⟨h.box.keep (hh a h.ua), ?_, h.len, fun i p st h1 h2 => (h.drv i p st h1 h2).keep hk (fun k hf => hd k (h.uf i k hf)), h.apart, h.va, h.fx, h.ua, h.uv, h.uf, fun k hu => Nat.lt_of_lt_of_le (h.lt k hu) hk.size⟩
  obtain ⟨css, h1, h2, h3, h4, h5⟩ := h.own
  exact ⟨css, ownsRow_keep h1 (fun k hk2 => hh k (h.uv k hk2)), h2, h3, h4, fun i cs x hc hx => h5 i cs x hc hx⟩
theorem RArrB.below {U : Nat → Prop} {w w' : World} {a s : Nat} {v : Value} {Fs : Nat → Nat → Prop} {ps : List Nat} {sts : List RSt} (h : RArrB U w a v Fs ps s sts) (hk : Below w.heap.size w w') : RArrB U w' a v Fs ps s sts := h.keep (Keep.of_below (F := fun _ => False) hk) (fun _ _ h => h)
theorem RArrAt.keep {U G : Nat → Prop} {w w' : World} {a s : Nat} {sts : List RSt} (h : RArrAt U w a s sts) (hk : Keep G w w') (hd : ∀ k, U k → ¬ G k) : RArrAt U w' a s sts := by
  obtain ⟨v, Fs, ps, h⟩ := h; exact ⟨v, Fs, ps, h.keep hk hd⟩
theorem RArrAt.below {U : Nat → Prop} {w w' : World} {a s : Nat} {sts : List RSt} (h : RArrAt U w a s sts) (hk : Below w.heap.size w w') : RArrAt U w' a s sts := by
  obtain ⟨v, Fs, ps, h⟩ := h; exact ⟨v, Fs, ps, h.below hk⟩
theorem RArrAt.lt {U : Nat → Prop} {w : World} {a s : Nat} {sts : List RSt} (h : RArrAt U w a s sts) {k : Nat} (hk : U k) : k < w.heap.size := by
  obtain ⟨v, Fs, ps, h⟩ := h; exact h.lt k hk
theorem RArrAt.upd {U : Nat → Prop} {w w' : World} {a s : Nat} {sts : List RSt} (h : RArrAt U w a s sts) (hk : Below w.heap.size w w') : RAUpd U w w' a s sts := ⟨U, h.below hk, fun _ h _ => h, Keep.of_below hk⟩
theorem RAUpd.trans {U U1 : Nat → Prop} {w w1 w2 : World} {a s : Nat} {sts : List RSt} (hU : ∀ k, U1 k → k < w.heap.size → U k) (hK : Keep U w w1) (h : RAUpd U1 w1 w2 a s sts) : RAUpd U w w2 a s sts := by
  obtain ⟨U2, hA, h2, hK2⟩ := h
  exact ⟨U2, hA, fun k h1 hlt => hU k (h2 k h1 (Nat.lt_of_lt_of_le hlt hK.size)) hlt, hK.trans hK2 (fun k h hlt => hU k h hlt)⟩
/-- One drive went on. -/
theorem RArrB.upd1 {U : Nat → Prop} {w w' : World} {a s : Nat} {v : Value} {Fs : Nat → Nat → Prop} {ps : List Nat} {sts : List RSt} (h : RArrB U w a v Fs ps s sts) {i p : Nat} {st' : RSt} (hp : ps[i]? = some p) (hu : RUpd (Fs i) w w' p s st') :
    ∃ U' Fs', RArrB U' w' a v Fs' ps s (sts.set i st') ∧ (∀ k, U' k → k < w.heap.size → U k) ∧ Keep U w w' := by
  obtain ⟨F', hD, hF, hK⟩ := hu
  have hil : i < sts.length := by rw [h.len]; exact (List.getElem?_eq_some_iff.1 hp).1
  have hKU : Keep U w w' := hK.mono (fun k hf _ => h.uf i k hf)
  have hlt' : ∀ k, F' k → k < w'.heap.size := fun k hk => hD.lt hk
  refine ⟨fun k => U k ∨ F' k, fun j k => if j = i then F' k else Fs j k, ⟨?_, ?_, by simpa using h.len, ?_, ?_, h.va, ?_, .inl h.ua, fun k hk => .inl (h.uv k hk), ?_, ?_⟩, fun k hk hlt => hk.elim id (fun hf => h.uf i k (hF k hf hlt)), hKU⟩
  · exact h.box.keep (hK.block a (h.lt a h.ua) (fun hf => (h.fx i a hf).1 rfl))
  · obtain ⟨css, h1, h2, h3, h4, h5⟩ := h.own
    exact ⟨css, ownsRow_keep h1 (fun k hk2 => hK.block k (h.lt k (h.uv k hk2)) (fun hf => (h.fx i k hf).2 hk2)), h2, h3, h4, fun i cs x hc hx => h5 i cs x hc hx⟩
  · intro j q st h1 h2
    by_cases hj : j = i
    · subst hj
      rw [hp] at h1
      injection h1 with h1
      subst h1
      rw [List.getElem?_set_self hil] at h2
      injection h2 with h2
      subst h2
      simpa using hD
    · rw [List.getElem?_set_ne (fun e => hj e.symm)] at h2
      simp only [if_neg hj]
      exact (h.drv j q st h1 h2).keep hK (fun k hf hf2 => hj (h.apart j i k hf hf2))
  · intro j1 j2 k
    by_cases e1 : j1 = i <;> by_cases e2 : j2 = i <;> simp only [e1, e2, if_pos, if_neg, not_false_eq_true]
    · intros; trivial
    · intro hf hg
      exact (h.apart _ _ k (hF k hf (h.lt k (h.uf _ k hg))) hg)
    · intro hf hg
      exact e1 (h.apart _ _ k hf (hF k hg (h.lt k (h.uf _ k hf))))
    · exact h.apart j1 j2 k
  · intro j k hf
    by_cases e1 : j = i
    · simp only [e1, if_pos] at hf
      constructor
      · rintro rfl
        exact (h.fx i k (hF k hf (h.lt k h.ua))).1 rfl
      · intro hv
        exact (h.fx i k (hF k hf (h.lt k (h.uv k hv)))).2 hv
    · simp only [e1, if_neg, not_false_eq_true] at hf
      exact h.fx j k hf
  · intro j k hf
    by_cases e1 : j = i
    · simp only [e1, if_pos] at hf; exact .inr hf
    · simp only [e1, if_neg, not_false_eq_true] at hf; exact .inl (h.uf j k hf)
  · rintro k (hk | hk)
    · exact Nat.lt_of_lt_of_le (h.lt k hk) hK.size
    · exact hlt' k hk
theorem rarr_cells {U : Nat → Prop} {w : World} {a s : Nat} {v : Value} {Fs : Nat → Nat → Prop} {ps : List Nat} {sts : List RSt} (h : RArrB U w a v Fs ps s sts) : ∃ A c, v = .slice A sts.length c ∧ w.cell? ⟨a, 0, none⟩ = some (.slice A sts.length c) ∧
    ∀ i, i < sts.length → ∃ g p st, A = some ⟨g, 0, none⟩ ∧ ps[i]? = some p ∧ sts[i]? = some st ∧ w.cell? ⟨g, i, none⟩ = some (.pointer (some ⟨p, 0, none⟩)) ∧ RefAt (Fs i) w p s st := by
  obtain ⟨A, c, rfl, _⟩ := h.own.form
  refine ⟨A, c, by rw [h.len], by rw [h.len]; exact h.box.cell 0, fun i hi => ?_⟩
  rw [h.len] at hi
  obtain ⟨css, h1, h2, h3, h4, h5⟩ := h.own
  obtain ⟨g, cap, e0, _, _⟩ := h1.form (by omega)
  obtain ⟨rfl, rfl⟩ : A = some ⟨g, 0, none⟩ ∧ c = cap := by simpa using e0
  have hic : css[i]? = some (css[i]'(by omega)) := List.getElem?_eq_getElem (by omega)
  have hip : ps[i]? = some (ps[i]'(by omega)) := List.getElem?_eq_getElem (by omega)
  have his : sts[i]? = some (sts[i]'(by rw [h.len]; exact hi)) := List.getElem?_eq_getElem _
  have hcs := h5 i _ _ hic hip
  refine ⟨g, _, _, rfl, hip, his, ?_, h.drv i _ _ hip his⟩
  have := h1.cellAt i (by omega)
  rw [this]
  have := flatten_get css h4 i _ 0 hic (by omega)
  rw [Nat.mul_one, Nat.add_zero] at this
  rw [this]
  rw [show css[i] = [.pointer (some ⟨ps[i], 0, none⟩)] from hcs]; rfl
theorem slRPtr : SlTy Tryz.prog 98 97 (.pointer none) 1 8 := ⟨Tryz.underlying98, by kernel_rfl, rfl, by omega⟩
section
variable {U : Nat → Prop} {w : World} {a s : Nat} {v : Value} {Fs : Nat → Nat → Prop} {ps : List Nat} {sts : List RSt}
/-- One drive more. -/
theorem RArrB.push (h : RArrB U w a v Fs ps s sts) {u : World} {F : Nat → Prop} {p : Nat} {st : RSt} {vN : Value} (hD : RefAt F w p s st) (hF : ∀ k, F k → ¬ U k) (hu : w.grownBy u v.ownBlock) (hs : w.heap.size < u.heap.size)
    (own : OwnL PtrR 97 1 0 (fun _ => False) u vN (ps.length + 1) (ps ++ [p])) (hat : vN.ownBlock = v.ownBlock ∨ vN.ownBlock = some (w.heap.size + 1)) :
    ∃ U' Fs', RArrB U' (u.setCell ⟨a, 0, none⟩ vN) a vN Fs' (ps ++ [p]) s (sts ++ [st]) ∧ (∀ k, U' k → k < w.heap.size → U k ∨ F k) ∧ Keep U w (u.setCell ⟨a, 0, none⟩ vN) := by
  have hset : ∀ k, k ≠ a → (u.setCell ⟨a, 0, none⟩ vN).heap[k]? = u.heap[k]? := fun k hk => Below.heap_setCell _ _ _ _ hk
  have hK : Keep (fun k => k = a ∨ v.ownBlock = some k) w (u.setCell ⟨a, 0, none⟩ vN) := ⟨hu.os, hu.tape, hu.output, by simpa using hu.size, fun k hk hg => (hset k (fun e => hg (.inl e))).trans (hu.block k hk (fun e => hg (.inr e.symm)))⟩
  have hla := h.lt a h.ua
  have hN : ∀ k, vN.ownBlock = some k → (v.ownBlock = some k) ∨ k = w.heap.size + 1 := fun k hk => by
    rcases hat with h | h
    · exact .inl (h ▸ hk)
    · rw [h] at hk; injection hk with hk; exact .inr hk.symm
  have hNa : vN.ownBlock ≠ some a := fun e => by
    rcases hN a e with h2 | h2
    · exact h.va h2
    · omega
  have hFlt : ∀ k, F k → k < w.heap.size := fun k hk => hD.lt hk
  refine ⟨fun k => U k ∨ F k ∨ (w.heap.size ≤ k ∧ k < u.heap.size), fun j k => if j = ps.length then F k else Fs j k, ⟨?_, ?_, by simp [h.len], ?_, ?_, hNa, ?_, .inl h.ua, ?_, ?_, ?_⟩, ?_, hK.mono (fun k hk _ => hk.elim (fun e => e ▸ h.ua) (h.uv k))⟩
  · exact (h.box.keep (hu.block a hla (fun e => h.va e.symm))).set 0 vN
  · obtain ⟨css, h1, h2, h3, h4, h5⟩ := own
    rw [show (ps ++ [p]).length = ps.length + 1 by simp]
    exact ⟨css, ownsRow_keep h1 (fun k hk => hset k (fun e => hNa (e ▸ hk))), h2, h3, h4, fun i cs x hc hx => h5 i cs x hc hx⟩
  · intro i q st' h1 h2
    by_cases hi : i = ps.length
    · subst hi
      rw [List.getElem?_append_right (Nat.le_refl _)] at h1
      rw [List.getElem?_append_right (by rw [h.len]; exact Nat.le_refl _), h.len] at h2
      simp only [Nat.sub_self, List.getElem?_cons_zero, Option.some.injEq] at h1 h2
      subst h1; subst h2
      simp only [if_true]
      exact hD.keep hK (fun k hk hg => hF k hk (hg.elim (fun e => e ▸ h.ua) (h.uv k)))
    · have hil : i < ps.length := by
        have := (List.getElem?_eq_some_iff.1 h1).1
        simp at this; omega
      rw [List.getElem?_append_left hil] at h1
      rw [List.getElem?_append_left (by rw [h.len]; exact hil)] at h2
      simp only [if_neg hi]
      exact (h.drv i q st' h1 h2).keep hK (fun k hk hg => hg.elim (h.fx i k hk).1 (h.fx i k hk).2)
  · intro i j k
    by_cases e1 : i = ps.length <;> by_cases e2 : j = ps.length <;> simp only [e1, e2, if_true, if_false]
    · intros; trivial
    · intro hf hg; exact absurd (h.uf j k hg) (hF k hf)
    · intro hf hg; exact absurd (h.uf i k hf) (hF k hg)
    · exact h.apart i j k
  · intro i k
    by_cases e1 : i = ps.length <;> simp only [e1, if_true, if_false]
    · intro hf
      refine ⟨fun e => hF k hf (e ▸ h.ua), fun e => ?_⟩
      have := hFlt k hf
      rcases hN k e with h2 | h2
      · exact hF k hf (h.uv k h2)
      · omega
    · intro hf
      refine ⟨(h.fx i k hf).1, fun e => ?_⟩
      have := h.lt k (h.uf i k hf)
      rcases hN k e with h2 | h2
      · exact (h.fx i k hf).2 h2
      · omega
  · intro k hk
    rcases hN k hk with h2 | h2
    · exact .inl (h.uv k h2)
    · have := (own.lt k hk).2
      exact .inr (.inr ⟨by omega, this⟩)
  · intro i k
    by_cases e1 : i = ps.length <;> simp only [e1, if_true, if_false]
    · intro hf; exact .inr (.inl hf)
    · intro hf; exact .inl (h.uf i k hf)
  · rintro k (hk | hk | hk)
    · have := h.lt k hk; simp; omega
    · have := hFlt k hk; simp; omega
    · simpa using hk.2
  · rintro k (hk | hk | hk) hlt
    · exact .inl hk
    · exact .inr hk
    · omega
/-- An array of no drives yet. -/
theorem RArrB.empty (w : World) (s : Nat) (T : TypeId) : RArrB (fun k => k = w.heap.size) (w.alloc (.cells #[.slice none 0 0] T)) w.heap.size (.slice none 0 0) (fun _ _ => False) [] s [] := by
  refine ⟨BoxAt.new _ _ _, OwnL.nil_, rfl, ?_, ?_, ?_, ?_, rfl, ?_, ?_, ?_⟩
  · intro i p st h1; simp at h1
  · intro i j k h; exact h.elim
  · simp [Value.ownBlock]
  · intro i k h; exact h.elim
  · intro k hk; simp [Value.ownBlock] at hk
  · intro i k h; exact h.elim
  · rintro k rfl; simp
end
section
variable {U : Nat → Prop} {w : World} {a s : Nat} {v : Value} {Fs : Nat → Nat → Prop} {ps : List Nat} {sts : List RSt}
theorem rarr_c0 {A : Option Addr} {k c : Nat} (h : RArrB U w a (.slice A k c) Fs ps s sts) : w.cell? ⟨a, 0, none⟩ = some (.slice A k c) := h.box.cell 0
theorem rarr_cg {g k c : Nat} (h : RArrB U w a (.slice (some ⟨g, 0, none⟩) k c) Fs ps s sts) {i p : Nat} (hp : ps[i]? = some p) : w.cell? ⟨g, i, none⟩ = some (.pointer (some ⟨p, 0, none⟩)) := by
  have hi : i < sts.length := by rw [h.len]; exact (List.getElem?_eq_some_iff.1 hp).1
  obtain ⟨A, c', hv, _, hc⟩ := rarr_cells h
  obtain ⟨g', p', st, hA, hp', _, hcell, _⟩ := hc i hi
  subst hA
  simp only [Value.slice.injEq, Option.some.injEq, Addr.mk.injEq, and_true] at hv
  rw [hp] at hp'
  injection hp' with hp'
  rw [hv.1, hp']; exact hcell
theorem rarr_form (h : RArrB U w a v Fs ps s sts) (hk : 0 < sts.length) : ∃ g c, v = .slice (some ⟨g, 0, none⟩) sts.length c := by
  obtain ⟨A, c, hv, _, hc⟩ := rarr_cells h
  obtain ⟨g, _, _, hA, _⟩ := hc 0 hk
  exact ⟨g, c, by rw [hv, hA]⟩
theorem RArrB.p_at (h : RArrB U w a v Fs ps s sts) {d : Nat} {st : RSt} (hst : sts[d]? = some st) : ∃ p, ps[d]? = some p ∧ RefAt (Fs d) w p s st ∧ d < sts.length := by
  have hd : d < sts.length := (List.getElem?_eq_some_iff.1 hst).1
  exact ⟨_, List.getElem?_eq_getElem (by rw [← h.len]; exact hd), h.drv d _ _ (List.getElem?_eq_getElem _) hst, hd⟩
/-- One drive goes on behind something that changed nothing. -/
theorem RArrB.upd2 (h : RArrB U w a v Fs ps s sts) {w1 w2 : World} {i p : Nat} {st' : RSt} (hb : Below w.heap.size w w1) (hp : ps[i]? = some p) (hu : RUpd (Fs i) w1 w2 p s st') : RAUpd U w w2 a s (sts.set i st') := by
  obtain ⟨U', Fs', hB, h1, h2⟩ := (h.below hb).upd1 hp hu
  exact ⟨U', ⟨v, Fs', ps, hB⟩, fun k hk hlt => h1 k hk (Nat.lt_of_lt_of_le hlt hb.size), (Keep.of_below (F := U) hb).trans h2 (fun k h _ => h)⟩
end
end
section

structure ActV where
  kind : Int
  at_ : Int
  off : Int
  c : Int
  mask : Int
  keep : List Bool
  b : List Int
def wrD (n : Nat) (st : DSt) (z : Int) (bs : List Int) : DSt := if readyE st.dead n z = 0 ∧ bs.length = 64 then st.write z bs else st
def wrR (n : Nat) (rs : RSt) (z : Int) (bs : List Int) : RSt := if wrOk rs n z bs.length then { rs with wait := rs.wait ++ [⟨z, bs, 0, 0⟩] } else rs
def flD (st : DSt) : DSt := if st.dead = false then st.settle (fun _ => true) else st
def flR (rs : RSt) : RSt := if rs.gone = false then { rs with L := rs.L ++ rs.wait, wait := [] } else rs
def rtD (n : Nat) (st : DSt) (z off mask : Int) : DSt := if rotDOk st n z off mask then st.rot z.toNat off.toNat mask else st
def rtR (n : Nat) (rs : RSt) (z off mask : Int) : RSt := if rrotOk rs n z off mask then { rs with L := rs.L ++ [⟨z, [], off, mask⟩] } else rs
def actD (n : Nat) (st : DSt) (a : ActV) : DSt :=
  if a.kind = 0 ∨ a.kind = 1 ∨ a.kind = 2 then wrD n st a.at_ (rep a.c)
  else if a.kind = 3 then flD st
  else if a.kind = 4 then st.settle (keepOf a.keep)
  else if a.kind = 5 then DSt.gone n
  else if a.kind = 6 then DSt.new n
  else if a.kind = 7 then rtD n st a.at_ a.off a.mask
  else if a.kind = 9 then wrD n st a.at_ a.b
  else st
def actR (n : Nat) (rs : RSt) (a : ActV) : RSt :=
  if a.kind = 0 ∨ a.kind = 1 ∨ a.kind = 2 then wrR n rs a.at_ (rep a.c)
  else if a.kind = 3 then flR rs
  else if a.kind = 4 then { rs with L := rs.L ++ keptE (keepOf a.keep) 0 rs.wait, wait := [] }
  else if a.kind = 5 then ⟨[], [], true⟩
  else if a.kind = 6 then ⟨[], [], false⟩
  else if a.kind = 7 then rtR n rs a.at_ a.off a.mask
  else if a.kind = 9 then wrR n rs a.at_ a.b
  else rs
theorem Both.mk {F G F1 G1 : Nat → Prop} {w w1 w2 w3 w4 : World} {p x n : Nat} {st : DSt} {rs : RSt} (b1 : Below w.heap.size w w1) (k1 : Keep F w1 w2) (b2 : Below w2.heap.size w2 w3) (k2 : Keep G w3 w4) (hF : ∀ k, F1 k → k < w1.heap.size → F k) (hG : ∀ k, G1 k → k < w3.heap.size → G k) (T : Two F1 G1 w4 p x n st rs) : Both F G w w4 p x n st rs := by
  have s1 := b1.size
  have s2 := k1.size
  have s3 := b2.size
  refine ⟨F1, G1, T, fun k h1 h2 => hF k h1 (by omega), fun k h1 h2 => hG k h1 (by omega), ?_⟩
  refine ((((Keep.of_below (F := fun k => F k ∨ G k) b1).trans (G := fun k => F k ∨ G k) (k1.mono (fun k h _ => .inl h)) (fun k h _ => h)).trans (G := fun _ => False) (Keep.of_below b2) (fun _ h => h.elim)).trans (G := fun k => F k ∨ G k) (k2.mono (fun k h _ => .inr h)) (fun k h _ => h))


end
section

/-- What the contracts ask of the document's drive. -/
structure RGood (rs : RSt) : Prop where
  few : rs.L.length + rs.wait.length < 1000000
  ok : ∀ e ∈ rs.L, EvOk e
  w64 : ∀ e ∈ rs.wait, e.b.length = 64
section
variable {G : Nat → Prop} {w : World} {x n : Nat} {rs : RSt}
set_option maxRecDepth 100000 in
theorem rread_out (h : Hid (RefAt G w x n rs)) (hd : rs.gone = false) (z : Int) (hz : ¬ (0 ≤ z ∧ z < n)) :
    Calls Tryz.prog 197 #[.pointer (some ⟨x, 0, none⟩), .int .i64 z] w fun e w' => e = .returned (.tuple #[.slice none 0 0, .int .i64 2]) ∧ Below w.heap.size w w' := by
  obtain ⟨Sb, vL, vW, hB, _⟩ := h.out
  obtain ⟨k0, k1, k2, k3⟩ := ref_cells hB
  clear hB
  rw [hd] at k3
  have e1 : decide (0 ≤ z ∧ z < (n : Int)) = false := by simpa using hz
  go_enter Tryz.func197, Tryz.ntmps197
  go_wp2_with fail
  refine (rhas_any h z).mono ?_
  rintro e w1 ⟨rfl, t1⟩
  rw [e1]
  clear e1 hz
  go_wp2_with fail
  go_ret2
  exact ⟨rfl, t1⟩
def rreadL (rs : RSt) (n : Nat) (z : Int) : List Int := if readyE rs.gone n z = 0 then seenE rs z else []
theorem ready_iff2 (d : Bool) (n : Nat) (z : Int) : readyE d n z = 0 ↔ d = false ∧ 0 ≤ z ∧ z < n := by
  cases d with
  | true => simp [readyE]
  | false => by_cases h : 0 ≤ z ∧ z < n <;> simp [readyE, h]
def ReadEC (w : World) (code : Int) (xs : List Int) (e : Ending) (w' : World) : Prop := ∃ A m c, e = .returned (.tuple #[.slice A m c, .int .i64 code]) ∧ RdL U8R 1 (fun _ => True) w' A m xs ∧ Below w.heap.size w w' ∧ m ≤ c
theorem rread_whole (h : Hid (RefAt G w x n rs)) (hg : RGood rs) (z : Int) :
    Calls Tryz.prog 197 #[.pointer (some ⟨x, 0, none⟩), .int .i64 z] w fun e w' => ReadEC w (readyE rs.gone n z) (rreadL rs n z) e w' := by
  unfold rreadL
  cases hd : rs.gone with
  | true =>
    refine (rread_gone h hd z).mono ?_
    rintro e w' ⟨rfl, hb⟩
    exact ⟨none, 0, 0, by simp [readyE], by simp [readyE]; exact RdL.nil, hb, Nat.le_refl _⟩
  | false =>
    by_cases hz : 0 ≤ z ∧ z < n
    · obtain ⟨k, rfl⟩ : ∃ k : Nat, z = k := ⟨z.toNat, by omega⟩
      refine (rread_good h hd k (by omega) (by have := hg.few; omega) (by have := hg.few; omega) (Lib.hid hg.ok) (Lib.hid hg.w64)).mono ?_
      rintro e w' ⟨A, c, rfl, hr, hb, hc64⟩
      have hE : readyE false n k = 0 := (ready_iff2 _ _ _).2 ⟨rfl, hz⟩
      rw [hE, if_pos rfl]
      exact ⟨A, 64, c, rfl, hr, hb, hc64⟩
    · refine (rread_out h hd z hz).mono ?_
      rintro e w' ⟨rfl, hb⟩
      have hE : readyE false n z = 2 := by simp [readyE, hz]
      rw [hE, if_neg (by omega)]
      exact ⟨none, 0, 0, rfl, RdL.nil, hb, Nat.le_refl _⟩
end

/-! ### Ours, whatever is asked -/
section
variable {F : Nat → Prop} {w : World} {p n : Nat} {st : DSt}
end

/-! ### The document's array -/
section
variable {U : Nat → Prop} {w : World} {a s : Nat} {v : Value} {Fs : Nat → Nat → Prop} {ps : List Nat} {sts : List RSt}
set_option maxRecDepth 100000 in
theorem rahas_any (h : Hid (RArrB U w a v Fs ps s sts)) (d : Int) :
    Calls Tryz.prog 108 #[.pointer (some ⟨a, 0, none⟩), .int .i64 d] w fun e w' => e = .returned (.bool (decide (0 ≤ d ∧ d < sts.length))) ∧ Below w.heap.size w w' := by
  obtain ⟨A, c, _, c0, _⟩ := rarr_cells h.out
  by_cases h0 : 0 ≤ d
  · go_enter Tryz.func108, Tryz.ntmps108
    go_wp2_with fail
    go_ret
    exact ⟨ret_bool2 (by simp [h0] <;> omega), Below.refl _ _⟩
  · go_enter Tryz.func108, Tryz.ntmps108
    go_wp2_with fail
    go_ret
    exact ⟨ret_bool2 (by simp [h0] <;> omega), Below.refl _ _⟩
end
end
end Go.Proofs.YtihnlhfngmbglaaGreat
