/-
  Copy.
  The drive: Rot and Flush, whatever is asked; Rotten of a dead drive.
  Drives side by side: how they lie.
  Drives side by side: one drive.
  Drives side by side: what changes one; how many answers are so.
  Drives side by side: what one is asked; how many aren't dead; all flushed.
  Drives side by side: Flush.
  Drives side by side: Crash, PutRow.
  Drives side by side: Row.
  Drives side by side: New.
  The document's drive: its state as lists, in memory; New, has, Fail, Replace.
-/
import Derived.Test.YteialipoedmmmaaGreatSb2
import Derived.Deep.LoopGhost
import Derived.Maps.RangeWalk
set_option linter.unusedSimpArgs false
set_option linter.unusedVariables false
namespace Go.Proofs.YteialipoedmmmaaGreat
open Go.RowKit Go.Cib
attribute [local go_sem] cell_set Later.cell Later.frozen Grw.cell Grw.frozen

theorem run_clone {P : Program} (w : World) {T E : TypeId} {z : Value} {size bytes : Nat} (st : SlTy P T E z size bytes) (ty : TypeId) {A : Option Addr} {m c : Nat} {xs : List Value} (hown : w.ownsRow 0 E size (.slice A m c) m xs) (h1 : ∀ u ∈ xs, u.oneCell' = true) (hb : m * bytes ≤ 140737488355328) (hm : m ≤ maxLen) :
    ∃ v' w', (Builtin.append_ #[T, T] ty #[.slice none 0 0, .slice A m c]).run P w = .ok v' w' ∧ w'.ownsRow w.heap.size E size v' m xs ∧ w.grownBy w' none := by
  obtain ⟨i, hi, hz, hsz, hby⟩ := info_parts st.info
  have hl := hown.1
  rcases hown.2 with ⟨e, h0⟩ | ⟨g, cap, cur, e, hg, hcell, hnc, hcm, hcs, htake⟩
  · subst h0
    obtain ⟨rfl, rfl⟩ : A = none ∧ c = 0 := by simpa using e
    have hx : xs = [] := List.length_eq_zero_iff.1 (by simpa using hl)
    subst hx
    exact ⟨.slice none 0 0, w, by simp [Builtin.append_, run_underlying st.und, sizeOf, typeInfo, hi, Builtin.lenOf, Builtin.firstCells], World.ownsRow_nil _ _ _ _, ⟨rfl, rfl, rfl, Nat.le_refl _, fun _ _ _ => rfl⟩⟩
  · obtain ⟨rfl, rfl⟩ : A = some ⟨g, 0, none⟩ ∧ c = cap := by simpa using e
    obtain ⟨v', w', h2, h3, h4, _, h6⟩ := run_append_own_at (P := P) w w.heap.size T ty E i z size bytes st.und hi hz hsz hby st.zsz st.pos (.slice none 0 0) 0 [] (World.ownsRow_nil _ _ _ _) ⟨g, 0, none⟩ m c xs hl (fun j u hj => by
      have hjl := (List.getElem?_eq_some_iff.1 hj).1
      rw [Addr.add_mid, Nat.zero_add, hown.cellAt j (by omega)]; exact hj) h1 (by omega) (by rw [Nat.zero_add]; exact hb) (Nat.le_refl _)
    exact ⟨v', w', h2, by simpa using h3, h4⟩
theorem step_clone {P : Program} {ops : Array Oper} {o : Oper} {a : Act} {w : World} {K : Act → World → Prop} {Q : Exit → Act → World → Prop} {X : Prop} (hgd : o.guard = none) (s x : Operand) (T : TypeId)
    (ho : o.op = .call { callee := .builtin .append, args := #[s, x], argTypes := #[T, T] }) {E : TypeId} {z : Value} {size bytes : Nat} (st : SlTy P T E z size bytes) {A : Option Addr} {m c : Nat} {xs : List Value} (hown : w.ownsRow 0 E size (.slice A m c) m xs ∧ ∀ u ∈ xs, u.oneCell' = true)
    (hs : a.eval s = .slice none 0 0) (hx : a.eval x = .slice A m c) (hb : m * bytes ≤ 140737488355328) (hm : m ≤ maxLen)
    (h : ∀ v' w', w'.ownsRow w.heap.size E size v' m xs → w.grownBy w' none → K (a.put o.dst v') w') : if Region.wanted o (yielded ops a.tmps) = true then Oper.wp P o a w K Q else X := by
  have hw : Region.wanted o (yielded ops a.tmps) = true := by simp [Region.wanted, hgd]
  rw [if_pos hw]
  obtain ⟨v', w', h1, h2, h3⟩ := run_clone w st o.type hown.1 hown.2 hb hm
  unfold Oper.wp execOp
  simp only [ho, resolve, invoke, builtin, Sem.run_bind, Sem.run_pure, Result.andThen_ok, List.map_toArray, List.map_cons, List.map_nil, hs, hx, h1]
  exact h v' w' h2 h3

theorem slSec : SlTy Tryz.prog 132 162 (.agg secZC) 64 64 := ⟨Tryz.underlying132, by kernel_rfl, secZC_size, by omega⟩
theorem slWait : SlTy Tryz.prog 133 164 (.agg waitZC) 65 72 := ⟨Tryz.underlying133, by kernel_rfl, waitZC_size, by omega⟩
theorem slBool : SlTy Tryz.prog 42 4 (.bool false) 1 1 := ⟨Tryz.underlying42, by kernel_rfl, rfl, by omega⟩
theorem rows_one {α : Type} {f : α → List Value} (hf : ∀ x, ∀ u ∈ f x, u.oneCell' = true) (xs : List α) : ∀ u ∈ (xs.map f).flatten, u.oneCell' = true := by
  intro u hu
  obtain ⟨l, hl, hul⟩ := List.mem_flatten.1 hu
  obtain ⟨x, _, rfl⟩ := List.mem_map.1 hl
  exact hf x u hul
theorem bools_one (xs : List Bool) : ∀ u ∈ xs.map Value.bool, u.oneCell' = true := by
  intro u hu
  obtain ⟨x, _, rfl⟩ := List.mem_map.1 hu
  rfl
theorem undrew {w w' : World} {r : Option Nat} (h : w.drew.grownBy w' r) : w.grownBy w' r := ⟨h.os, h.tape, h.output, h.size, h.block⟩
theorem own_form {w : World} {b : Nat} {e : TypeId} {size : Nat} {v : Value} {n : Nat} {xs : List Value} (h : w.ownsRow b e size v n xs) : ∃ A c, v = .slice A n c := by
  rcases h.2 with ⟨rfl, rfl⟩ | ⟨g, cap, cur, rfl, _⟩
  · exact ⟨none, 0, rfl⟩
  · exact ⟨_, cap, rfl⟩
theorem own_base {w : World} {b b2 : Nat} {e : TypeId} {size : Nat} {v : Value} {n : Nat} {xs : List Value} (h : w.ownsRow b e size v n xs) (hb : b2 ≤ b) : w.ownsRow b2 e size v n xs := by
  rcases h with ⟨h1, h2 | ⟨g, cap, cur, rfl, h3, h4⟩⟩
  · exact ⟨h1, .inl h2⟩
  · exact ⟨h1, .inr ⟨g, cap, cur, rfl, Nat.le_trans hb h3, h4⟩⟩
theorem grown_below {w w' : World} (h : w.grownBy w' none) : Below w.heap.size w w' := ⟨h.os, h.tape, h.output, h.size, fun k hk => h.block k hk (by simp)⟩

set_option maxRecDepth 100000 in
set_option maxHeartbeats 8000000 in
theorem copy_any {F : Nat → Prop} {w : World} {p n : Nat} {st : DSt} (h : Hid (DrvAt F w p n st)) (hcl : st.cache.length < 1000000) :
    Calls Tryz.prog 49 #[.pointer (some ⟨p, 0, none⟩)] w fun e w' => ∃ p' F', e = .returned (.pointer (some ⟨p', 0, none⟩)) ∧ DrvAt F' w' p' n st ∧ (∀ b, F' b → w.heap.size ≤ b) ∧ Below w.heap.size w w' := by
  obtain ⟨sb, sc, rb, rc, A, cc, mb, H⟩ := h.out.box
  go_enter Tryz.func49, Tryz.ntmps49
  go_wp2_with fail
  refine (dnone_any H).mono ?_
  rintro e w1 ⟨rfl, h1⟩
  clear H
  obtain ⟨sb, sc, rb, rc, A, cc, mb, hB, f1, f2, f3, f4, f5, lt⟩ := h.out.below h1
  obtain ⟨k0, k1, k2, k3, k4⟩ := drv_cells hB.box
  have h1s := h1.size
  have HB := Lib.hid hB
  have H1 := Lib.hid h1
  have m3 := @run_makeMap Tryz.prog
  have k4a : ∀ o, (w1.alloc o).cell? ⟨p, 4, none⟩ = some (.bool st.dead) := fun o => cell_alloc2 k4 o
  obtain ⟨mq, hmq⟩ : ∃ mq, w1.heap.size = mq := ⟨_, rfl⟩
  obtain ⟨W, hW⟩ : ∃ W, (w1.alloc (.map #[] 0)).alloc (.cells #[.slice none 0 0, .slice none 0 0, .slice none 0 0, .map (some mq), .bool st.dead] 136) = W := ⟨_, rfl⟩
  obtain ⟨q, hq⟩ : ∃ q, mq + 1 = q := ⟨_, rfl⟩
  have a1 : Below w1.heap.size w1 W := by rw [← hW]; exact ((Below.refl _ _).alloc (Nat.le_refl _) _).alloc (by simp) _
  have X1 : BoxAt W q #[.slice none 0 0, .slice none 0 0, .slice none 0 0, .map (some mq), .bool st.dead] := by
    rw [← hW, ← hq]
    have := BoxAt.new (w1.alloc (.map #[] 0)) #[.slice none 0 0, .slice none 0 0, .slice none 0 0, .map (some mq), .bool st.dead] 136
    simpa [hmq] using this
  have Mq : MapAt (Value.int .i64) W mq ([] : List (Int × Value)) := by
    rw [← hW, ← hmq]
    exact (MapAt.new (Value.int .i64) w1).alloc _
  have hpq : p ≠ q := by have := lt p f1; omega
  have A1 := Lib.hid a1
  have HX := Lib.hid X1
  have HM := Lib.hid Mq
  have hpl : p < w1.heap.size := lt p f1
  have hmqq : mq ≠ q := by omega
  have hqs : w1.heap.size ≤ q := by omega
  have h600 := hB.n600
  have hq0 : q < W.heap.size := X1.lt
  have hqa := hq0
  clear hB h a1 X1 Mq h1 f1 f2 f3 f4 f5 lt
  go_wp2_with fail
  clear m3 hW k4a
  have kd0 : W.cell? ⟨p, 0, none⟩ = some (.slice (some ⟨sb, 0, none⟩) n sc) := by rw [A1.out.cell (p := ⟨p, 0, none⟩) hpl]; exact k0
  have kq0 : W.cell? ⟨q, 0, none⟩ = some (.slice none 0 0) := HX.out.cell 0
  have kf0 : W.frozen? ⟨q, 0, none⟩ = false := HX.out.frozen 0
  have KA0 : ∀ w', World.grownBy (World.drew W) w' none → w'.cell? ⟨p, 0, none⟩ = some (.slice (some ⟨sb, 0, none⟩) n sc) := fun w' hg => cell_far2 (w := World.drew W) kd0 hg (by simp)
  have KQ0 : ∀ w', World.grownBy (World.drew W) w' none → w'.cell? ⟨q, 0, none⟩ = some (.slice none 0 0) ∧ w'.frozen? ⟨q, 0, none⟩ = false := fun w' hg => ⟨cell_far2 (w := World.drew W) kq0 hg (by simp), frozen_far2 (w := World.drew W) kq0 kf0 hg (by simp)⟩
  have KS0 : ∀ (w' : World) (v : Value), w'.cell? ⟨p, 0, none⟩ = some (.slice (some ⟨sb, 0, none⟩) n sc) → (w'.setCell ⟨q, 0, none⟩ v).cell? ⟨p, 0, none⟩ = some (.slice (some ⟨sb, 0, none⟩) n sc) := fun w' v h => cell_setCell_ne h hpq
  have KO0 := And.intro (World.ownsRow.drew (ownsRow_keep (w' := W) HB.out.so (fun k hk => A1.out.block k (HB.out.so.lt k hk).2))) (rows_one (f := secCells) (fun x u hu => secCells_one u hu) st.stored)
  have KK0 := Lib.hid KQ0
  clear KQ0
  refine wp_region_held_drew (S := (fun w' => w'.cell? ⟨p, 0, none⟩ = some (.slice (some ⟨sb, 0, none⟩) n sc))) (by kernel_rfl) (by first | exact kd0 | exact KA0 _ hg0 | exact KS0 _ _ (KA0 _ hg0)) (fun hHeld => ?_)
  refine wpAnyH_take (i := 0) (v := ?_) rfl (by kernel_rfl) (by kernel_rfl) (by kernel_rfl) (fun _ _ _ h => h) (Or.inl ⟨by rfl, ?_⟩) (by assumption) ?_
  rotate_left
  · (intro wq hSw; (try dsimp only at hSw); (try simp only [List.getElem_toArray, List.getElem_cons_succ, List.getElem_cons_zero]); go_simp); try with_reducible rfl
  try simp only [List.getElem_toArray, List.getElem_cons_succ, List.getElem_cons_zero, Act.put, List.setIfInBounds_toArray, List.set_cons_zero, List.set_cons_succ]
  refine wpAnyH_take (i := 1) (v := ?_) rfl (by kernel_rfl) (by kernel_rfl) (by kernel_rfl) (fun _ _ _ h => h) (Or.inl ⟨by rfl, ?_⟩) (by assumption) ?_
  rotate_left
  · (intro wq hSw; (try dsimp only at hSw); (try simp only [List.getElem_toArray, List.getElem_cons_succ, List.getElem_cons_zero]); go_simp); try with_reducible rfl
  try simp only [List.getElem_toArray, List.getElem_cons_succ, List.getElem_cons_zero, Act.put, List.setIfInBounds_toArray, List.set_cons_zero, List.set_cons_succ]
  refine wpAnyH_take (i := 2) (v := ?_) rfl (by kernel_rfl) (by kernel_rfl) (by kernel_rfl) (fun _ _ _ h => h) (Or.inl ⟨by rfl, ?_⟩) (by assumption) ?_
  rotate_left
  · (intro wq hSw; (try dsimp only at hSw); (try simp only [List.getElem_toArray, List.getElem_cons_succ, List.getElem_cons_zero]); go_simp); try with_reducible rfl
  try simp only [List.getElem_toArray, List.getElem_cons_succ, List.getElem_cons_zero, Act.put, List.setIfInBounds_toArray, List.set_cons_zero, List.set_cons_succ]
  refine wpAnyH_take (i := 3) (v := ?_) rfl (by kernel_rfl) (by kernel_rfl) (by kernel_rfl) (fun _ _ _ h => h) (Or.inl ⟨by rfl, ?_⟩) (by assumption) ?_
  rotate_left
  · (intro wq hSw; (try dsimp only at hSw); (try simp only [List.getElem_toArray, List.getElem_cons_succ, List.getElem_cons_zero]); go_simp); try with_reducible rfl
  try simp only [List.getElem_toArray, List.getElem_cons_succ, List.getElem_cons_zero, Act.put, List.setIfInBounds_toArray, List.set_cons_zero, List.set_cons_succ]
  refine wpAnyH_take (i := 5) (v := ?_) rfl (by kernel_rfl) (by kernel_rfl) (by kernel_rfl) (fun _ _ _ h => h) (Or.inl ⟨by rfl, ?_⟩) (by assumption) ?_
  rotate_left
  · (intro wq hSw; (try dsimp only at hSw); (try simp only [List.getElem_toArray, List.getElem_cons_succ, List.getElem_cons_zero]); go_simp); try with_reducible rfl
  try simp only [List.getElem_toArray, List.getElem_cons_succ, List.getElem_cons_zero, Act.put, List.setIfInBounds_toArray, List.set_cons_zero, List.set_cons_succ]
  refine wpAnyH_take (i := 6) (v := ?_) rfl (by kernel_rfl) (by kernel_rfl) (by kernel_rfl) (fun _ _ _ h => h) (Or.inl ⟨by rfl, ?_⟩) (by assumption) ?_
  rotate_left
  · (intro wq hSw; (try dsimp only at hSw); (try simp only [List.getElem_toArray, List.getElem_cons_succ, List.getElem_cons_zero]); go_simp); try with_reducible rfl
  try simp only [List.getElem_toArray, List.getElem_cons_succ, List.getElem_cons_zero, Act.put, List.setIfInBounds_toArray, List.set_cons_zero, List.set_cons_succ]
  refine wpAnyH_take (i := 7) (v := ?_) rfl (by kernel_rfl) (by kernel_rfl) (by kernel_rfl) (fun _ _ _ h => h) (Or.inl ⟨by rfl, ?_⟩) (by assumption) ?_
  rotate_left
  · (intro wq hSw; (try dsimp only at hSw); (try simp only [List.getElem_toArray, List.getElem_cons_succ, List.getElem_cons_zero]); go_simp); try with_reducible rfl
  try simp only [List.getElem_toArray, List.getElem_cons_succ, List.getElem_cons_zero, Act.put, List.setIfInBounds_toArray, List.set_cons_zero, List.set_cons_succ]
  refine wpAnyH_take (i := 8) (v := ?_) rfl (by kernel_rfl) (by kernel_rfl) (by kernel_rfl) (fun _ _ _ h => h) (Or.inl ⟨by rfl, ?_⟩) (by assumption) ?_
  rotate_left
  · (intro wq hSw; (try dsimp only at hSw); (try simp only [List.getElem_toArray, List.getElem_cons_succ, List.getElem_cons_zero]); go_simp); try with_reducible rfl
  try simp only [List.getElem_toArray, List.getElem_cons_succ, List.getElem_cons_zero, Act.put, List.setIfInBounds_toArray, List.set_cons_zero, List.set_cons_succ]
  refine wpAnyH_ready (rs := [4]) (by kernel_rfl) (by simp) ?_
  refine AllReadyH.cons rfl (fun K hK => ?_) AllReadyH.nil
  try simp only [List.getElem_toArray, List.getElem_cons_succ, List.getElem_cons_zero]
  go_simp
  refine hK.out _ _ (by first | exact kd0 | exact KA0 _ hg0 | exact KS0 _ _ (KA0 _ hg0)) (fun hHeld => ?_)
  clear hK K
  try simp only [List.getElem_toArray, List.getElem_cons_succ, List.getElem_cons_zero, Act.put, List.setIfInBounds_toArray, List.set_cons_zero, List.set_cons_succ]
  refine wpAnyH_ready (rs := [9]) (by kernel_rfl) (by simp) ?_
  refine AllReadyH.cons rfl (fun K hK => ?_) AllReadyH.nil
  refine step_clone (by rfl) _ _ 132 (by rfl) slSec KO0 (by rfl) (by rfl) (by omega) (by unfold maxLen; omega) ?_
  intro v0 w40 own0 hg0
  obtain ⟨B0, C0, rfl⟩ := own_form own0
  obtain ⟨kz0, zz0⟩ := KK0.out w40 hg0
  have gg0 := undrew hg0
  refine hK.out _ _ (by first | exact kd0 | exact KA0 _ hg0 | exact KS0 _ _ (KA0 _ hg0)) (fun hHeld => ?_)
  clear hK K
  try simp only [List.getElem_toArray, List.getElem_cons_succ, List.getElem_cons_zero, Act.put, List.setIfInBounds_toArray, List.set_cons_zero, List.set_cons_succ]
  refine wpAnyH_take (i := 10) (v := ?_) rfl (by kernel_rfl) (by kernel_rfl) (by kernel_rfl) (fun _ _ _ h => h) (Or.inl ⟨by rfl, ?_⟩) (by assumption) ?_
  rotate_left
  · (intro wq hSw; (try dsimp only at hSw); (try simp only [List.getElem_toArray, List.getElem_cons_succ, List.getElem_cons_zero]); go_simp); try with_reducible rfl
  try simp only [List.getElem_toArray, List.getElem_cons_succ, List.getElem_cons_zero, Act.put, List.setIfInBounds_toArray, List.set_cons_zero, List.set_cons_succ]
  refine wpAnyH_take (i := 11) (v := ?_) rfl (by kernel_rfl) (by kernel_rfl) (by kernel_rfl) (fun _ _ _ h => h) (Or.inl ⟨by rfl, ?_⟩) (by assumption) ?_
  rotate_left
  · (intro wq hSw; (try dsimp only at hSw); (try simp only [List.getElem_toArray, List.getElem_cons_succ, List.getElem_cons_zero]); go_simp); try with_reducible rfl
  try simp only [List.getElem_toArray, List.getElem_cons_succ, List.getElem_cons_zero, Act.put, List.setIfInBounds_toArray, List.set_cons_zero, List.set_cons_succ]
  refine wpAnyH_ready (rs := [12]) (by kernel_rfl) (by simp) ?_
  refine AllReadyH.cons rfl (fun K hK => ?_) AllReadyH.nil
  try simp only [List.getElem_toArray, List.getElem_cons_succ, List.getElem_cons_zero]
  go_simp
  refine hK.out _ _ (by first | exact kd0 | exact KA0 _ hg0 | exact KS0 _ _ (KA0 _ hg0)) (fun hHeld => ?_)
  clear hK K
  try simp only [List.getElem_toArray, List.getElem_cons_succ, List.getElem_cons_zero, Act.put, List.setIfInBounds_toArray, List.set_cons_zero, List.set_cons_succ]
  refine wpAnyH_done (by kernel_rfl) ?_ _
  obtain ⟨Wa, hWa⟩ : ∃ x, w40.setCell ⟨q, 0, none⟩ (.slice B0 n C0) = x := ⟨_, rfl⟩
  have Aa : Hid (Below w1.heap.size w1 Wa) := Lib.hid (by rw [← hWa]; exact (A1.out.trans ((grown_below gg0).mono A1.out.size)).setCell hqs _)
  have Xa : Hid (BoxAt Wa q #[.slice B0 n C0, .slice none 0 0, .slice none 0 0, .map (some mq), .bool st.dead]) := Lib.hid (by rw [← hWa]; exact (HX.out.keep (gg0.block q HX.out.lt (by simp))).set 0 (.slice B0 n C0))
  have Ma : Hid (MapAt (Value.int .i64) Wa mq ([] : List (Int × Value))) := Lib.hid (by rw [← hWa]; exact (HM.out.keep (gg0.block mq HM.out.lt (by simp))).keep (Below.heap_setCell _ _ _ _ hmqq))
  have P0a : Hid (Wa.ownsRow W.heap.size _ _ (.slice B0 n C0) _ _) := Lib.hid (by rw [← hWa]; exact ownsRow_keep own0 (fun k hk => Below.heap_setCell _ _ _ _ (by have h1 := (own0.lt k hk).1; have h2 := HX.out.lt; show k ≠ q; simp at h1; omega)))
  have G0 : Hid (∀ k, Value.ownBlock (.slice B0 n C0) = some k → W.heap.size ≤ k ∧ k < Wa.heap.size) := Lib.hid (fun k hk => P0a.out.lt k hk)
  have hqa : q < Wa.heap.size := Xa.out.lt
  clear kd0 kq0 kf0 KA0 KS0 KO0 KK0 hg0 gg0 kz0 zz0 own0 hHeld
  try rw [hWa]
  go_wp2_with fail
  try rw [hWa]
  clear hWa
  have kd1 : Wa.cell? ⟨p, 1, none⟩ = some (.slice (some ⟨rb, 0, none⟩) n rc) := by rw [Aa.out.cell (p := ⟨p, 1, none⟩) hpl]; exact k1
  have kq1 : Wa.cell? ⟨q, 1, none⟩ = some (.slice none 0 0) := Xa.out.cell 1
  have kf1 : Wa.frozen? ⟨q, 1, none⟩ = false := Xa.out.frozen 1
  have KA1 : ∀ w', World.grownBy (World.drew Wa) w' none → w'.cell? ⟨p, 1, none⟩ = some (.slice (some ⟨rb, 0, none⟩) n rc) := fun w' hg => cell_far2 (w := World.drew Wa) kd1 hg (by simp)
  have KQ1 : ∀ w', World.grownBy (World.drew Wa) w' none → w'.cell? ⟨q, 1, none⟩ = some (.slice none 0 0) ∧ w'.frozen? ⟨q, 1, none⟩ = false := fun w' hg => ⟨cell_far2 (w := World.drew Wa) kq1 hg (by simp), frozen_far2 (w := World.drew Wa) kq1 kf1 hg (by simp)⟩
  have KS1 : ∀ (w' : World) (v : Value), w'.cell? ⟨p, 1, none⟩ = some (.slice (some ⟨rb, 0, none⟩) n rc) → (w'.setCell ⟨q, 1, none⟩ v).cell? ⟨p, 1, none⟩ = some (.slice (some ⟨rb, 0, none⟩) n rc) := fun w' v h => cell_setCell_ne h hpq
  have KO1 := And.intro (World.ownsRow.drew (ownsRow_keep (w' := Wa) HB.out.ro (fun k hk => Aa.out.block k (HB.out.ro.lt k hk).2))) (bools_one st.rotten)
  have KK1 := Lib.hid KQ1
  clear KQ1
  refine wp_region_held_drew (S := (fun w' => w'.cell? ⟨p, 1, none⟩ = some (.slice (some ⟨rb, 0, none⟩) n rc))) (by kernel_rfl) (by first | exact kd1 | exact KA1 _ hg1 | exact KS1 _ _ (KA1 _ hg1)) (fun hHeld => ?_)
  refine wpAnyH_take (i := 0) (v := ?_) rfl (by kernel_rfl) (by kernel_rfl) (by kernel_rfl) (fun _ _ _ h => h) (Or.inl ⟨by rfl, ?_⟩) (by assumption) ?_
  rotate_left
  · (intro wq hSw; (try dsimp only at hSw); (try simp only [List.getElem_toArray, List.getElem_cons_succ, List.getElem_cons_zero]); go_simp); try with_reducible rfl
  try simp only [List.getElem_toArray, List.getElem_cons_succ, List.getElem_cons_zero, Act.put, List.setIfInBounds_toArray, List.set_cons_zero, List.set_cons_succ]
  refine wpAnyH_take (i := 1) (v := ?_) rfl (by kernel_rfl) (by kernel_rfl) (by kernel_rfl) (fun _ _ _ h => h) (Or.inl ⟨by rfl, ?_⟩) (by assumption) ?_
  rotate_left
  · (intro wq hSw; (try dsimp only at hSw); (try simp only [List.getElem_toArray, List.getElem_cons_succ, List.getElem_cons_zero]); go_simp); try with_reducible rfl
  try simp only [List.getElem_toArray, List.getElem_cons_succ, List.getElem_cons_zero, Act.put, List.setIfInBounds_toArray, List.set_cons_zero, List.set_cons_succ]
  refine wpAnyH_take (i := 2) (v := ?_) rfl (by kernel_rfl) (by kernel_rfl) (by kernel_rfl) (fun _ _ _ h => h) (Or.inl ⟨by rfl, ?_⟩) (by assumption) ?_
  rotate_left
  · (intro wq hSw; (try dsimp only at hSw); (try simp only [List.getElem_toArray, List.getElem_cons_succ, List.getElem_cons_zero]); go_simp); try with_reducible rfl
  try simp only [List.getElem_toArray, List.getElem_cons_succ, List.getElem_cons_zero, Act.put, List.setIfInBounds_toArray, List.set_cons_zero, List.set_cons_succ]
  refine wpAnyH_take (i := 3) (v := ?_) rfl (by kernel_rfl) (by kernel_rfl) (by kernel_rfl) (fun _ _ _ h => h) (Or.inl ⟨by rfl, ?_⟩) (by assumption) ?_
  rotate_left
  · (intro wq hSw; (try dsimp only at hSw); (try simp only [List.getElem_toArray, List.getElem_cons_succ, List.getElem_cons_zero]); go_simp); try with_reducible rfl
  try simp only [List.getElem_toArray, List.getElem_cons_succ, List.getElem_cons_zero, Act.put, List.setIfInBounds_toArray, List.set_cons_zero, List.set_cons_succ]
  refine wpAnyH_take (i := 5) (v := ?_) rfl (by kernel_rfl) (by kernel_rfl) (by kernel_rfl) (fun _ _ _ h => h) (Or.inl ⟨by rfl, ?_⟩) (by assumption) ?_
  rotate_left
  · (intro wq hSw; (try dsimp only at hSw); (try simp only [List.getElem_toArray, List.getElem_cons_succ, List.getElem_cons_zero]); go_simp); try with_reducible rfl
  try simp only [List.getElem_toArray, List.getElem_cons_succ, List.getElem_cons_zero, Act.put, List.setIfInBounds_toArray, List.set_cons_zero, List.set_cons_succ]
  refine wpAnyH_take (i := 6) (v := ?_) rfl (by kernel_rfl) (by kernel_rfl) (by kernel_rfl) (fun _ _ _ h => h) (Or.inl ⟨by rfl, ?_⟩) (by assumption) ?_
  rotate_left
  · (intro wq hSw; (try dsimp only at hSw); (try simp only [List.getElem_toArray, List.getElem_cons_succ, List.getElem_cons_zero]); go_simp); try with_reducible rfl
  try simp only [List.getElem_toArray, List.getElem_cons_succ, List.getElem_cons_zero, Act.put, List.setIfInBounds_toArray, List.set_cons_zero, List.set_cons_succ]
  refine wpAnyH_take (i := 7) (v := ?_) rfl (by kernel_rfl) (by kernel_rfl) (by kernel_rfl) (fun _ _ _ h => h) (Or.inl ⟨by rfl, ?_⟩) (by assumption) ?_
  rotate_left
  · (intro wq hSw; (try dsimp only at hSw); (try simp only [List.getElem_toArray, List.getElem_cons_succ, List.getElem_cons_zero]); go_simp); try with_reducible rfl
  try simp only [List.getElem_toArray, List.getElem_cons_succ, List.getElem_cons_zero, Act.put, List.setIfInBounds_toArray, List.set_cons_zero, List.set_cons_succ]
  refine wpAnyH_take (i := 8) (v := ?_) rfl (by kernel_rfl) (by kernel_rfl) (by kernel_rfl) (fun _ _ _ h => h) (Or.inl ⟨by rfl, ?_⟩) (by assumption) ?_
  rotate_left
  · (intro wq hSw; (try dsimp only at hSw); (try simp only [List.getElem_toArray, List.getElem_cons_succ, List.getElem_cons_zero]); go_simp); try with_reducible rfl
  try simp only [List.getElem_toArray, List.getElem_cons_succ, List.getElem_cons_zero, Act.put, List.setIfInBounds_toArray, List.set_cons_zero, List.set_cons_succ]
  refine wpAnyH_ready (rs := [4]) (by kernel_rfl) (by simp) ?_
  refine AllReadyH.cons rfl (fun K hK => ?_) AllReadyH.nil
  try simp only [List.getElem_toArray, List.getElem_cons_succ, List.getElem_cons_zero]
  go_simp
  refine hK.out _ _ (by first | exact kd1 | exact KA1 _ hg1 | exact KS1 _ _ (KA1 _ hg1)) (fun hHeld => ?_)
  clear hK K
  try simp only [List.getElem_toArray, List.getElem_cons_succ, List.getElem_cons_zero, Act.put, List.setIfInBounds_toArray, List.set_cons_zero, List.set_cons_succ]
  refine wpAnyH_ready (rs := [9]) (by kernel_rfl) (by simp) ?_
  refine AllReadyH.cons rfl (fun K hK => ?_) AllReadyH.nil
  refine step_clone (by rfl) _ _ 42 (by rfl) slBool KO1 (by rfl) (by rfl) (by omega) (by unfold maxLen; omega) ?_
  intro v1 w41 own1 hg1
  obtain ⟨B1, C1, rfl⟩ := own_form own1
  obtain ⟨kz1, zz1⟩ := KK1.out w41 hg1
  have gg1 := undrew hg1
  refine hK.out _ _ (by first | exact kd1 | exact KA1 _ hg1 | exact KS1 _ _ (KA1 _ hg1)) (fun hHeld => ?_)
  clear hK K
  try simp only [List.getElem_toArray, List.getElem_cons_succ, List.getElem_cons_zero, Act.put, List.setIfInBounds_toArray, List.set_cons_zero, List.set_cons_succ]
  refine wpAnyH_take (i := 10) (v := ?_) rfl (by kernel_rfl) (by kernel_rfl) (by kernel_rfl) (fun _ _ _ h => h) (Or.inl ⟨by rfl, ?_⟩) (by assumption) ?_
  rotate_left
  · (intro wq hSw; (try dsimp only at hSw); (try simp only [List.getElem_toArray, List.getElem_cons_succ, List.getElem_cons_zero]); go_simp); try with_reducible rfl
  try simp only [List.getElem_toArray, List.getElem_cons_succ, List.getElem_cons_zero, Act.put, List.setIfInBounds_toArray, List.set_cons_zero, List.set_cons_succ]
  refine wpAnyH_take (i := 11) (v := ?_) rfl (by kernel_rfl) (by kernel_rfl) (by kernel_rfl) (fun _ _ _ h => h) (Or.inl ⟨by rfl, ?_⟩) (by assumption) ?_
  rotate_left
  · (intro wq hSw; (try dsimp only at hSw); (try simp only [List.getElem_toArray, List.getElem_cons_succ, List.getElem_cons_zero]); go_simp); try with_reducible rfl
  try simp only [List.getElem_toArray, List.getElem_cons_succ, List.getElem_cons_zero, Act.put, List.setIfInBounds_toArray, List.set_cons_zero, List.set_cons_succ]
  refine wpAnyH_ready (rs := [12]) (by kernel_rfl) (by simp) ?_
  refine AllReadyH.cons rfl (fun K hK => ?_) AllReadyH.nil
  try simp only [List.getElem_toArray, List.getElem_cons_succ, List.getElem_cons_zero]
  go_simp
  refine hK.out _ _ (by first | exact kd1 | exact KA1 _ hg1 | exact KS1 _ _ (KA1 _ hg1)) (fun hHeld => ?_)
  clear hK K
  try simp only [List.getElem_toArray, List.getElem_cons_succ, List.getElem_cons_zero, Act.put, List.setIfInBounds_toArray, List.set_cons_zero, List.set_cons_succ]
  refine wpAnyH_done (by kernel_rfl) ?_ _
  obtain ⟨Wb, hWb⟩ : ∃ x, w41.setCell ⟨q, 1, none⟩ (.slice B1 n C1) = x := ⟨_, rfl⟩
  have Ab : Hid (Below w1.heap.size w1 Wb) := Lib.hid (by rw [← hWb]; exact (Aa.out.trans ((grown_below gg1).mono Aa.out.size)).setCell hqs _)
  have Xb : Hid (BoxAt Wb q #[.slice B0 n C0, .slice B1 n C1, .slice none 0 0, .map (some mq), .bool st.dead]) := Lib.hid (by rw [← hWb]; exact (Xa.out.keep (gg1.block q Xa.out.lt (by simp))).set 1 (.slice B1 n C1))
  have Mb : Hid (MapAt (Value.int .i64) Wb mq ([] : List (Int × Value))) := Lib.hid (by rw [← hWb]; exact (Ma.out.keep (gg1.block mq Ma.out.lt (by simp))).keep (Below.heap_setCell _ _ _ _ hmqq))
  have P0b := Lib.hid (ownsRow_keep (w' := Wb) P0a.out (fun k hk => by rw [← hWb]; exact (Below.heap_setCell _ _ _ _ (by have := (P0a.out.lt k hk).1; have := hq0; have := hqa; show k ≠ q; omega)).trans (gg1.block k (P0a.out.lt k hk).2 (by simp))))
  have P1b : Hid (Wb.ownsRow Wa.heap.size _ _ (.slice B1 n C1) _ _) := Lib.hid (by rw [← hWb]; exact ownsRow_keep own1 (fun k hk => Below.heap_setCell _ _ _ _ (by have h1 := (own1.lt k hk).1; have h2 := Xa.out.lt; show k ≠ q; simp at h1; omega)))
  have G1 : Hid (∀ k, Value.ownBlock (.slice B1 n C1) = some k → Wa.heap.size ≤ k ∧ k < Wb.heap.size) := Lib.hid (fun k hk => P1b.out.lt k hk)
  have hqb : q < Wb.heap.size := Xb.out.lt
  clear kd1 kq1 kf1 KA1 KS1 KO1 KK1 hg1 gg1 kz1 zz1 own1 hHeld
  try rw [hWb]
  go_wp2_with fail
  try rw [hWb]
  clear hWb
  have kd2 : Wb.cell? ⟨p, 2, none⟩ = some (.slice A st.cache.length cc) := by rw [Ab.out.cell (p := ⟨p, 2, none⟩) hpl]; exact k2
  have kq2 : Wb.cell? ⟨q, 2, none⟩ = some (.slice none 0 0) := Xb.out.cell 2
  have kf2 : Wb.frozen? ⟨q, 2, none⟩ = false := Xb.out.frozen 2
  have KA2 : ∀ w', World.grownBy (World.drew Wb) w' none → w'.cell? ⟨p, 2, none⟩ = some (.slice A st.cache.length cc) := fun w' hg => cell_far2 (w := World.drew Wb) kd2 hg (by simp)
  have KQ2 : ∀ w', World.grownBy (World.drew Wb) w' none → w'.cell? ⟨q, 2, none⟩ = some (.slice none 0 0) ∧ w'.frozen? ⟨q, 2, none⟩ = false := fun w' hg => ⟨cell_far2 (w := World.drew Wb) kq2 hg (by simp), frozen_far2 (w := World.drew Wb) kq2 kf2 hg (by simp)⟩
  have KS2 : ∀ (w' : World) (v : Value), w'.cell? ⟨p, 2, none⟩ = some (.slice A st.cache.length cc) → (w'.setCell ⟨q, 2, none⟩ v).cell? ⟨p, 2, none⟩ = some (.slice A st.cache.length cc) := fun w' v h => cell_setCell_ne h hpq
  have KO2 := And.intro (World.ownsRow.drew (ownsRow_keep (w' := Wb) HB.out.co (fun k hk => Ab.out.block k (HB.out.co.lt k hk).2))) (rows_one (f := waitCells) (fun x u hu => waitCells_one u hu) st.cache)
  have KK2 := Lib.hid KQ2
  clear KQ2
  refine wp_region_held_drew (S := (fun w' => w'.cell? ⟨p, 2, none⟩ = some (.slice A st.cache.length cc))) (by kernel_rfl) (by first | exact kd2 | exact KA2 _ hg2 | exact KS2 _ _ (KA2 _ hg2)) (fun hHeld => ?_)
  refine wpAnyH_take (i := 0) (v := ?_) rfl (by kernel_rfl) (by kernel_rfl) (by kernel_rfl) (fun _ _ _ h => h) (Or.inl ⟨by rfl, ?_⟩) (by assumption) ?_
  rotate_left
  · (intro wq hSw; (try dsimp only at hSw); (try simp only [List.getElem_toArray, List.getElem_cons_succ, List.getElem_cons_zero]); go_simp); try with_reducible rfl
  try simp only [List.getElem_toArray, List.getElem_cons_succ, List.getElem_cons_zero, Act.put, List.setIfInBounds_toArray, List.set_cons_zero, List.set_cons_succ]
  refine wpAnyH_take (i := 1) (v := ?_) rfl (by kernel_rfl) (by kernel_rfl) (by kernel_rfl) (fun _ _ _ h => h) (Or.inl ⟨by rfl, ?_⟩) (by assumption) ?_
  rotate_left
  · (intro wq hSw; (try dsimp only at hSw); (try simp only [List.getElem_toArray, List.getElem_cons_succ, List.getElem_cons_zero]); go_simp); try with_reducible rfl
  try simp only [List.getElem_toArray, List.getElem_cons_succ, List.getElem_cons_zero, Act.put, List.setIfInBounds_toArray, List.set_cons_zero, List.set_cons_succ]
  refine wpAnyH_take (i := 2) (v := ?_) rfl (by kernel_rfl) (by kernel_rfl) (by kernel_rfl) (fun _ _ _ h => h) (Or.inl ⟨by rfl, ?_⟩) (by assumption) ?_
  rotate_left
  · (intro wq hSw; (try dsimp only at hSw); (try simp only [List.getElem_toArray, List.getElem_cons_succ, List.getElem_cons_zero]); go_simp); try with_reducible rfl
  try simp only [List.getElem_toArray, List.getElem_cons_succ, List.getElem_cons_zero, Act.put, List.setIfInBounds_toArray, List.set_cons_zero, List.set_cons_succ]
  refine wpAnyH_take (i := 3) (v := ?_) rfl (by kernel_rfl) (by kernel_rfl) (by kernel_rfl) (fun _ _ _ h => h) (Or.inl ⟨by rfl, ?_⟩) (by assumption) ?_
  rotate_left
  · (intro wq hSw; (try dsimp only at hSw); (try simp only [List.getElem_toArray, List.getElem_cons_succ, List.getElem_cons_zero]); go_simp); try with_reducible rfl
  try simp only [List.getElem_toArray, List.getElem_cons_succ, List.getElem_cons_zero, Act.put, List.setIfInBounds_toArray, List.set_cons_zero, List.set_cons_succ]
  refine wpAnyH_take (i := 5) (v := ?_) rfl (by kernel_rfl) (by kernel_rfl) (by kernel_rfl) (fun _ _ _ h => h) (Or.inl ⟨by rfl, ?_⟩) (by assumption) ?_
  rotate_left
  · (intro wq hSw; (try dsimp only at hSw); (try simp only [List.getElem_toArray, List.getElem_cons_succ, List.getElem_cons_zero]); go_simp); try with_reducible rfl
  try simp only [List.getElem_toArray, List.getElem_cons_succ, List.getElem_cons_zero, Act.put, List.setIfInBounds_toArray, List.set_cons_zero, List.set_cons_succ]
  refine wpAnyH_take (i := 6) (v := ?_) rfl (by kernel_rfl) (by kernel_rfl) (by kernel_rfl) (fun _ _ _ h => h) (Or.inl ⟨by rfl, ?_⟩) (by assumption) ?_
  rotate_left
  · (intro wq hSw; (try dsimp only at hSw); (try simp only [List.getElem_toArray, List.getElem_cons_succ, List.getElem_cons_zero]); go_simp); try with_reducible rfl
  try simp only [List.getElem_toArray, List.getElem_cons_succ, List.getElem_cons_zero, Act.put, List.setIfInBounds_toArray, List.set_cons_zero, List.set_cons_succ]
  refine wpAnyH_take (i := 7) (v := ?_) rfl (by kernel_rfl) (by kernel_rfl) (by kernel_rfl) (fun _ _ _ h => h) (Or.inl ⟨by rfl, ?_⟩) (by assumption) ?_
  rotate_left
  · (intro wq hSw; (try dsimp only at hSw); (try simp only [List.getElem_toArray, List.getElem_cons_succ, List.getElem_cons_zero]); go_simp); try with_reducible rfl
  try simp only [List.getElem_toArray, List.getElem_cons_succ, List.getElem_cons_zero, Act.put, List.setIfInBounds_toArray, List.set_cons_zero, List.set_cons_succ]
  refine wpAnyH_take (i := 8) (v := ?_) rfl (by kernel_rfl) (by kernel_rfl) (by kernel_rfl) (fun _ _ _ h => h) (Or.inl ⟨by rfl, ?_⟩) (by assumption) ?_
  rotate_left
  · (intro wq hSw; (try dsimp only at hSw); (try simp only [List.getElem_toArray, List.getElem_cons_succ, List.getElem_cons_zero]); go_simp); try with_reducible rfl
  try simp only [List.getElem_toArray, List.getElem_cons_succ, List.getElem_cons_zero, Act.put, List.setIfInBounds_toArray, List.set_cons_zero, List.set_cons_succ]
  refine wpAnyH_ready (rs := [4]) (by kernel_rfl) (by simp) ?_
  refine AllReadyH.cons rfl (fun K hK => ?_) AllReadyH.nil
  try simp only [List.getElem_toArray, List.getElem_cons_succ, List.getElem_cons_zero]
  go_simp
  refine hK.out _ _ (by first | exact kd2 | exact KA2 _ hg2 | exact KS2 _ _ (KA2 _ hg2)) (fun hHeld => ?_)
  clear hK K
  try simp only [List.getElem_toArray, List.getElem_cons_succ, List.getElem_cons_zero, Act.put, List.setIfInBounds_toArray, List.set_cons_zero, List.set_cons_succ]
  refine wpAnyH_ready (rs := [9]) (by kernel_rfl) (by simp) ?_
  refine AllReadyH.cons rfl (fun K hK => ?_) AllReadyH.nil
  refine step_clone (by rfl) _ _ 133 (by rfl) slWait KO2 (by rfl) (by rfl) (by omega) (by unfold maxLen; omega) ?_
  intro v2 w42 own2 hg2
  obtain ⟨B2, C2, rfl⟩ := own_form own2
  obtain ⟨kz2, zz2⟩ := KK2.out w42 hg2
  have gg2 := undrew hg2
  refine hK.out _ _ (by first | exact kd2 | exact KA2 _ hg2 | exact KS2 _ _ (KA2 _ hg2)) (fun hHeld => ?_)
  clear hK K
  try simp only [List.getElem_toArray, List.getElem_cons_succ, List.getElem_cons_zero, Act.put, List.setIfInBounds_toArray, List.set_cons_zero, List.set_cons_succ]
  refine wpAnyH_take (i := 10) (v := ?_) rfl (by kernel_rfl) (by kernel_rfl) (by kernel_rfl) (fun _ _ _ h => h) (Or.inl ⟨by rfl, ?_⟩) (by assumption) ?_
  rotate_left
  · (intro wq hSw; (try dsimp only at hSw); (try simp only [List.getElem_toArray, List.getElem_cons_succ, List.getElem_cons_zero]); go_simp); try with_reducible rfl
  try simp only [List.getElem_toArray, List.getElem_cons_succ, List.getElem_cons_zero, Act.put, List.setIfInBounds_toArray, List.set_cons_zero, List.set_cons_succ]
  refine wpAnyH_take (i := 11) (v := ?_) rfl (by kernel_rfl) (by kernel_rfl) (by kernel_rfl) (fun _ _ _ h => h) (Or.inl ⟨by rfl, ?_⟩) (by assumption) ?_
  rotate_left
  · (intro wq hSw; (try dsimp only at hSw); (try simp only [List.getElem_toArray, List.getElem_cons_succ, List.getElem_cons_zero]); go_simp); try with_reducible rfl
  try simp only [List.getElem_toArray, List.getElem_cons_succ, List.getElem_cons_zero, Act.put, List.setIfInBounds_toArray, List.set_cons_zero, List.set_cons_succ]
  refine wpAnyH_ready (rs := [12]) (by kernel_rfl) (by simp) ?_
  refine AllReadyH.cons rfl (fun K hK => ?_) AllReadyH.nil
  try simp only [List.getElem_toArray, List.getElem_cons_succ, List.getElem_cons_zero]
  go_simp
  refine hK.out _ _ (by first | exact kd2 | exact KA2 _ hg2 | exact KS2 _ _ (KA2 _ hg2)) (fun hHeld => ?_)
  clear hK K
  try simp only [List.getElem_toArray, List.getElem_cons_succ, List.getElem_cons_zero, Act.put, List.setIfInBounds_toArray, List.set_cons_zero, List.set_cons_succ]
  refine wpAnyH_done (by kernel_rfl) ?_ _
  obtain ⟨Wc, hWc⟩ : ∃ x, w42.setCell ⟨q, 2, none⟩ (.slice B2 st.cache.length C2) = x := ⟨_, rfl⟩
  have Ac : Hid (Below w1.heap.size w1 Wc) := Lib.hid (by rw [← hWc]; exact (Ab.out.trans ((grown_below gg2).mono Ab.out.size)).setCell hqs _)
  have Xc : Hid (BoxAt Wc q #[.slice B0 n C0, .slice B1 n C1, .slice B2 st.cache.length C2, .map (some mq), .bool st.dead]) := Lib.hid (by rw [← hWc]; exact (Xb.out.keep (gg2.block q Xb.out.lt (by simp))).set 2 (.slice B2 st.cache.length C2))
  have Mc : Hid (MapAt (Value.int .i64) Wc mq ([] : List (Int × Value))) := Lib.hid (by rw [← hWc]; exact (Mb.out.keep (gg2.block mq Mb.out.lt (by simp))).keep (Below.heap_setCell _ _ _ _ hmqq))
  have P0c := Lib.hid (ownsRow_keep (w' := Wc) P0b.out (fun k hk => by rw [← hWc]; exact (Below.heap_setCell _ _ _ _ (by have := (P0b.out.lt k hk).1; have := hq0; have := hqa; show k ≠ q; omega)).trans (gg2.block k (P0b.out.lt k hk).2 (by simp))))
  have P1c := Lib.hid (ownsRow_keep (w' := Wc) P1b.out (fun k hk => by rw [← hWc]; exact (Below.heap_setCell _ _ _ _ (by have := (P1b.out.lt k hk).1; have := hq0; have := hqa; show k ≠ q; omega)).trans (gg2.block k (P1b.out.lt k hk).2 (by simp))))
  have P2c : Hid (Wc.ownsRow Wb.heap.size _ _ (.slice B2 st.cache.length C2) _ _) := Lib.hid (by rw [← hWc]; exact ownsRow_keep own2 (fun k hk => Below.heap_setCell _ _ _ _ (by have h1 := (own2.lt k hk).1; have h2 := Xb.out.lt; show k ≠ q; simp at h1; omega)))
  have G2 : Hid (∀ k, Value.ownBlock (.slice B2 st.cache.length C2) = some k → Wb.heap.size ≤ k ∧ k < Wc.heap.size) := Lib.hid (fun k hk => P2c.out.lt k hk)
  have hqc : q < Wc.heap.size := Xc.out.lt
  clear kd2 kq2 kf2 KA2 KS2 KO2 KK2 hg2 gg2 kz2 zz2 own2 hHeld
  try rw [hWc]
  clear hWc

  obtain ⟨es, hm1, hm2⟩ := HB.out.ma
  have kc3 : Wc.cell? ⟨p, 3, none⟩ = some (.map (some mb)) := by rw [Ac.out.cell (p := ⟨p, 3, none⟩) hpl]; exact k3
  have hbl := HB.out.blocks
  have hmc : Hid (MapAt (Value.int .i64) Wc mb es) := Lib.hid (hm1.keep (Ac.out.block mb hbl.2.2.2.1))
  have hmbq : mb ≠ mq := by have := hbl.2.2.2.1; omega
  have hmnd := hm1.1
  have HL := Lib.hid (fun k v (h : (k, v) ∈ es) => look_of_mem hmnd h)
  have HND := Lib.hid hmnd
  have HM2 := Lib.hid hm2
  clear hm1 hm2 hmnd hbl k0 k1 k2 k3 k4
  go_wp2_with (refine wpList_range mapTy rfl rfl (by exact rfl) hmc.out ?_; intro y hit hys)
  have hit := Lib.hid hit
  have hK0 : Hid (Keep (fun k => k = mq) Wc y.to) := Lib.hid (Keep.of_below y.ok)
  have hM0 : Hid (MapAt (Value.int .i64) y.to mq ([] : List (Int × Value))) := Lib.hid (Mc.out.below y.ok)
  have hmb1 : mb < Wc.heap.size := by have := hmc.out.lt; omega
  have hmq1 : mq < Wc.heap.size := by have := Mc.out.lt; omega
  go_frame
  go_loopg [4, 5] es.length (fun g x4 x5 wr => ∃ (left es2 : List (Int × Value)), left.length = g ∧ Hid (IterAt (Value.int .i64) wr Wc.heap.size mb left) ∧ Hid (MapAt (Value.int .i64) wr mq es2) ∧ Hid (Keep (fun k => k = mq) Wc wr) ∧ Wc.heap.size < wr.heap.size ∧ Hid ((left.map (·.1)).Nodup ∧ (∀ k v, (k, v) ∈ left → mlook es k = some v) ∧ ∀ k, mlook es2 k = if k ∈ left.map (·.1) then none else mlook es k))
  case atStart => exact ⟨es, [], rfl, hit, hM0, hK0, hys, Lib.hid ⟨HND.out, HL.out, fun k => by
    by_cases h : k ∈ es.map (·.1)
    · simp [h, mlook]
    · rw [if_neg h]
      symm
      exact look_none.2 (fun p hp e => h (List.mem_map.2 ⟨p, hp, e⟩))⟩⟩
  case round =>
    clear hit hM0 hK0 hys
    obtain ⟨left, es2, rfl, hit, hM, hK, hys, hrelm⟩ := hrel
    go_wp2_with (refine wpList_next rfl rfl rfl hit.out ?hDone ?hMore)
    case hMore =>
      intro k v left' u hperm hit2 hus hent
      have hlen : left'.length < left.length := by have := hperm.length_eq; simp at this; omega
      have hub : Keep (fun k => k = mq) Wc u.to := hK.out.trans (Keep.of_grown u.ok) (fun k hk hlt => by injection hk with hk; omega)
      have hMu : MapAt (Value.int .i64) u.to mq es2 := hM.out.grw u.ok (by intro e; injection e with e; omega)
      have HP := Lib.hid hperm
      obtain ⟨w5, r5, m5, g5, s5⟩ := run_mapUpdate (P := Tryz.prog) ktInt mapTy hMu k v
      have kq3 : u.to.cell? ⟨q, 3, none⟩ = some (.map (some mq)) := (World.cell?_of_block (hub.block q hqc (by show ¬ q = mq; omega))).trans (Xc.out.cell 3)
      have hK5 : Hid (Keep (fun k => k = mq) Wc w5) := Lib.hid (hub.trans (Keep.of_grown g5) (fun k hk _ => by injection hk))
      have hit5 : Hid (IterAt (Value.int .i64) w5 Wc.heap.size mb left') := Lib.hid (hit2.keep (g5.block mb hit2.lt.2 (by simpa using hmbq)) (g5.block _ hit2.lt.1 (by intro e; injection e with e; omega)))
      have M5 := Lib.hid m5
      have S5 : Wc.heap.size < w5.heap.size := by rw [s5, hus]; exact hys
      have hit2 := Lib.hid hit2
      clear hperm hub hMu m5 g5 s5 hus hK hM
      go_wp2_with fail
      go_roundg left'.length
      case measure => exact hlen
      case rel =>
        obtain ⟨n1, n2, n3⟩ := hrelm.out
        have hpk := HP.out.map (·.1)
        have hnd2 := hpk.nodup_iff.1 n1
        simp only [List.map_cons, List.nodup_cons] at hnd2
        refine ⟨left', _, rfl, hit5, M5, hK5, S5, Lib.hid ⟨hnd2.2, fun k2 v2 h2 => n2 k2 v2 (HP.out.mem_iff.2 (List.mem_cons_of_mem _ h2)), fun j => ?_⟩⟩
        rw [look_put, n3]
        by_cases e : k = j
        · subst e
          rw [if_pos rfl, if_neg hnd2.1, n2 k v (HP.out.mem_iff.2 (by simp))]
        · have hm : j ∈ left.map (·.1) ↔ j ∈ left'.map (·.1) := by
            rw [hpk.mem_iff]
            simp only [List.map_cons, List.mem_cons]
            exact ⟨fun h => h.resolve_left (fun h2 => e h2.symm), .inr⟩
          rw [if_neg e]
          by_cases hj : j ∈ left'.map (·.1)
          · rw [if_pos (hm.2 hj), if_pos hj]
          · rw [if_neg (fun h => hj (hm.1 h)), if_neg hj]
    case hDone =>
      intro hl0
      subst hl0
      go_wp2_with fail
      go_ret
      have hok := HB.out.ok
      have hn1 := HB.out.n1
      obtain ⟨g0, c0', e0, _, _⟩ := P0c.out.form (by omega)
      obtain ⟨rfl, rfl⟩ : B0 = some ⟨g0, 0, none⟩ ∧ C0 = c0' := by simpa using e0
      obtain ⟨g1, c1', e1, _, _⟩ := P1c.out.form (by omega)
      obtain ⟨rfl, rfl⟩ : B1 = some ⟨g1, 0, none⟩ ∧ C1 = c1' := by simpa using e1
      obtain ⟨a0, a0'⟩ := G0.out g0 rfl
      obtain ⟨a1, a1'⟩ := G1.out g1 rfl
      have hwc : Wc.heap.size ≤ wr.heap.size := hK.out.size
      have hs1 : w.heap.size ≤ q := by omega
      have hk : ∀ k, k < Wc.heap.size → k ≠ mq → wr.heap[k]? = Wc.heap[k]? := fun k h1 h2 => hK.out.block k h1 h2
      have l0 := (P0c.out.lt g0 rfl).2
      have l1 := (P1c.out.lt g1 rfl).2
      have hbW : Below w.heap.size w wr := (H1.out.trans (Ac.out.mono h1s)).trans (hK.out.below (B := w.heap.size) (by omega) (by rintro k rfl; omega))
      have hq2 : q ≠ mq := fun e => hmqq e.symm
      refine ⟨q, fun b => w.heap.size ≤ b ∧ b < wr.heap.size, rfl, ⟨g0, C0, g1, C1, B2, C2, mq, ⟨hok, hn1, h600, Xc.out.keep (hk q hqc hq2), ?_, ?_, ?_, ⟨es2, hM.out, fun k => ?_⟩, by omega, by omega, hq2, by omega, by omega, by omega, ?_, ?_, ?_, ?_⟩, ⟨hs1, by omega⟩, ⟨by omega, by omega⟩, ⟨by omega, by omega⟩, ⟨by omega, by omega⟩, fun k hk2 => ?_, fun k hk2 => hk2.2⟩, fun b hb => hb.1, hbW⟩
      · exact own_base (ownsRow_keep P0c.out (by rintro k ⟨⟩; exact hk g0 l0 (by omega))) (Nat.zero_le _)
      · exact own_base (ownsRow_keep P1c.out (by rintro k ⟨⟩; exact hk g1 l1 (by omega))) (Nat.zero_le _)
      · exact own_base (ownsRow_keep P2c.out (fun k hk2 => hk k (P2c.out.lt k hk2).2 (by have := (P2c.out.lt k hk2).1; omega))) (Nat.zero_le _)
      · obtain ⟨_, _, n3⟩ := hrelm.out
        rw [n3 k, if_neg (by simp)]
        exact HM2.out k
      · intro e; have := (G2.out _ e).1; omega
      · intro e; have := (G2.out _ e).1; omega
      · intro e; have := (G2.out _ e).1; omega
      · intro e; have := (G2.out _ e).1; omega
      · obtain ⟨b1, b2⟩ := G2.out k hk2
        exact ⟨by omega, by omega⟩
end Go.Proofs.YteialipoedmmmaaGreat

set_option linter.unusedSimpArgs false
set_option linter.unusedVariables false
namespace Go.Proofs.YteialipoedmmmaaGreat
open Go.RowKit Go.Cib
attribute [local go_sem] cell_set Later.cell Later.frozen Grw.cell Grw.frozen

set_option maxRecDepth 100000 in
theorem rot_unready {F : Nat → Prop} {w : World} {p n : Nat} {st : DSt} (h : Hid (DrvAt F w p n st)) (z off mask : Int) (hz : readyE st.dead n z ≠ 0) :
    Calls Tryz.prog 75 #[.pointer (some ⟨p, 0, none⟩), .int .i64 z, .int .i64 off, .int .u32 mask] w fun e w' => e = .returned (.int .i64 (readyE st.dead n z)) ∧ Below w.heap.size w w' := by
  obtain ⟨sb, sc, rb, rc, A, cc, mb, H⟩ := h.out.box
  go_enter Tryz.func75, Tryz.ntmps75
  go_wp2_with fail
  refine (dready_any z H).mono ?_
  rintro e w1 ⟨rfl, h1⟩
  obtain ⟨E, hE⟩ : ∃ E, readyE st.dead n z = E := ⟨_, rfl⟩
  rw [hE] at hz ⊢
  have hz2 : (E == 0) = false := by simpa using hz
  have hz3 : (E != 0) = true := by simpa using hz
  have HE := Lib.hid hE
  clear hE H
  go_wp2_with fail
  go_ret
  exact ⟨by rw [HE.out]; rfl, h1⟩
set_option maxRecDepth 100000 in
theorem rot_off {F : Nat → Prop} {w : World} {p n : Nat} {st : DSt} (h : Hid (DrvAt F w p n st)) (z off mask : Int) (hz : readyE st.dead n z = 0) (ho : ¬ ((0 ≤ off ∧ off ≤ 60) ∧ ¬ mask = 0)) :
    Calls Tryz.prog 75 #[.pointer (some ⟨p, 0, none⟩), .int .i64 z, .int .i64 off, .int .u32 mask] w fun e w' => e = .returned (.int .i64 2) ∧ Below w.heap.size w w' := by
  obtain ⟨sb, sc, rb, rc, A, cc, mb, H⟩ := h.out.box
  by_cases h1 : off < 0
  · have d1 : decide (off < 0) = true := by simpa using h1
    clear ho
    go_enter Tryz.func75, Tryz.ntmps75
    go_wp2_with fail
    refine (dready_any z H).mono ?_
    rintro e w1 ⟨rfl, t1⟩
    rw [hz]
    clear H
    go_wp2_with fail
    go_ret
    exact ⟨rfl, t1⟩
  have d1 : decide (off < 0) = false := by simpa using h1
  by_cases h2 : 60 < off
  · have d2 : decide (60 < off) = true := by simpa using h2
    clear ho
    go_enter Tryz.func75, Tryz.ntmps75
    go_wp2_with fail
    refine (dready_any z H).mono ?_
    rintro e w1 ⟨rfl, t1⟩
    rw [hz]
    clear H
    go_wp2_with fail
    go_ret
    exact ⟨rfl, t1⟩
  have d2 : decide (60 < off) = false := by simpa using h2
  have h3 : (mask == 0) = true := by
    simp only [beq_iff_eq]
    exact Classical.byContradiction fun h => ho ⟨⟨by omega, by omega⟩, h⟩
  clear ho
  go_enter Tryz.func75, Tryz.ntmps75
  go_wp2_with fail
  refine (dready_any z H).mono ?_
  rintro e w1 ⟨rfl, t1⟩
  rw [hz]
  clear H
  go_wp2_with fail
  go_ret
  exact ⟨rfl, t1⟩
theorem ready_iff (st : DSt) (n : Nat) (z : Int) : readyE st.dead n z = 0 ↔ st.dead = false ∧ 0 ≤ z ∧ z < n := by
  cases hd : st.dead with
  | true => simp [readyE]
  | false => by_cases h : 0 ≤ z ∧ z < n <;> simp [readyE, h]

def rotDOk (st : DSt) (n : Nat) (z off mask : Int) : Prop := (st.dead = false ∧ 0 ≤ z ∧ z < n) ∧ ((0 ≤ off ∧ off ≤ 60) ∧ ¬ mask = 0) ∧ st.rotten[z.toNat]? = some false
instance (st : DSt) (n : Nat) (z off mask : Int) : Decidable (rotDOk st n z off mask) := by unfold rotDOk; infer_instance
end Go.Proofs.YteialipoedmmmaaGreat

set_option linter.unusedSimpArgs false
set_option linter.unusedVariables false
namespace Go.Proofs.YteialipoedmmmaaGreat
open Go.RowKit Go.Cib
attribute [local go_sem] cell_set Later.cell Later.frozen Grw.cell Grw.frozen

/-- A pointer, whole. -/
def PtrR (_ : Nat → Prop) (_ : World) (cs : List Value) (x : Nat) : Prop := cs = [.pointer (some ⟨x, 0, none⟩)]
theorem PtrR.stable : Stable PtrR := fun _ _ _ _ _ _ h _ => h
theorem PtrR.one : ∀ S w cs x, PtrR S w cs x → ∀ u ∈ cs, u.oneCell' = true := by
  rintro S w cs x rfl u hu
  simp at hu
  subst hu; rfl
structure ArrB (U : Nat → Prop) (w : World) (a : Nat) (v : Value) (Fs : Nat → Nat → Prop) (ps : List Nat) (s : Nat) (sts : List DSt) : Prop where
  box : BoxAt w a #[v]
  own : OwnL PtrR 79 1 0 (fun _ => False) w v ps.length ps
  len : sts.length = ps.length
  drv : ∀ i p st, ps[i]? = some p → sts[i]? = some st → DrvAt (Fs i) w p s st
  apart : ∀ i j k, Fs i k → Fs j k → i = j
  va : v.ownBlock ≠ some a
  fx : ∀ i k, Fs i k → k ≠ a ∧ v.ownBlock ≠ some k
  ua : U a
  uv : ∀ k, v.ownBlock = some k → U k
  uf : ∀ i k, Fs i k → U k
  lt : ∀ k, U k → k < w.heap.size
def ArrAt (U : Nat → Prop) (w : World) (a s : Nat) (sts : List DSt) : Prop := ∃ v Fs ps, ArrB U w a v Fs ps s sts
def AUpd (U : Nat → Prop) (w w' : World) (a s : Nat) (sts : List DSt) : Prop := ∃ U', ArrAt U' w' a s sts ∧ (∀ k, U' k → k < w.heap.size → U k) ∧ Keep U w w'

theorem ArrB.keep {U G : Nat → Prop} {w w' : World} {a s : Nat} {v : Value} {Fs : Nat → Nat → Prop} {ps : List Nat} {sts : List DSt} (h : ArrB U w a v Fs ps s sts) (hk : Keep G w w') (hd : ∀ k, U k → ¬ G k) : ArrB U w' a v Fs ps s sts := by
  have hh : ∀ k, U k → w'.heap[k]? = w.heap[k]? := fun k hu => hk.block k (h.lt k hu) (hd k hu)
  refine ⟨h.box.keep (hh a h.ua), ?_, h.len, fun i p st h1 h2 => (h.drv i p st h1 h2).keep hk (fun k hf => hd k (h.uf i k hf)), h.apart, h.va, h.fx, h.ua, h.uv, h.uf, fun k hu => Nat.lt_of_lt_of_le (h.lt k hu) hk.size⟩
  obtain ⟨css, h1, h2, h3, h4, h5⟩ := h.own
  exact ⟨css, ownsRow_keep h1 (fun k hk2 => hh k (h.uv k hk2)), h2, h3, h4, fun i cs x hc hx => h5 i cs x hc hx⟩
theorem ArrB.below {U : Nat → Prop} {w w' : World} {a s : Nat} {v : Value} {Fs : Nat → Nat → Prop} {ps : List Nat} {sts : List DSt} (h : ArrB U w a v Fs ps s sts) (hk : Below w.heap.size w w') : ArrB U w' a v Fs ps s sts := h.keep (Keep.of_below (F := fun _ => False) hk) (fun _ _ h => h)
theorem ArrAt.keep {U G : Nat → Prop} {w w' : World} {a s : Nat} {sts : List DSt} (h : ArrAt U w a s sts) (hk : Keep G w w') (hd : ∀ k, U k → ¬ G k) : ArrAt U w' a s sts := by
  obtain ⟨v, Fs, ps, h⟩ := h; exact ⟨v, Fs, ps, h.keep hk hd⟩
theorem ArrAt.below {U : Nat → Prop} {w w' : World} {a s : Nat} {sts : List DSt} (h : ArrAt U w a s sts) (hk : Below w.heap.size w w') : ArrAt U w' a s sts := by
  obtain ⟨v, Fs, ps, h⟩ := h; exact ⟨v, Fs, ps, h.below hk⟩
theorem ArrAt.lt {U : Nat → Prop} {w : World} {a s : Nat} {sts : List DSt} (h : ArrAt U w a s sts) {k : Nat} (hk : U k) : k < w.heap.size := by
  obtain ⟨v, Fs, ps, h⟩ := h; exact h.lt k hk
theorem ArrAt.ok {U : Nat → Prop} {w : World} {a s : Nat} {sts : List DSt} (h : ArrAt U w a s sts) : ∀ st ∈ sts, st.ok s := by
  obtain ⟨v, Fs, ps, h⟩ := h
  intro st hst
  obtain ⟨i, hi, rfl⟩ := List.mem_iff_getElem.1 hst
  exact (h.drv i (ps[i]'(by rw [← h.len]; exact hi)) _ (List.getElem?_eq_getElem _) (List.getElem?_eq_getElem _)).ok
theorem ArrAt.upd {U : Nat → Prop} {w w' : World} {a s : Nat} {sts : List DSt} (h : ArrAt U w a s sts) (hk : Below w.heap.size w w') : AUpd U w w' a s sts := ⟨U, h.below hk, fun _ h _ => h, Keep.of_below hk⟩
theorem AUpd.trans {U U1 : Nat → Prop} {w w1 w2 : World} {a s : Nat} {sts : List DSt} (hU : ∀ k, U1 k → k < w.heap.size → U k) (hK : Keep U w w1) (h : AUpd U1 w1 w2 a s sts) : AUpd U w w2 a s sts := by
  obtain ⟨U2, hA, h2, hK2⟩ := h
  exact ⟨U2, hA, fun k h1 hlt => hU k (h2 k h1 (Nat.lt_of_lt_of_le hlt hK.size)) hlt, hK.trans hK2 (fun k h hlt => hU k h hlt)⟩
/-- One drive went on. -/
theorem ArrB.upd1 {U : Nat → Prop} {w w' : World} {a s : Nat} {v : Value} {Fs : Nat → Nat → Prop} {ps : List Nat} {sts : List DSt} (h : ArrB U w a v Fs ps s sts) {i p : Nat} {st' : DSt} (hp : ps[i]? = some p) (hu : Upd (Fs i) w w' p s st') :
    ∃ U' Fs', ArrB U' w' a v Fs' ps s (sts.set i st') ∧ (∀ k, U' k → k < w.heap.size → U k) ∧ Keep U w w' := by
  obtain ⟨F', hD, hF, hK⟩ := hu
  have hil : i < sts.length := by rw [h.len]; exact (List.getElem?_eq_some_iff.1 hp).1
  have hKU : Keep U w w' := hK.mono (fun k hf _ => h.uf i k hf)
  have hlt' : ∀ k, F' k → k < w'.heap.size := fun k hk => hD.lt hk
  refine ⟨fun k => U k ∨ F' k, fun j k => if j = i then F' k else Fs j k, ⟨?_, ?_, by simpa using h.len, ?_, ?_, h.va, ?_, .inl h.ua, fun k hk => .inl (h.uv k hk), ?_, ?_⟩, fun k hk hlt => hk.elim id (fun hf => h.uf i k (hF k hf hlt)), hKU⟩
  · exact h.box.keep (hK.block a (h.lt a h.ua) (fun hf => (h.fx i a hf).1 rfl))
  · obtain ⟨css, h1, h2, h3, h4, h5⟩ := h.own
    exact ⟨css, ownsRow_keep h1 (fun k hk2 => hK.block k (h.lt k (h.uv k hk2)) (fun hf => (h.fx i k hf).2 hk2)), h2, h3, h4, fun i cs x hc hx => h5 i cs x hc hx⟩
  · intro j q st h1 h2
    by_cases hj : j = i
    · subst hj
      rw [hp] at h1
      injection h1 with h1
      subst h1
      rw [List.getElem?_set_self hil] at h2
      injection h2 with h2
      subst h2
      simpa using hD
    · rw [List.getElem?_set_ne (fun e => hj e.symm)] at h2
      simp only [if_neg hj]
      exact (h.drv j q st h1 h2).keep hK (fun k hf hf2 => hj (h.apart j i k hf hf2))
  · intro j1 j2 k
    by_cases e1 : j1 = i <;> by_cases e2 : j2 = i <;> simp only [e1, e2, if_pos, if_neg, not_false_eq_true]
    · intros; trivial
    · intro hf hg
      exact (h.apart _ _ k (hF k hf (h.lt k (h.uf _ k hg))) hg)
    · intro hf hg
      exact e1 (h.apart _ _ k hf (hF k hg (h.lt k (h.uf _ k hf))))
    · exact h.apart j1 j2 k
  · intro j k hf
    by_cases e1 : j = i
    · simp only [e1, if_pos] at hf
      constructor
      · rintro rfl
        exact (h.fx i k (hF k hf (h.lt k h.ua))).1 rfl
      · intro hv
        exact (h.fx i k (hF k hf (h.lt k (h.uv k hv)))).2 hv
    · simp only [e1, if_neg, not_false_eq_true] at hf
      exact h.fx j k hf
  · intro j k hf
    by_cases e1 : j = i
    · simp only [e1, if_pos] at hf; exact .inr hf
    · simp only [e1, if_neg, not_false_eq_true] at hf; exact .inl (h.uf j k hf)
  · rintro k (hk | hk)
    · exact Nat.lt_of_lt_of_le (h.lt k hk) hK.size
    · exact hlt' k hk
theorem arr_cells {U : Nat → Prop} {w : World} {a s : Nat} {v : Value} {Fs : Nat → Nat → Prop} {ps : List Nat} {sts : List DSt} (h : ArrB U w a v Fs ps s sts) : ∃ A c, v = .slice A sts.length c ∧ w.cell? ⟨a, 0, none⟩ = some (.slice A sts.length c) ∧
    ∀ i, i < sts.length → ∃ g p st, A = some ⟨g, 0, none⟩ ∧ ps[i]? = some p ∧ sts[i]? = some st ∧ w.cell? ⟨g, i, none⟩ = some (.pointer (some ⟨p, 0, none⟩)) ∧ DrvAt (Fs i) w p s st := by
  obtain ⟨A, c, rfl, _⟩ := h.own.form
  refine ⟨A, c, by rw [h.len], by rw [h.len]; exact h.box.cell 0, fun i hi => ?_⟩
  rw [h.len] at hi
  obtain ⟨css, h1, h2, h3, h4, h5⟩ := h.own
  obtain ⟨g, cap, e0, _, _⟩ := h1.form (by omega)
  obtain ⟨rfl, rfl⟩ : A = some ⟨g, 0, none⟩ ∧ c = cap := by simpa using e0
  have hic : css[i]? = some (css[i]'(by omega)) := List.getElem?_eq_getElem (by omega)
  have hip : ps[i]? = some (ps[i]'(by omega)) := List.getElem?_eq_getElem (by omega)
  have his : sts[i]? = some (sts[i]'(by rw [h.len]; exact hi)) := List.getElem?_eq_getElem _
  have hcs := h5 i _ _ hic hip
  refine ⟨g, _, _, rfl, hip, his, ?_, h.drv i _ _ hip his⟩
  have := h1.cellAt i (by omega)
  rw [this]
  have := flatten_get css h4 i _ 0 hic (by omega)
  rw [Nat.mul_one, Nat.add_zero] at this
  rw [this]
  rw [show css[i] = [.pointer (some ⟨ps[i], 0, none⟩)] from hcs]; rfl
end Go.Proofs.YteialipoedmmmaaGreat

set_option linter.unusedSimpArgs false
set_option linter.unusedVariables false
namespace Go.Proofs.YteialipoedmmmaaGreat
open Go.RowKit Go.Cib
attribute [local go_sem] cell_set Later.cell Later.frozen Grw.cell Grw.frozen

section
variable {U : Nat → Prop} {w : World} {a s : Nat} {v : Value} {Fs : Nat → Nat → Prop} {ps : List Nat} {sts : List DSt}
set_option maxRecDepth 100000 in
theorem anone (h : Hid (ArrB U w a v Fs ps s sts)) (hk : 0 < sts.length) :
    Calls Tryz.prog 48 #[.pointer (some ⟨a, 0, none⟩)] w fun e w' => e = .returned (.bool false) ∧ Below w.heap.size w w' := by
  obtain ⟨A, c, _, c0, _⟩ := arr_cells h.out
  have hk0 : ((sts.length : Int) == 0) = false := by rw [beq_eq_false_iff_ne]; omega
  go_enter Tryz.func48, Tryz.ntmps48
  go_wp2_with fail
  go_ret
  exact ⟨rfl, Below.refl _ _⟩
set_option maxRecDepth 100000 in
theorem an_any (h : Hid (ArrB U w a v Fs ps s sts)) (hk : 0 < sts.length) :
    Calls Tryz.prog 44 #[.pointer (some ⟨a, 0, none⟩)] w fun e w' => e = .returned (.int .i64 sts.length) ∧ Below w.heap.size w w' := by
  go_enter Tryz.func44, Tryz.ntmps44
  go_wp2_with fail
  refine (anone h hk).mono ?_
  rintro e w1 ⟨rfl, t1⟩
  obtain ⟨A, c, _, c0, _⟩ := arr_cells (h.out.below t1)
  go_wp2_with fail
  go_ret
  exact ⟨rfl, t1⟩
set_option maxRecDepth 100000 in
theorem aat_in (h : Hid (ArrB U w a v Fs ps s sts)) (d : Nat) (hd : d < sts.length) {p : Nat} (hp : ps[d]? = some p) :
    Calls Tryz.prog 50 #[.pointer (some ⟨a, 0, none⟩), .int .i64 d] w fun e w' => e = .returned (.pointer (some ⟨p, 0, none⟩)) ∧ Below w.heap.size w w' := by
  have h0 : (0 : Int) ≤ (d : Int) := Int.natCast_nonneg _
  have h1 : (d : Int) < (sts.length : Int) := by omega
  go_enter Tryz.func50, Tryz.ntmps50
  go_wp2_with fail
  refine (anone h (by omega)).mono ?_
  rintro e w1 ⟨rfl, t1⟩
  obtain ⟨A, c, _, c0, hc⟩ := arr_cells (h.out.below t1)
  obtain ⟨g, p', st, rfl, hp', hst, cg, _⟩ := hc d hd
  obtain rfl : p' = p := by rw [hp] at hp'; injection hp' with hp'; exact hp'.symm
  clear hc hst
  go_wp2_with fail
  go_ret
  exact ⟨rfl, t1⟩
set_option maxRecDepth 100000 in
theorem aat_out (h : Hid (ArrB U w a v Fs ps s sts)) (hk : 0 < sts.length) (d : Int) (hd : ¬ (0 ≤ d ∧ d < sts.length)) :
    Calls Tryz.prog 50 #[.pointer (some ⟨a, 0, none⟩), .int .i64 d] w fun e w' => e = .returned (.pointer none) ∧ Below w.heap.size w w' := by
  by_cases h0 : d < 0
  · have d0 : decide (d < 0) = true := by simpa using h0
    clear hd
    go_enter Tryz.func50, Tryz.ntmps50
    go_wp2_with fail
    refine (anone h hk).mono ?_
    rintro e w1 ⟨rfl, t1⟩
    go_wp2_with fail
    go_ret
    exact ⟨rfl, t1⟩
  · have d0 : decide (d < 0) = false := by simpa using h0
    have d1 : decide ((sts.length : Int) ≤ d) = true := by simp; omega
    clear hd
    go_enter Tryz.func50, Tryz.ntmps50
    go_wp2_with fail
    refine (anone h hk).mono ?_
    rintro e w1 ⟨rfl, t1⟩
    obtain ⟨A, c, _, c0, _⟩ := arr_cells (h.out.below t1)
    go_wp2_with fail
    go_ret
    exact ⟨rfl, t1⟩
set_option maxRecDepth 100000 in
theorem areach_in (h : Hid (ArrB U w a v Fs ps s sts)) (d : Nat) (hd : d < sts.length) {p : Nat} (hp : ps[d]? = some p) :
    Calls Tryz.prog 69 #[.pointer (some ⟨a, 0, none⟩), .int .i64 d] w fun e w' => e = .returned (.tuple #[.pointer (some ⟨p, 0, none⟩), .int .i64 0]) ∧ Below w.heap.size w w' := by
  go_enter Tryz.func69, Tryz.ntmps69
  go_wp2_with fail
  refine (anone h (by omega)).mono ?_
  rintro e w1 ⟨rfl, t1⟩
  have H1 := Lib.hid (h.out.below t1)
  go_wp2_with fail
  refine (aat_in H1 d hd hp).mono ?_
  rintro e w2 ⟨rfl, t2⟩
  go_wp2_with fail
  go_ret2
  exact ⟨rfl, t1.trans (t2.mono t1.size)⟩
set_option maxRecDepth 100000 in
theorem areach_out (h : Hid (ArrB U w a v Fs ps s sts)) (hk : 0 < sts.length) (d : Int) (hd : ¬ (0 ≤ d ∧ d < sts.length)) :
    Calls Tryz.prog 69 #[.pointer (some ⟨a, 0, none⟩), .int .i64 d] w fun e w' => e = .returned (.tuple #[.pointer none, .int .i64 2]) ∧ Below w.heap.size w w' := by
  go_enter Tryz.func69, Tryz.ntmps69
  go_wp2_with fail
  refine (anone h hk).mono ?_
  rintro e w1 ⟨rfl, t1⟩
  have H1 := Lib.hid (h.out.below t1)
  go_wp2_with fail
  refine (aat_out H1 hk d hd).mono ?_
  rintro e w2 ⟨rfl, t2⟩
  go_wp2_with fail
  go_ret2
  exact ⟨rfl, t1.trans (t2.mono t1.size)⟩

end
end Go.Proofs.YteialipoedmmmaaGreat

set_option linter.unusedSimpArgs false
set_option linter.unusedVariables false
namespace Go.Proofs.YteialipoedmmmaaGreat
open Go.RowKit Go.Cib
attribute [local go_sem] cell_set Later.cell Later.frozen Grw.cell Grw.frozen

theorem BoxAt.bools {w : World} {b : Nat} {xs : List Bool} (h : BoxAt w b (xs.map Value.bool).toArray) {S : Nat → Prop} (hS : S b) : RdL BoolR 1 S w (some ⟨b, 0, none⟩) xs.length xs :=
  ⟨rfl, fun _ => ⟨b, 0, rfl, hS, h.lt, fun i x hx => ⟨[.bool x], rfl, rfl, fun j v hj => by
    match j, hj with
    | 0, hj =>
      simp only [List.getElem?_cons_zero, Option.some.injEq] at hj
      subst hj
      rw [h.cell]
      simp [hx]⟩⟩⟩
theorem bool_at {S : Nat → Prop} {w : World} {A : Option Addr} {m : Nat} {xs : List Bool} (h : RdL BoolR 1 S w A m xs) {i : Nat} (hi : i < m) : ∃ b o x, A = some ⟨b, o, none⟩ ∧ xs[i]? = some x ∧ w.cell? ⟨b, o + i, none⟩ = some (.bool x) := by
  obtain ⟨b, o, rfl, _, hlt⟩ := h.addr hi
  obtain ⟨hl, cs, h1, h2, h3⟩ := h.at hi
  have h4 : cs = [.bool xs[i]] := h2
  subst h4
  refine ⟨b, o, xs[i], rfl, by simp [hl], ?_⟩
  simpa using h3 0 _ rfl
def cnt (l : List Bool) : Nat := l.count true
theorem cnt_snoc (l : List Bool) (x : Bool) : cnt (l ++ [x]) = cnt l + (if x then 1 else 0) := by cases x <;> simp [cnt]
theorem cnt_le (l : List Bool) : cnt l ≤ l.length := List.count_le_length
set_option maxRecDepth 100000 in
theorem counted_any {S : Nat → Prop} {w : World} {A : Option Addr} {m c : Nat} {xs : List Bool} (R : Hid (RdL BoolR 1 S w A m xs)) (hm : m < 1000000) :
    Calls Tryz.prog 41 #[.slice A m c] w fun e w' => e = .returned (.int .i64 (cnt xs)) ∧ Below w.heap.size w w' := by
  go_enter Tryz.func41, Tryz.ntmps41
  go_wp2_with fail
  go_loopw [3, 8] (fun vn vi wr => ∃ i : Nat, i ≤ m ∧ vn = .int .i64 (cnt (xs.take i)) ∧ vi = .int .i64 i ∧ wr = w) (fun _ vi _ => m - (intOf vi).toNat)
  case atStart => exact ⟨0, Nat.zero_le _, rfl, rfl, rfl⟩
  case round =>
    obtain ⟨i, hi, rfl, rfl, rfl⟩ := hrel
    by_cases hlt : i < m
    · obtain ⟨b, o, x, rfl, hx, y0⟩ := bool_at R.out hlt
      have h1 : (i : Int) < (m : Int) := by omega
      have h2 : (0 : Int) ≤ (i : Int) := Int.natCast_nonneg _
      have h3 : (i : Int) < 1000000 := by omega
      have htk : xs.take (i + 1) = xs.take i ++ [x] := by
        have hil := (List.getElem?_eq_some_iff.1 hx).1
        rw [List.take_succ_eq_append_getElem hil, (List.getElem?_eq_some_iff.1 hx).2]
      have hc := cnt_snoc (xs.take i) x
      rw [← htk] at hc
      have hcl := cnt_le (xs.take i)
      have hcl2 : (xs.take i).length ≤ i := by simp; omega
      have hw : IntKind.i64.wrap ((cnt (xs.take i) : Int) + 1) = (cnt (xs.take i) : Int) + 1 := by rw [IntKind.wrap_i64]; omega
      have HC := Lib.hid hc
      clear hc htk hx hcl hcl2
      cases x with
      | true =>
        go_wp2_with fail
        refine ⟨⟨i + 1, by omega, ?_, by go_num, trivial⟩, by simp [intOf]; omega⟩
        rw [HC.out]; rfl
      | false =>
        go_wp2_with fail
        refine ⟨⟨i + 1, by omega, ?_, by go_num, trivial⟩, by simp [intOf]; omega⟩
        rw [HC.out]; rfl
    · obtain rfl : i = m := by omega
      have h1 : ¬ (i : Int) < (i : Int) := by omega
      have hx : xs.take i = xs := by rw [List.take_of_length_le]; rw [R.out.1]; exact Nat.le_refl _
      have HX := Lib.hid hx
      clear hx
      go_wp2_with fail
      go_ret
      rw [HX.out]
      exact ⟨rfl, Below.refl _ _⟩

section
variable {U : Nat → Prop} {w : World} {a s : Nat} {v : Value} {Fs : Nat → Nat → Prop} {ps : List Nat} {sts : List DSt}
theorem ArrB.p_at (h : ArrB U w a v Fs ps s sts) {d : Nat} {st : DSt} (hst : sts[d]? = some st) : ∃ p, ps[d]? = some p ∧ DrvAt (Fs d) w p s st ∧ d < sts.length := by
  have hd : d < sts.length := (List.getElem?_eq_some_iff.1 hst).1
  exact ⟨_, List.getElem?_eq_getElem (by rw [← h.len]; exact hd), h.drv d _ _ (List.getElem?_eq_getElem _) hst, hd⟩
/-- One drive goes on behind something that changed nothing. -/
theorem ArrB.upd2 (h : ArrB U w a v Fs ps s sts) {w1 w2 : World} {i p : Nat} {st' : DSt} (hb : Below w.heap.size w w1) (hp : ps[i]? = some p) (hu : Upd (Fs i) w1 w2 p s st') : AUpd U w w2 a s (sts.set i st') := by
  obtain ⟨U', Fs', hB, h1, h2⟩ := (h.below hb).upd1 hp hu
  exact ⟨U', ⟨v, Fs', ps, hB⟩, fun k hk hlt => h1 k hk (Nat.lt_of_lt_of_le hlt hb.size), (Keep.of_below (F := U) hb).trans h2 (fun k h _ => h)⟩
set_option maxRecDepth 100000 in
theorem achange_in (h : Hid (ArrB U w a v Fs ps s sts)) (d : Nat) {st st' : DSt} (hst : sts[d]? = some st) (f : FuncId)
    (hc : ∀ (F : Nat → Prop) (p : Nat) (w' : World), Hid (DrvAt F w' p s st) → Calls Tryz.prog f #[.pointer (some ⟨p, 0, none⟩)] w' fun e w'' => e = .returned (.tuple #[]) ∧ Upd F w' w'' p s st') (hcf : ∀ args w, (callFunc f args).run Tryz.prog w = .ok (.enter f args) w) :
    Calls Tryz.prog 39 #[.pointer (some ⟨a, 0, none⟩), .int .i64 d, .func (.func f) #[] #[]] w fun e w' => e = .returned (.int .i64 0) ∧ AUpd U w w' a s (sts.set d st') := by
  obtain ⟨p, hp, hD, hd⟩ := h.out.p_at hst
  have HD := Lib.hid hD
  have HC := Lib.hid hc
  clear hD hc
  go_enter Tryz.func39, Tryz.ntmps39
  go_wp2_with fail
  refine (areach_in h d hd hp).mono ?_
  rintro e w1 ⟨rfl, t1⟩
  have T1 := Lib.hid t1
  clear t1
  go_wp2_with fail
  refine (HC.out _ _ w1 (Lib.hid (HD.out.below T1.out))).mono ?_
  rintro e w2 ⟨rfl, u2⟩
  have U2 := Lib.hid u2
  clear u2 hcf
  go_wp2_with fail
  go_ret
  exact ⟨rfl, h.out.upd2 T1.out hp U2.out⟩
set_option maxRecDepth 100000 in
theorem achange_out (h : Hid (ArrB U w a v Fs ps s sts)) (hk : 0 < sts.length) (d : Int) (hd : ¬ (0 ≤ d ∧ d < sts.length)) (x : Value) :
    Calls Tryz.prog 39 #[.pointer (some ⟨a, 0, none⟩), .int .i64 d, x] w fun e w' => e = .returned (.int .i64 2) ∧ Below w.heap.size w w' := by
  go_enter Tryz.func39, Tryz.ntmps39
  go_wp2_with fail
  refine (areach_out h hk d hd).mono ?_
  rintro e w1 ⟨rfl, t1⟩
  go_wp2_with fail
  go_ret
  exact ⟨rfl, t1⟩
end
theorem call_fail (args : Array Value) (w : World) : (callFunc 40 args).run Tryz.prog w = .ok (.enter 40 args) w := by go_simp
theorem call_flush (args : Array Value) (w : World) : (callFunc 43 args).run Tryz.prog w = .ok (.enter 43 args) w := by go_simp
/-- Fail, whatever is asked. -/
def failA (s : Nat) (sts : List DSt) (d : Int) : List DSt := if 0 ≤ d ∧ d < sts.length then sts.set d.toNat (DSt.gone s) else sts
set_option maxRecDepth 100000 in
theorem afail_any {U : Nat → Prop} {w : World} {a s : Nat} {sts : List DSt} (h : Hid (ArrAt U w a s sts)) (hk : 0 < sts.length) (d : Int) :
    Calls Tryz.prog 13 #[.pointer (some ⟨a, 0, none⟩), .int .i64 d] w fun e w' => e = .returned (.int .i64 (if 0 ≤ d ∧ d < sts.length then 0 else 2)) ∧ AUpd U w w' a s (failA s sts d) := by
  obtain ⟨v, Fs, ps, hB⟩ := h.out
  have HB := Lib.hid hB
  clear hB
  unfold failA
  by_cases hd : 0 ≤ d ∧ d < sts.length
  · rw [if_pos hd, if_pos hd]
    obtain ⟨k, rfl⟩ : ∃ k : Nat, d = k := ⟨d.toNat, by omega⟩
    obtain ⟨st, hst⟩ : ∃ st, sts[k]? = some st := ⟨_, List.getElem?_eq_getElem (by omega)⟩
    clear hd
    go_enter Tryz.func13, Tryz.ntmps13
    go_wp2_with fail
    refine (achange_in HB k hst _ (fun F p w' hD => fail_any hD) call_fail).mono ?_
    rintro e w1 ⟨rfl, u⟩
    have UU := Lib.hid u
    clear u
    go_wp2_with fail
    go_ret
    exact ⟨rfl, UU.out⟩
  · rw [if_neg hd, if_neg hd]
    go_enter Tryz.func13, Tryz.ntmps13
    go_wp2_with fail
    refine (achange_out HB hk d hd _).mono ?_
    rintro e w1 ⟨rfl, t1⟩
    go_wp2_with fail
    go_ret
    exact ⟨rfl, h.out.upd t1⟩
end Go.Proofs.YteialipoedmmmaaGreat

set_option linter.unusedSimpArgs false
set_option linter.unusedVariables false
namespace Go.Proofs.YteialipoedmmmaaGreat
open Go.RowKit Go.Cib
attribute [local go_sem] cell_set Later.cell Later.frozen Grw.cell Grw.frozen

section
variable {U : Nat → Prop} {w : World} {a s : Nat} {v : Value} {Fs : Nat → Nat → Prop} {ps : List Nat} {sts : List DSt}
def wrDA (n : Nat) (st : DSt) (z : Int) (bs : List Int) : DSt := if readyE st.dead n z = 0 ∧ bs.length = 64 then st.write z bs else st
set_option maxRecDepth 100000 in
theorem awrite_in (h : Hid (ArrB U w a v Fs ps s sts)) (d : Nat) {st : DSt} (hst : sts[d]? = some st) (z : Int) {S : Nat → Prop} {A : Option Addr} {m c : Nat} {bs : List Int} (hb : Hid (RdL U8R 1 S w A m bs)) (hS : ∀ b, S b → ¬ U b) (hcl : st.cache.length < 1000000) :
    Calls Tryz.prog 87 #[.pointer (some ⟨a, 0, none⟩), .int .i64 d, .int .i64 z, .slice A m c] w fun e w' => e = .returned (.int .i64 (writeE st.dead s z m)) ∧ AUpd U w w' a s (sts.set d (wrDA s st z bs)) := by
  obtain ⟨p, hp, hD, hd⟩ := h.out.p_at hst
  have HD := Lib.hid hD
  have HS := Lib.hid hS
  clear hD hS
  go_enter Tryz.func87, Tryz.ntmps87
  go_wp2_with fail
  refine (areach_in h d hd hp).mono ?_
  rintro e w1 ⟨rfl, t1⟩
  have T1 := Lib.hid t1
  clear t1
  go_wp2_with fail
  refine (write_all (Lib.hid (HD.out.below T1.out)) z (Lib.hid (hb.out.below U8R.stable T1.out)) (fun b hs hf => HS.out b hs (h.out.uf d b hf)) hcl).mono ?_
  rintro e w2 ⟨rfl, u2⟩
  obtain rfl : bs.length = m := hb.out.1
  have U2 := Lib.hid (show Upd (Fs d) w1 w2 p s (wrDA s st z bs) from u2)
  clear u2
  go_wp2_with fail
  go_ret
  exact ⟨rfl, h.out.upd2 T1.out hp U2.out⟩
def rtDA (n : Nat) (st : DSt) (z off mask : Int) : DSt := if rotDOk st n z off mask then st.rot z.toNat off.toNat mask else st
/-! ### All of them, one by one -/
def stepTo (g : Nat → DSt → DSt) (i : Nat) (sts : List DSt) : List DSt := sts.mapIdx (fun j st => if j < i then g j st else st)
theorem stepTo_get (g : Nat → DSt → DSt) (i : Nat) (sts : List DSt) (j : Nat) : (stepTo g i sts)[j]? = (sts[j]?).map (fun st => if j < i then g j st else st) := by simp [stepTo]
theorem stepTo_len (g : Nat → DSt → DSt) (i : Nat) (sts : List DSt) : (stepTo g i sts).length = sts.length := by simp [stepTo]
theorem stepTo_zero (g : Nat → DSt → DSt) (sts : List DSt) : stepTo g 0 sts = sts := by
  apply List.ext_getElem?
  intro j
  rw [stepTo_get]
  cases sts[j]? <;> simp
theorem stepTo_at (g : Nat → DSt → DSt) (i : Nat) (sts : List DSt) {st : DSt} (h : sts[i]? = some st) : (stepTo g i sts)[i]? = some st := by rw [stepTo_get, h]; simp
theorem stepTo_succ (g : Nat → DSt → DSt) (i : Nat) (sts : List DSt) {st : DSt} (h : sts[i]? = some st) : (stepTo g i sts).set i (g i st) = stepTo g (i + 1) sts := by
  apply List.ext_getElem?
  intro j
  rw [stepTo_get]
  by_cases hj : i = j
  · subst hj
    rw [List.getElem?_set_self (by rw [stepTo_len]; exact (List.getElem?_eq_some_iff.1 h).1), h]; simp
  · rw [List.getElem?_set_ne hj, stepTo_get]
    cases sts[j]? with
    | none => rfl
    | some y =>
      simp only [Option.map_some, Option.some.injEq]
      by_cases h1 : j < i
      · rw [if_pos h1, if_pos (by omega)]
      · rw [if_neg h1, if_neg (by omega)]
theorem stepTo_all (g : Nat → DSt → DSt) (sts : List DSt) : stepTo g sts.length sts = sts.mapIdx g := by
  apply List.ext_getElem?
  intro j
  rw [stepTo_get, List.getElem?_mapIdx]
  cases h : sts[j]? with
  | none => rfl
  | some y =>
    have := (List.getElem?_eq_some_iff.1 h).1
    simp [this]

def aliveL (sts : List DSt) : List Bool := sts.map (fun st => !st.dead)
end
end Go.Proofs.YteialipoedmmmaaGreat

set_option linter.unusedSimpArgs false
set_option linter.unusedVariables false
namespace Go.Proofs.YteialipoedmmmaaGreat
open Go.RowKit Go.Cib
attribute [local go_sem] cell_set Later.cell Later.frozen Grw.cell Grw.frozen

theorem makeBoolsL (k : Nat) (hk : k ≤ 600) (w : World) : (Instr.makeSlice 42 (.int .i64 (k : Int)) (.int .i64 (k : Int))).run Tryz.prog w = .ok (.slice (some ⟨w.heap.size, 0, none⟩) k k) (w.alloc (.cells ((List.replicate k false).map Value.bool).toArray 4)) := by
  rw [List.map_replicate, List.toArray_replicate]
  exact makeBools k hk w
theorem mapIdx_const (g : DSt → DSt) (sts : List DSt) : sts.mapIdx (fun _ => g) = sts.map g := by
  apply List.ext_getElem?
  intro j
  rw [List.getElem?_mapIdx, List.getElem?_map]
def okTo (r : DSt → Int) (i : Nat) (sts : List DSt) : List Bool := sts.mapIdx (fun j st => if j < i then r st == 0 else false)
theorem okTo_get (r : DSt → Int) (i : Nat) (sts : List DSt) (j : Nat) : (okTo r i sts)[j]? = (sts[j]?).map (fun st => if j < i then r st == 0 else false) := by simp [okTo]
theorem okTo_len (r : DSt → Int) (i : Nat) (sts : List DSt) : (okTo r i sts).length = sts.length := by simp [okTo]
theorem okTo_zero (r : DSt → Int) (sts : List DSt) : okTo r 0 sts = List.replicate sts.length false := by
  apply List.ext_getElem?
  intro j
  rw [okTo_get, List.getElem?_replicate]
  by_cases h : j < sts.length
  · rw [List.getElem?_eq_getElem h]; simp [h]
  · rw [List.getElem?_eq_none (by omega)]; simp [h]
theorem okTo_succ (r : DSt → Int) (i : Nat) (sts : List DSt) {st : DSt} (h : sts[i]? = some st) : (okTo r i sts).set i (r st == 0) = okTo r (i + 1) sts := by
  apply List.ext_getElem?
  intro j
  rw [okTo_get]
  by_cases hj : i = j
  · subst hj
    rw [List.getElem?_set_self (by rw [okTo_len]; exact (List.getElem?_eq_some_iff.1 h).1), h]; simp
  · rw [List.getElem?_set_ne hj, okTo_get]
    cases sts[j]? with
    | none => rfl
    | some y =>
      simp only [Option.map_some, Option.some.injEq]
      by_cases h1 : j < i
      · rw [if_pos h1, if_pos (by omega)]
      · rw [if_neg h1, if_neg (by omega)]
theorem okTo_all (r : DSt → Int) (sts : List DSt) : okTo r sts.length sts = sts.map (fun st => r st == 0) := by
  apply List.ext_getElem?
  intro j
  rw [okTo_get, List.getElem?_map]
  cases h : sts[j]? with
  | none => rfl
  | some y =>
    have := (List.getElem?_eq_some_iff.1 h).1
    simp [this]

section
variable {U : Nat → Prop} {w : World} {a s : Nat} {v : Value} {Fs : Nat → Nat → Prop} {ps : List Nat} {sts : List DSt}
def EachE (U : Nat → Prop) (w : World) (a : Nat) (v : Value) (ps : List Nat) (s : Nat) (sts : List DSt) (g : DSt → DSt) (r : DSt → Int) (e : Ending) (w' : World) : Prop := ∃ ob U' Fs', e = .returned (.slice (some ⟨ob, 0, none⟩) sts.length sts.length) ∧ BoxAt w' ob ((sts.map (fun st => r st == 0)).map Value.bool).toArray ∧ w.heap.size ≤ ob ∧ ¬ U' ob ∧ ArrB U' w' a v Fs' ps s (sts.map g) ∧ (∀ k, U' k → k < w.heap.size → U k) ∧ Keep U w w'
set_option maxRecDepth 100000 in
set_option maxHeartbeats 4000000 in
theorem aeach_any (h : Hid (ArrB U w a v Fs ps s sts)) (hk : 0 < sts.length) (hk2 : sts.length ≤ 600) (f : FuncId) (g : DSt → DSt) (r : DSt → Int)
    (hc : ∀ (i : Nat) (st : DSt), sts[i]? = some st → ∀ (F : Nat → Prop) (p : Nat) (w' : World), Hid (DrvAt F w' p s st) → Calls Tryz.prog f #[.pointer (some ⟨p, 0, none⟩)] w' fun e w'' => e = .returned (.int .i64 (r st)) ∧ Upd F w' w'' p s (g st)) (hcf : ∀ args w, (callFunc f args).run Tryz.prog w = .ok (.enter f args) w) :
    Calls Tryz.prog 42 #[.pointer (some ⟨a, 0, none⟩), .func (.func f) #[] #[]] w fun e w' => EachE U w a v ps s sts g r e w' := by
  have HC := Lib.hid hc
  clear hc
  go_enter Tryz.func42, Tryz.ntmps42
  go_wp2_with fail
  refine (an_any h hk).mono ?_
  rintro e w1 ⟨rfl, t1⟩
  have hmk := makeBoolsL sts.length hk2 w1
  have b1 := BoxAt.new w1 ((List.replicate sts.length false).map Value.bool).toArray 4
  have a1 : Below w1.heap.size w1 (w1.alloc (.cells ((List.replicate sts.length false).map Value.bool).toArray 4)) := (Below.refl _ _).alloc (Nat.le_refl _) _
  obtain ⟨w2, hw2⟩ : ∃ w2, w1.alloc (.cells ((List.replicate sts.length false).map Value.bool).toArray 4) = w2 := ⟨_, rfl⟩
  obtain ⟨ob, hob⟩ : ∃ ob, w1.heap.size = ob := ⟨_, rfl⟩
  rw [hw2] at hmk b1 a1
  have a12 := below_then a1 t1
  have HA := Lib.hid ((h.out.below t1).below a1)
  have HK := Lib.hid (Keep.of_below (F := U) a12)
  have hob1 : w.heap.size ≤ ob := by rw [← hob]; exact t1.size
  have hnU : ¬ U ob := fun hu => by have := h.out.lt ob hu; omega
  rw [hob] at hmk b1
  have HB : Hid (BoxAt w2 ob ((okTo r 0 sts).map Value.bool).toArray) := Lib.hid (by rw [okTo_zero]; exact b1)
  have HA0 : Hid (ArrB U w2 a v Fs ps s (stepTo (fun _ => g) 0 sts)) := Lib.hid (by rw [stepTo_zero]; exact HA.out)
  have hlob : ob < w2.heap.size := b1.lt
  clear b1 a1 a12 t1 hw2 HA hob
  go_wp2_with fail
  clear hmk
  go_loopw [12] (fun vi wr => ∃ (i : Nat) (U' : Nat → Prop) (Fs' : Nat → Nat → Prop), i ≤ sts.length ∧ vi = .int .i64 i ∧ Hid (BoxAt wr ob ((okTo r i sts).map Value.bool).toArray) ∧ ¬ U' ob ∧ Hid (ArrB U' wr a v Fs' ps s (stepTo (fun _ => g) i sts)) ∧ Hid (∀ k, U' k → k < w.heap.size → U k) ∧ Hid (Keep U w wr)) (fun vi _ => sts.length - (intOf vi).toNat)
  case atStart => exact ⟨0, U, Fs, Nat.zero_le _, rfl, HB, hnU, HA0, Lib.hid (fun _ h _ => h), HK⟩
  case round =>
    clear HB HA0 HK hnU hlob
    obtain ⟨wo, rfl⟩ : ∃ wo, wo = wr := ⟨_, rfl⟩
    obtain ⟨i, U', Fs', hi, rfl, B, hn, A, hU, K⟩ := hrel
    by_cases hlt : i < sts.length
    · obtain ⟨st, hst⟩ : ∃ st, sts[i]? = some st := ⟨_, List.getElem?_eq_getElem hlt⟩
      obtain ⟨AA, cc, hv, c0, hcl⟩ := arr_cells A.out
      rw [stepTo_len] at c0 hcl
      obtain ⟨gb, p, st', rfl, hp, hst', cg, hD⟩ := hcl i hlt
      obtain rfl : st' = st := by rw [stepTo_at _ _ _ hst] at hst'; injection hst' with e; exact e.symm
      have h1 : (i : Int) < (sts.length : Int) := by omega
      have h2 : (0 : Int) ≤ (i : Int) := Int.natCast_nonneg _
      have h3 : (i : Int) < 600 := by omega
      have HD := Lib.hid hD
      have HP := Lib.hid hp
      have HST := Lib.hid hst
      clear hcl hD hst' hp hst hv
      go_wp2_with fail
      refine (HC.out i st' HST.out _ p wo HD).mono ?_
      rintro e w3 ⟨rfl, u3⟩
      obtain ⟨U2, Fs2, A2, hU2, K2⟩ := A.out.upd1 HP.out u3
      rw [stepTo_succ _ _ _ HST.out] at A2
      have B2 := B.out.keeps K2 hn
      have z2 := B2.frozen i
      have q2 : ∃ q, w3.cell? ⟨ob, i, none⟩ = some q := by
        rw [B2.cell]
        exact ⟨_, Array.getElem?_eq_getElem (by simp [okTo_len]; exact hlt)⟩
      obtain ⟨q, q2⟩ := q2
      have hlo : ob < wo.heap.size := B.out.lt
      have hn2 : ¬ U2 ob := fun hu => hn (hU2 ob hu hlo)
      have B3 := Lib.hid (B2.set i (.bool (r st' == 0)))
      have A3 := Lib.hid (A2.keep ((Keep.refl (fun k => k = ob) w3).setCell (p := ⟨ob, i, none⟩) (fun _ => rfl) (.bool (r st' == 0))) (fun k hu e => hn2 (e ▸ hu)))
      have K3 := Lib.hid ((K.out.trans (G := U') K2 (fun k hu hlt => hU.out k hu hlt)).setCell (p := ⟨ob, i, none⟩) (fun hlt => by simp only at hlt; omega) (.bool (r st' == 0)))
      have hsz := K.out.size
      have hU3 := Lib.hid (fun k hu (hlt : k < w.heap.size) => hU.out k (hU2 k hu (by omega)) hlt)
      have hB : (((okTo r i sts).map Value.bool).toArray).setIfInBounds i (.bool (r st' == 0)) = ((okTo r (i + 1) sts).map Value.bool).toArray := by
        rw [← okTo_succ r i sts HST.out, List.map_set]; simp
      rw [hB] at B3
      clear c0 cg u3 A2 hU2 K2 B2 hB hsz
      go_wp2_with fail
      exact ⟨⟨i + 1, U2, Fs2, by omega, by go_num, B3, hn2, A3, hU3, K3⟩, by simp [intOf]; omega⟩
    · obtain rfl : i = sts.length := by omega
      have h1 : ¬ (sts.length : Int) < (sts.length : Int) := by omega
      go_wp2_with fail
      go_ret
      rw [okTo_all] at B
      rw [stepTo_all] at A
      refine ⟨ob, U', Fs', rfl, B.out, hob1, hn, ?_, hU.out, K.out⟩
      have := A.out
      rwa [mapIdx_const] at this
def flushG (st : DSt) : DSt := if st.dead = false then st.settle (fun _ => true) else st
theorem flush_exact {F : Nat → Prop} {w : World} {p n : Nat} {st : DSt} (h : Hid (DrvAt F w p n st)) (hcl : st.cache.length < 1000000) :
    Calls Tryz.prog 43 #[.pointer (some ⟨p, 0, none⟩)] w fun e w' => e = .returned (.int .i64 (if st.dead then 90 else 0)) ∧ Upd F w w' p n (flushG st) := by
  unfold flushG
  cases hd : st.dead with
  | false =>
    refine (flush_good h hd hcl).mono ?_
    rintro e w' ⟨rfl, hu⟩
    exact ⟨rfl, hu⟩
  | true =>
    refine (flush_dead h hd).mono ?_
    rintro e w' ⟨rfl, hu⟩
    exact ⟨rfl, h.out.upd hu⟩
set_option maxRecDepth 100000 in
theorem aflush_any {sts : List DSt} (h : Hid (ArrAt U w a s sts)) (hk : 0 < sts.length) (hk2 : sts.length ≤ 600) (hcl : Hid (∀ st ∈ sts, st.cache.length < 1000000)) :
    Calls Tryz.prog 14 #[.pointer (some ⟨a, 0, none⟩)] w fun e w' => e = .returned (.int .i64 (cnt (aliveL sts))) ∧ AUpd U w w' a s (sts.map flushG) := by
  obtain ⟨v, Fs, ps, hB⟩ := h.out
  have HB := Lib.hid hB
  clear hB
  go_enter Tryz.func14, Tryz.ntmps14
  go_wp2_with fail
  refine (aeach_any HB hk hk2 _ flushG (fun st => if st.dead then 90 else 0) (fun i st hst F p w' hD => flush_exact hD (hcl.out st (List.mem_of_getElem? hst))) call_flush).mono ?_
  rintro e w1 ⟨ob, U', Fs', rfl, hbx, hob, hn, hA, hU, hK⟩
  have hal : sts.map (fun st => (if st.dead then (90 : Int) else 0) == 0) = aliveL sts := by
    unfold aliveL
    refine List.map_congr_left (fun st _ => ?_)
    cases st.dead <;> rfl
  rw [hal] at hbx
  have hln : (aliveL sts).length = sts.length := by simp [aliveL]
  have R := BoxAt.bools hbx (S := fun b => b = ob) rfl
  rw [hln] at R
  have HR := Lib.hid R
  have HA := Lib.hid hA
  have HU := Lib.hid hU
  have HK := Lib.hid hK
  clear hal hbx hln R hA hU hK
  go_wp2_with fail
  refine (counted_any HR (by omega)).mono ?_
  rintro e w2 ⟨rfl, t2⟩
  go_wp2_with fail
  go_ret
  exact ⟨rfl, U', ⟨v, Fs', ps, HA.out.below t2⟩, HU.out, HK.out.trans (G := fun _ => False) (Keep.of_below t2) (fun _ h => h.elim)⟩
end
end Go.Proofs.YteialipoedmmmaaGreat

set_option linter.unusedSimpArgs false
set_option linter.unusedVariables false
namespace Go.Proofs.YteialipoedmmmaaGreat
open Go.RowKit Go.Cib
attribute [local go_sem] cell_set Later.cell Later.frozen Grw.cell Grw.frozen
attribute [local go_sem ↓] run_min_as run_max_as

/-- Bytes, or bools, as they lie in a row. -/
def BytesR (S : Nat → Prop) (w : World) (cs : List Value) (x : List Int) : Prop := ∃ A m c, cs = [.slice A m c] ∧ RdL U8R 1 S w A m x
theorem BytesR.stable : Stable BytesR := by
  rintro S S' w w' cs e ⟨A, m, c, rfl, h⟩ hk
  exact ⟨A, m, c, rfl, h.stable U8R.stable hk⟩
theorem BytesR.one : ∀ S w cs x, BytesR S w cs x → ∀ u ∈ cs, u.oneCell' = true := by
  rintro S w cs x ⟨A, m, c, rfl, _⟩ u hu
  simp at hu
  subst hu; rfl
def BoolsR (S : Nat → Prop) (w : World) (cs : List Value) (x : List Bool) : Prop := ∃ A m c, cs = [.slice A m c] ∧ RdL BoolR 1 S w A m x
theorem BoolsR.stable : Stable BoolsR := by
  rintro S S' w w' cs e ⟨A, m, c, rfl, h⟩ hk
  exact ⟨A, m, c, rfl, h.stable BoolR.stable hk⟩
theorem BoolsR.one : ∀ S w cs x, BoolsR S w cs x → ∀ u ∈ cs, u.oneCell' = true := by
  rintro S w cs x ⟨A, m, c, rfl, _⟩ u hu
  simp at hu
  subst hu; rfl
section
variable {U : Nat → Prop} {w : World} {a s : Nat} {v : Value} {Fs : Nat → Nat → Prop} {ps : List Nat} {sts : List DSt}
theorem arr_c0 {A : Option Addr} {k c : Nat} (h : ArrB U w a (.slice A k c) Fs ps s sts) : w.cell? ⟨a, 0, none⟩ = some (.slice A k c) := h.box.cell 0
theorem arr_cg {g k c : Nat} (h : ArrB U w a (.slice (some ⟨g, 0, none⟩) k c) Fs ps s sts) {i p : Nat} (hp : ps[i]? = some p) : w.cell? ⟨g, i, none⟩ = some (.pointer (some ⟨p, 0, none⟩)) := by
  have hi : i < sts.length := by rw [h.len]; exact (List.getElem?_eq_some_iff.1 hp).1
  obtain ⟨A, c', hv, _, hc⟩ := arr_cells h
  obtain ⟨g', p', st, hA, hp', _, hcell, _⟩ := hc i hi
  subst hA
  simp only [Value.slice.injEq, Option.some.injEq, Addr.mk.injEq, and_true] at hv
  rw [hp] at hp'
  injection hp' with hp'
  rw [hv.1, hp']; exact hcell
theorem arr_form (h : ArrB U w a v Fs ps s sts) (hk : 0 < sts.length) : ∃ g c, v = .slice (some ⟨g, 0, none⟩) sts.length c := by
  obtain ⟨A, c, hv, _, hc⟩ := arr_cells h
  obtain ⟨g, _, _, hA, _⟩ := hc 0 hk
  exact ⟨g, c, by rw [hv, hA]⟩
end
end Go.Proofs.YteialipoedmmmaaGreat

set_option linter.unusedSimpArgs false
set_option linter.unusedVariables false
namespace Go.Proofs.YteialipoedmmmaaGreat
open Go.RowKit Go.Cib
attribute [local go_sem] cell_set Later.cell Later.frozen Grw.cell Grw.frozen

/-- A row of bytes of the call's own, each cell still to be set. -/
def RowB (B : Nat) (w : World) (ob k : Nat) (xs : List (List Int)) : Prop := ∃ vs : List Value, BoxAt w ob vs.toArray ∧ vs.length = k ∧ xs.length = k ∧ ∀ (j : Nat) (v : Value) (x : List Int), vs[j]? = some v → xs[j]? = some x → ∃ A m c, v = .slice A m c ∧ RdL U8R 1 (fun b => B ≤ b ∧ b ≠ ob) w A m x
theorem RowB.new (B : Nat) (w : World) (k : Nat) (T : TypeId) : RowB B (w.alloc (.cells (List.replicate k (Value.slice none 0 0)).toArray T)) w.heap.size k (List.replicate k []) := by
  refine ⟨List.replicate k (.slice none 0 0), BoxAt.new _ _ _, by simp, by simp, fun j v x hv hx => ?_⟩
  have h1 := List.eq_of_mem_replicate (List.mem_of_getElem? hv)
  have h2 := List.eq_of_mem_replicate (List.mem_of_getElem? hx)
  subst h1; subst h2
  exact ⟨none, 0, 0, rfl, RdL.nil⟩
theorem RowB.below {B : Nat} {w w' : World} {ob k : Nat} {xs : List (List Int)} (h : RowB B w ob k xs) (hb : Below w.heap.size w w') : RowB B w' ob k xs := by
  obtain ⟨vs, h1, h2, h3, h4⟩ := h
  exact ⟨vs, h1.below hb, h2, h3, fun j v x hv hx => by
    obtain ⟨A, m, c, e, hr⟩ := h4 j v x hv hx
    exact ⟨A, m, c, e, hr.below U8R.stable hb⟩⟩
theorem RowB.set {B : Nat} {w : World} {ob k : Nat} {xs : List (List Int)} (h : RowB B w ob k xs) (j : Nat) {A : Option Addr} {m c : Nat} {x : List Int} (hr : RdL U8R 1 (fun b => B ≤ b ∧ b ≠ ob) w A m x) : RowB B (w.setCell ⟨ob, j, none⟩ (.slice A m c)) ob k (xs.set j x) := by
  obtain ⟨vs, h1, h2, h3, h4⟩ := h
  refine ⟨vs.set j (.slice A m c), ?_, by simp [h2], by simp [h3], fun i v y hv hy => ?_⟩
  · have := h1.set j (.slice A m c)
    simpa using this
  · by_cases hij : j = i
    · subst hij
      have hjl : j < vs.length := by simpa using (List.getElem?_eq_some_iff.1 hv).1
      rw [List.getElem?_set_self hjl] at hv
      rw [List.getElem?_set_self (by omega)] at hy
      injection hv with hv
      injection hy with hy
      subst hv; subst hy
      exact ⟨A, m, c, rfl, hr.setCell U8R.stable (p := ⟨ob, j, none⟩) (fun h => h.2 rfl) _⟩
    · rw [List.getElem?_set_ne hij] at hv hy
      obtain ⟨A', m', c', e, hr'⟩ := h4 i v y hv hy
      exact ⟨A', m', c', e, hr'.setCell U8R.stable (p := ⟨ob, j, none⟩) (fun h => h.2 rfl) _⟩
theorem RowB.rd {B : Nat} {w : World} {ob k : Nat} {xs : List (List Int)} (h : RowB B w ob k xs) (hB : B ≤ ob) : RdL BytesR 1 (B ≤ ·) w (some ⟨ob, 0, none⟩) k xs := by
  obtain ⟨vs, h1, h2, h3, h4⟩ := h
  refine ⟨h3, fun _ => ⟨ob, 0, rfl, hB, h1.lt, fun i x hx => ?_⟩⟩
  have hi : i < vs.length := by rw [h2, ← h3]; exact (List.getElem?_eq_some_iff.1 hx).1
  obtain ⟨A, m, c, e, hr⟩ := h4 i _ x (List.getElem?_eq_getElem hi) hx
  refine ⟨[vs[i]], rfl, ⟨A, m, c, by rw [e], hr.weaken U8R.stable (fun b hb => hb.1)⟩, fun j v hj => ?_⟩
  match j, hj with
  | 0, hj =>
    simp only [List.getElem?_cons_zero, Option.some.injEq] at hj
    subst hj
    rw [h1.cell]
    simp [hi]
section
variable {U : Nat → Prop} {w : World} {a s : Nat} {v : Value} {Fs : Nat → Nat → Prop} {ps : List Nat} {sts : List DSt}
end
end Go.Proofs.YteialipoedmmmaaGreat

set_option linter.unusedSimpArgs false
set_option linter.unusedVariables false
namespace Go.Proofs.YteialipoedmmmaaGreat
open Go.RowKit Go.Cib
attribute [local go_sem] cell_set Later.cell Later.frozen Grw.cell Grw.frozen

theorem slPtr : SlTy Tryz.prog 84 79 (.pointer none) 1 8 := ⟨Tryz.underlying84, by kernel_rfl, rfl, by omega⟩
section
variable {U : Nat → Prop} {w : World} {a s : Nat} {v : Value} {Fs : Nat → Nat → Prop} {ps : List Nat} {sts : List DSt}
/-- One drive more. -/
theorem ArrB.push (h : ArrB U w a v Fs ps s sts) {u : World} {F : Nat → Prop} {p : Nat} {st : DSt} {vN : Value} (hD : DrvAt F w p s st) (hF : ∀ k, F k → ¬ U k) (hu : w.grownBy u v.ownBlock) (hs : w.heap.size < u.heap.size)
    (own : OwnL PtrR 79 1 0 (fun _ => False) u vN (ps.length + 1) (ps ++ [p])) (hat : vN.ownBlock = v.ownBlock ∨ vN.ownBlock = some (w.heap.size + 1)) :
    ∃ U' Fs', ArrB U' (u.setCell ⟨a, 0, none⟩ vN) a vN Fs' (ps ++ [p]) s (sts ++ [st]) ∧ (∀ k, U' k → k < w.heap.size → U k ∨ F k) ∧ Keep U w (u.setCell ⟨a, 0, none⟩ vN) := by
  have hset : ∀ k, k ≠ a → (u.setCell ⟨a, 0, none⟩ vN).heap[k]? = u.heap[k]? := fun k hk => Below.heap_setCell _ _ _ _ hk
  have hK : Keep (fun k => k = a ∨ v.ownBlock = some k) w (u.setCell ⟨a, 0, none⟩ vN) := ⟨hu.os, hu.tape, hu.output, by simpa using hu.size, fun k hk hg => (hset k (fun e => hg (.inl e))).trans (hu.block k hk (fun e => hg (.inr e.symm)))⟩
  have hla := h.lt a h.ua
  have hN : ∀ k, vN.ownBlock = some k → (v.ownBlock = some k) ∨ k = w.heap.size + 1 := fun k hk => by
    rcases hat with h | h
    · exact .inl (h ▸ hk)
    · rw [h] at hk; injection hk with hk; exact .inr hk.symm
  have hNa : vN.ownBlock ≠ some a := fun e => by
    rcases hN a e with h2 | h2
    · exact h.va h2
    · omega
  have hFlt : ∀ k, F k → k < w.heap.size := fun k hk => hD.lt hk
  refine ⟨fun k => U k ∨ F k ∨ (w.heap.size ≤ k ∧ k < u.heap.size), fun j k => if j = ps.length then F k else Fs j k, ⟨?_, ?_, by simp [h.len], ?_, ?_, hNa, ?_, .inl h.ua, ?_, ?_, ?_⟩, ?_, hK.mono (fun k hk _ => hk.elim (fun e => e ▸ h.ua) (h.uv k))⟩
  · exact (h.box.keep (hu.block a hla (fun e => h.va e.symm))).set 0 vN
  · obtain ⟨css, h1, h2, h3, h4, h5⟩ := own
    rw [show (ps ++ [p]).length = ps.length + 1 by simp]
    exact ⟨css, ownsRow_keep h1 (fun k hk => hset k (fun e => hNa (e ▸ hk))), h2, h3, h4, fun i cs x hc hx => h5 i cs x hc hx⟩
  · intro i q st' h1 h2
    by_cases hi : i = ps.length
    · subst hi
      rw [List.getElem?_append_right (Nat.le_refl _)] at h1
      rw [List.getElem?_append_right (by rw [h.len]; exact Nat.le_refl _), h.len] at h2
      simp only [Nat.sub_self, List.getElem?_cons_zero, Option.some.injEq] at h1 h2
      subst h1; subst h2
      simp only [if_true]
      exact hD.keep hK (fun k hk hg => hF k hk (hg.elim (fun e => e ▸ h.ua) (h.uv k)))
    · have hil : i < ps.length := by
        have := (List.getElem?_eq_some_iff.1 h1).1
        simp at this; omega
      rw [List.getElem?_append_left hil] at h1
      rw [List.getElem?_append_left (by rw [h.len]; exact hil)] at h2
      simp only [if_neg hi]
      exact (h.drv i q st' h1 h2).keep hK (fun k hk hg => hg.elim (h.fx i k hk).1 (h.fx i k hk).2)
  · intro i j k
    by_cases e1 : i = ps.length <;> by_cases e2 : j = ps.length <;> simp only [e1, e2, if_true, if_false]
    · intros; trivial
    · intro hf hg; exact absurd (h.uf j k hg) (hF k hf)
    · intro hf hg; exact absurd (h.uf i k hf) (hF k hg)
    · exact h.apart i j k
  · intro i k
    by_cases e1 : i = ps.length <;> simp only [e1, if_true, if_false]
    · intro hf
      refine ⟨fun e => hF k hf (e ▸ h.ua), fun e => ?_⟩
      have := hFlt k hf
      rcases hN k e with h2 | h2
      · exact hF k hf (h.uv k h2)
      · omega
    · intro hf
      refine ⟨(h.fx i k hf).1, fun e => ?_⟩
      have := h.lt k (h.uf i k hf)
      rcases hN k e with h2 | h2
      · exact (h.fx i k hf).2 h2
      · omega
  · intro k hk
    rcases hN k hk with h2 | h2
    · exact .inl (h.uv k h2)
    · have := (own.lt k hk).2
      exact .inr (.inr ⟨by omega, this⟩)
  · intro i k
    by_cases e1 : i = ps.length <;> simp only [e1, if_true, if_false]
    · intro hf; exact .inr (.inl hf)
    · intro hf; exact .inl (h.uf i k hf)
  · rintro k (hk | hk | hk)
    · have := h.lt k hk; simp; omega
    · have := hFlt k hk; simp; omega
    · simpa using hk.2
  · rintro k (hk | hk | hk) hlt
    · exact .inl hk
    · exact .inr hk
    · omega
/-- An array of no drives yet. -/
theorem ArrB.empty (w : World) (s : Nat) (T : TypeId) : ArrB (fun k => k = w.heap.size) (w.alloc (.cells #[.slice none 0 0] T)) w.heap.size (.slice none 0 0) (fun _ _ => False) [] s [] := by
  refine ⟨BoxAt.new _ _ _, OwnL.nil_, rfl, ?_, ?_, ?_, ?_, rfl, ?_, ?_, ?_⟩
  · intro i p st h1; simp at h1
  · intro i j k h; exact h.elim
  · simp [Value.ownBlock]
  · intro i k h; exact h.elim
  · intro k hk; simp [Value.ownBlock] at hk
  · intro i k h; exact h.elim
  · rintro k rfl; simp
end
set_option maxRecDepth 100000 in
set_option maxHeartbeats 4000000 in
theorem anew_any (k s : Nat) (h1 : 1 ≤ k) (h2 : k ≤ 255) (h3 : 1 ≤ s) (h4 : s ≤ 600) (w : World) :
    Calls Tryz.prog 25 #[.int .i64 k, .int .i64 s] w fun e w' => ∃ a U, e = .returned (.pointer (some ⟨a, 0, none⟩)) ∧ ArrAt U w' a s (List.replicate k (DSt.new s)) ∧ (∀ b, U b → w.heap.size ≤ b) ∧ Below w.heap.size w w' := by
  have d1 : (1 : Int) ≤ k := by omega
  have d2 : (k : Int) ≤ 255 := by omega
  have hE := ArrB.empty w s 86
  have bE : Below w.heap.size w (w.alloc (.cells #[.slice none 0 0] 86)) := (Below.refl _ _).alloc (Nat.le_refl _) _
  obtain ⟨w1, hw1⟩ : ∃ w1, w.alloc (.cells #[.slice none 0 0] 86) = w1 := ⟨_, rfl⟩
  obtain ⟨a, ha⟩ : ∃ a, w.heap.size = a := ⟨_, rfl⟩
  rw [hw1] at hE bE
  rw [ha] at hE
  have HE := Lib.hid hE
  have BE := Lib.hid bE
  have hla : w.heap.size ≤ a := by omega
  clear hE bE
  go_enter Tryz.func25, Tryz.ntmps25
  go_wp2_with fail
  clear hw1 ha
  go_loopw [16] (fun vi wr => ∃ (i : Nat) (U : Nat → Prop) (v : Value) (Fs : Nat → Nat → Prop) (ps : List Nat), i ≤ k ∧ vi = .int .i64 i ∧ Hid (ArrB U wr a v Fs ps s (List.replicate i (DSt.new s))) ∧ Hid (∀ b, U b → w.heap.size ≤ b) ∧ Hid (Below w.heap.size w wr)) (fun vi _ => k - (intOf vi).toNat)
  case atStart => exact ⟨0, _, _, _, _, Nat.zero_le _, rfl, HE, Lib.hid (by rintro b rfl; exact hla), BE⟩
  case round =>
    clear HE BE
    obtain ⟨wo, rfl⟩ : ∃ wo, wo = wr := ⟨_, rfl⟩
    obtain ⟨i, U, v, Fs, ps, hi, rfl, A, hU, K⟩ := hrel
    by_cases hlt : i < k
    · have h5 : (i : Int) < (k : Int) := by omega
      have h6 : (0 : Int) ≤ (i : Int) := Int.natCast_nonneg _
      have h7 : (i : Int) < 600 := by omega
      go_wp2_with fail
      refine (new_good s h3 h4 wo).mono ?_
      rintro e w2 ⟨p, F, rfl, D2, hF2, t2⟩
      have A2 := A.out.below t2
      have hlen := A2.len
      rw [List.length_replicate] at hlen
      obtain ⟨AA, cc, rfl, _⟩ := A2.own.form
      have c0 := A2.box.cell 0
      have z0 := A2.box.frozen 0
      have c0' : w2.cell? ⟨a, 0, none⟩ = some (.slice AA ps.length cc) := c0
      have hown := A2.own
      have hne : some a ≠ (Value.slice AA ps.length cc).ownBlock := fun e => A2.va e.symm
      have HA2 := Lib.hid A2
      have HD2 := Lib.hid D2
      have HF2 := Lib.hid hF2
      have T2 := Lib.hid t2
      clear A2 D2 hF2 t2 c0
      go_wp2_with (at_builtin; go_must (refine wpList_push1 PtrR.stable PtrR.one slPtr (by rfl) (by rfl) (base := 0) (S := fun _ => False) (cs := #[.pointer (some ⟨p, 0, none⟩)]) (y := p) (by rfl) (by rfl) hown (by rfl) (show PtrR _ _ _ p from rfl) (by unfold maxLen; omega) (by omega) (Nat.zero_le _) ?_); intro A11 c11 u11 hc11 own11 hlt11 hb11 hat11; have y0 := cell_far2 c0' u11.ok hne; have y1 := frozen_far2 c0' z0 u11.ok hne)
      obtain ⟨U', Fs', A3, hU3, hK3⟩ := HA2.out.push HD2.out (fun b hf hu => by have := HF2.out b hf; have := A.out.lt b hu; omega) u11.ok hlt11 own11 hat11
      have hsz := K.out.size
      have hs2 := T2.out.size
      refine ⟨⟨i + 1, U', _, Fs', ps ++ [p], by omega, by go_num, Lib.hid (by rw [List.replicate_succ']; exact A3), Lib.hid (fun b hb => ?_), Lib.hid (K.out.trans ((T2.out.mono hsz).trans (hK3.below (by omega) hU.out)))⟩, by simp [intOf]; omega⟩
      by_cases hblt : b < w2.heap.size
      · rcases hU3 b hb hblt with h | h
        · exact hU.out b h
        · have := HF2.out b h; omega
      · omega
    · obtain rfl : i = k := by omega
      have h5 : ¬ (i : Int) < (i : Int) := by omega
      go_wp2_with fail
      go_ret
      exact ⟨a, rfl, U, ⟨v, Fs, ps, A.out⟩, hU.out, K.out⟩
end Go.Proofs.YteialipoedmmmaaGreat

set_option linter.unusedSimpArgs false
set_option linter.unusedVariables false
namespace Go.Proofs.YteialipoedmmmaaGreat
open Go.RowKit Go.Cib
attribute [local go_sem] cell_set Later.cell Later.frozen Grw.cell Grw.frozen

/-- A builtin's law at a list of operations, as a step of a region that draws its order. -/
theorem step_of_list {P : Program} {ops : Array Oper} {o : Oper} {a : Act} {w : World} {K : Act → World → Prop} {Q : Exit → Act → World → Prop} {X : Prop} (hgd : o.guard = none)
    (h : wpList P ops (fun e a w => e = .normal ∧ K a w) [o] a w) : if Region.wanted o (yielded ops a.tmps) = true then Oper.wp P o a w K Q else X := by
  have hw : Region.wanted o (yielded ops a.tmps) = true := by simp [Region.wanted, hgd]
  rw [if_pos hw]
  unfold wpList at h
  rw [if_pos hw] at h
  rcases h with h | ⟨_, a', w', h, _⟩
  · unfold Oper.wp at h ⊢
    generalize (execOp a.eval o).run P w = r at *
    cases r with
    | ok n w' =>
      cases n <;> simp only [Oper.upon, wpList] at h ⊢
      case value v => exact h.2
      case skip => exact h.2
      case defer d => exact h.2
      case enter f args =>
        refine Calls.mono h fun e w'' he => ?_
        cases e with
        | returned u => exact he.2
        | panicked c => cases he.1
        | outgrown => obtain ⟨_, _, he, _⟩ := he; cases he
      case row row args => exact Rows.mono h fun u w'' he => he.2
    | halt x w' =>
      cases x <;> simp only [Oper.upon] at h ⊢
      case panic v => cases h.1
  · cases h

structure Ev where
  at_ : Int
  b : List Int
  off : Int
  mask : Int
/-- An event. -/
def EvR (S : Nat → Prop) (w : World) (cs : List Value) (e : Ev) : Prop := ∃ A m c, cs = [.int .i64 e.at_, .slice A m c, .int .i64 e.off, .int .u32 e.mask] ∧ RdL U8R 1 S w A m e.b
theorem EvR.stable : Stable EvR := by
  rintro S S' w w' cs e ⟨A, m, c, rfl, h⟩ hk
  exact ⟨A, m, c, rfl, h.stable U8R.stable hk⟩
theorem EvR.one : ∀ S w cs x, EvR S w cs x → ∀ u ∈ cs, u.oneCell' = true := by
  rintro S w cs x ⟨A, m, c, rfl, _⟩ u hu
  simp at hu
  rcases hu with rfl | rfl | rfl | rfl <;> rfl
structure RSt where
  L : List Ev
  wait : List Ev
  gone : Bool

def RSt.new : RSt := ⟨[], [], false⟩
end Go.Proofs.YteialipoedmmmaaGreat
