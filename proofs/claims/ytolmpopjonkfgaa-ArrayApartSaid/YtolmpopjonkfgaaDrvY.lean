/-
  Copy.
-/
import Derived.Test.YtolmpopjonkfgaaDrvP
import Derived.Deep.LoopGhost
import Derived.Maps.RangeWalk
set_option linter.unusedSimpArgs false
set_option linter.unusedVariables false
namespace Go.Proofs.Ytolmpopjonkfgaa
open Go.RowKit Go.Cib
attribute [local go_sem] cell_set Later.cell Later.frozen Grw.cell Grw.frozen

theorem run_clone {P : Program} (w : World) {T E : TypeId} {z : Value} {size bytes : Nat} (st : SlTy P T E z size bytes) (ty : TypeId) {A : Option Addr} {m c : Nat} {xs : List Value} (hown : w.ownsRow 0 E size (.slice A m c) m xs) (h1 : ∀ u ∈ xs, u.oneCell' = true) (hb : m * bytes ≤ 140737488355328) (hm : m ≤ maxLen) :
    ∃ v' w', (Builtin.append_ #[T, T] ty #[.slice none 0 0, .slice A m c]).run P w = .ok v' w' ∧ w'.ownsRow w.heap.size E size v' m xs ∧ w.grownBy w' none := by
  obtain ⟨i, hi, hz, hsz, hby⟩ := info_parts st.info
  have hl := hown.1
  rcases hown.2 with ⟨e, h0⟩ | ⟨g, cap, cur, e, hg, hcell, hnc, hcm, hcs, htake⟩
  · subst h0
    obtain ⟨rfl, rfl⟩ : A = none ∧ c = 0 := by simpa using e
    have hx : xs = [] := List.length_eq_zero_iff.1 (by simpa using hl)
    subst hx
    exact ⟨.slice none 0 0, w, by simp [Builtin.append_, run_underlying st.und, sizeOf, typeInfo, hi, Builtin.lenOf, Builtin.firstCells], World.ownsRow_nil _ _ _ _, ⟨rfl, rfl, rfl, Nat.le_refl _, fun _ _ _ => rfl⟩⟩
  · obtain ⟨rfl, rfl⟩ : A = some ⟨g, 0, none⟩ ∧ c = cap := by simpa using e
    obtain ⟨v', w', h2, h3, h4, _, h6⟩ := run_append_own_at (P := P) w w.heap.size T ty E i z size bytes st.und hi hz hsz hby st.zsz st.pos (.slice none 0 0) 0 [] (World.ownsRow_nil _ _ _ _) ⟨g, 0, none⟩ m c xs hl (fun j u hj => by
      have hjl := (List.getElem?_eq_some_iff.1 hj).1
      rw [Addr.add_mid, Nat.zero_add, hown.cellAt j (by omega)]; exact hj) h1 (by omega) (by rw [Nat.zero_add]; exact hb) (Nat.le_refl _)
    exact ⟨v', w', h2, by simpa using h3, h4⟩
theorem step_clone {P : Program} {ops : Array Oper} {o : Oper} {a : Act} {w : World} {K : Act → World → Prop} {Q : Exit → Act → World → Prop} {X : Prop} (hgd : o.guard = none) (s x : Operand) (T : TypeId)
    (ho : o.op = .call { callee := .builtin .append, args := #[s, x], argTypes := #[T, T] }) {E : TypeId} {z : Value} {size bytes : Nat} (st : SlTy P T E z size bytes) {A : Option Addr} {m c : Nat} {xs : List Value} (hown : w.ownsRow 0 E size (.slice A m c) m xs ∧ ∀ u ∈ xs, u.oneCell' = true)
    (hs : a.eval s = .slice none 0 0) (hx : a.eval x = .slice A m c) (hb : m * bytes ≤ 140737488355328) (hm : m ≤ maxLen)
    (h : ∀ v' w', w'.ownsRow w.heap.size E size v' m xs → w.grownBy w' none → K (a.put o.dst v') w') : if Region.wanted o (yielded ops a.tmps) = true then Oper.wp P o a w K Q else X := by
  have hw : Region.wanted o (yielded ops a.tmps) = true := by simp [Region.wanted, hgd]
  rw [if_pos hw]
  obtain ⟨v', w', h1, h2, h3⟩ := run_clone w st o.type hown.1 hown.2 hb hm
  unfold Oper.wp execOp
  simp only [ho, resolve, invoke, builtin, Sem.run_bind, Sem.run_pure, Result.andThen_ok, List.map_toArray, List.map_cons, List.map_nil, hs, hx, h1]
  exact h v' w' h2 h3

theorem slSec : SlTy Try.prog 87 94 (.agg secZC) 64 64 := ⟨Try.underlying87, by kernel_rfl, secZC_size, by omega⟩
theorem slWait : SlTy Try.prog 88 96 (.agg waitZC) 65 72 := ⟨Try.underlying88, by kernel_rfl, waitZC_size, by omega⟩
theorem slBool : SlTy Try.prog 23 4 (.bool false) 1 1 := ⟨Try.underlying23, by kernel_rfl, rfl, by omega⟩
theorem rows_one {α : Type} {f : α → List Value} (hf : ∀ x, ∀ u ∈ f x, u.oneCell' = true) (xs : List α) : ∀ u ∈ (xs.map f).flatten, u.oneCell' = true := by
  intro u hu
  obtain ⟨l, hl, hul⟩ := List.mem_flatten.1 hu
  obtain ⟨x, _, rfl⟩ := List.mem_map.1 hl
  exact hf x u hul
theorem bools_one (xs : List Bool) : ∀ u ∈ xs.map Value.bool, u.oneCell' = true := by
  intro u hu
  obtain ⟨x, _, rfl⟩ := List.mem_map.1 hu
  rfl
theorem undrew {w w' : World} {r : Option Nat} (h : w.drew.grownBy w' r) : w.grownBy w' r := ⟨h.os, h.tape, h.output, h.size, h.block⟩
theorem own_form {w : World} {b : Nat} {e : TypeId} {size : Nat} {v : Value} {n : Nat} {xs : List Value} (h : w.ownsRow b e size v n xs) : ∃ A c, v = .slice A n c := by
  rcases h.2 with ⟨rfl, rfl⟩ | ⟨g, cap, cur, rfl, _⟩
  · exact ⟨none, 0, rfl⟩
  · exact ⟨_, cap, rfl⟩
theorem own_base {w : World} {b b2 : Nat} {e : TypeId} {size : Nat} {v : Value} {n : Nat} {xs : List Value} (h : w.ownsRow b e size v n xs) (hb : b2 ≤ b) : w.ownsRow b2 e size v n xs := by
  rcases h with ⟨h1, h2 | ⟨g, cap, cur, rfl, h3, h4⟩⟩
  · exact ⟨h1, .inl h2⟩
  · exact ⟨h1, .inr ⟨g, cap, cur, rfl, Nat.le_trans hb h3, h4⟩⟩
theorem grown_below {w w' : World} (h : w.grownBy w' none) : Below w.heap.size w w' := ⟨h.os, h.tape, h.output, h.size, fun k hk => h.block k hk (by simp)⟩

set_option maxRecDepth 100000 in
set_option maxHeartbeats 8000000 in
theorem copy_any {F : Nat → Prop} {w : World} {p n : Nat} {st : DSt} (h : Hid (DrvAt F w p n st)) (hcl : st.cache.length < 1000000) :
    Calls Try.prog 26 #[.pointer (some ⟨p, 0, none⟩)] w fun e w' => ∃ p' F', e = .returned (.pointer (some ⟨p', 0, none⟩)) ∧ DrvAt F' w' p' n st ∧ (∀ b, F' b → w.heap.size ≤ b) ∧ Below w.heap.size w w' := by
  obtain ⟨sb, sc, rb, rc, A, cc, mb, H⟩ := h.out.box
  go_enter Try.func26, Try.ntmps26
  go_wp2_with fail
  refine (none_any H).mono ?_
  rintro e w1 ⟨rfl, h1⟩
  clear H
  obtain ⟨sb, sc, rb, rc, A, cc, mb, hB, f1, f2, f3, f4, f5, lt⟩ := h.out.below h1
  obtain ⟨k0, k1, k2, k3, k4⟩ := drv_cells hB.box
  have h1s := h1.size
  have HB := Lib.hid hB
  have H1 := Lib.hid h1
  have m3 := @run_makeMap Try.prog
  have k4a : ∀ o, (w1.alloc o).cell? ⟨p, 4, none⟩ = some (.bool st.dead) := fun o => cell_alloc2 k4 o
  obtain ⟨mq, hmq⟩ : ∃ mq, w1.heap.size = mq := ⟨_, rfl⟩
  obtain ⟨W, hW⟩ : ∃ W, (w1.alloc (.map #[] 0)).alloc (.cells #[.slice none 0 0, .slice none 0 0, .slice none 0 0, .map (some mq), .bool st.dead] 91) = W := ⟨_, rfl⟩
  obtain ⟨q, hq⟩ : ∃ q, mq + 1 = q := ⟨_, rfl⟩
  have a1 : Below w1.heap.size w1 W := by rw [← hW]; exact ((Below.refl _ _).alloc (Nat.le_refl _) _).alloc (by simp) _
  have X1 : BoxAt W q #[.slice none 0 0, .slice none 0 0, .slice none 0 0, .map (some mq), .bool st.dead] := by
    rw [← hW, ← hq]
    have := BoxAt.new (w1.alloc (.map #[] 0)) #[.slice none 0 0, .slice none 0 0, .slice none 0 0, .map (some mq), .bool st.dead] 91
    simpa [hmq] using this
  have Mq : MapAt (Value.int .i64) W mq ([] : List (Int × Value)) := by
    rw [← hW, ← hmq]
    exact (MapAt.new (Value.int .i64) w1).alloc _
  have hpq : p ≠ q := by have := lt p f1; omega
  have A1 := Lib.hid a1
  have HX := Lib.hid X1
  have HM := Lib.hid Mq
  have hpl : p < w1.heap.size := lt p f1
  have hmqq : mq ≠ q := by omega
  have hqs : w1.heap.size ≤ q := by omega
  have h600 := hB.n600
  have hq0 : q < W.heap.size := X1.lt
  have hqa := hq0
  clear hB h a1 X1 Mq h1 f1 f2 f3 f4 f5 lt
  go_wp2_with fail
  clear m3 hW k4a
  have kd0 : W.cell? ⟨p, 0, none⟩ = some (.slice (some ⟨sb, 0, none⟩) n sc) := by rw [A1.out.cell (p := ⟨p, 0, none⟩) hpl]; exact k0
  have kq0 : W.cell? ⟨q, 0, none⟩ = some (.slice none 0 0) := HX.out.cell 0
  have kf0 : W.frozen? ⟨q, 0, none⟩ = false := HX.out.frozen 0
  have KA0 : ∀ w', World.grownBy (World.drew W) w' none → w'.cell? ⟨p, 0, none⟩ = some (.slice (some ⟨sb, 0, none⟩) n sc) := fun w' hg => cell_far2 (w := World.drew W) kd0 hg (by simp)
  have KQ0 : ∀ w', World.grownBy (World.drew W) w' none → w'.cell? ⟨q, 0, none⟩ = some (.slice none 0 0) ∧ w'.frozen? ⟨q, 0, none⟩ = false := fun w' hg => ⟨cell_far2 (w := World.drew W) kq0 hg (by simp), frozen_far2 (w := World.drew W) kq0 kf0 hg (by simp)⟩
  have KS0 : ∀ (w' : World) (v : Value), w'.cell? ⟨p, 0, none⟩ = some (.slice (some ⟨sb, 0, none⟩) n sc) → (w'.setCell ⟨q, 0, none⟩ v).cell? ⟨p, 0, none⟩ = some (.slice (some ⟨sb, 0, none⟩) n sc) := fun w' v h => cell_setCell_ne h hpq
  have KO0 := And.intro (World.ownsRow.drew (ownsRow_keep (w' := W) HB.out.so (fun k hk => A1.out.block k (HB.out.so.lt k hk).2))) (rows_one (f := secCells) (fun x u hu => secCells_one u hu) st.stored)
  have KK0 := Lib.hid KQ0
  clear KQ0
  refine wp_region_held_drew (S := (fun w' => w'.cell? ⟨p, 0, none⟩ = some (.slice (some ⟨sb, 0, none⟩) n sc))) (by kernel_rfl) (by first | exact kd0 | exact KA0 _ hg0 | exact KS0 _ _ (KA0 _ hg0)) (fun hHeld => ?_)
  refine wpAnyH_take (i := 0) (v := ?_) rfl (by kernel_rfl) (by kernel_rfl) (by kernel_rfl) (fun _ _ _ h => h) (Or.inl ⟨by rfl, ?_⟩) (by assumption) ?_
  rotate_left
  · (intro wq hSw; (try dsimp only at hSw); (try simp only [List.getElem_toArray, List.getElem_cons_succ, List.getElem_cons_zero]); go_simp); try with_reducible rfl
  try simp only [List.getElem_toArray, List.getElem_cons_succ, List.getElem_cons_zero, Act.put, List.setIfInBounds_toArray, List.set_cons_zero, List.set_cons_succ]
  refine wpAnyH_take (i := 1) (v := ?_) rfl (by kernel_rfl) (by kernel_rfl) (by kernel_rfl) (fun _ _ _ h => h) (Or.inl ⟨by rfl, ?_⟩) (by assumption) ?_
  rotate_left
  · (intro wq hSw; (try dsimp only at hSw); (try simp only [List.getElem_toArray, List.getElem_cons_succ, List.getElem_cons_zero]); go_simp); try with_reducible rfl
  try simp only [List.getElem_toArray, List.getElem_cons_succ, List.getElem_cons_zero, Act.put, List.setIfInBounds_toArray, List.set_cons_zero, List.set_cons_succ]
  refine wpAnyH_take (i := 2) (v := ?_) rfl (by kernel_rfl) (by kernel_rfl) (by kernel_rfl) (fun _ _ _ h => h) (Or.inl ⟨by rfl, ?_⟩) (by assumption) ?_
  rotate_left
  · (intro wq hSw; (try dsimp only at hSw); (try simp only [List.getElem_toArray, List.getElem_cons_succ, List.getElem_cons_zero]); go_simp); try with_reducible rfl
  try simp only [List.getElem_toArray, List.getElem_cons_succ, List.getElem_cons_zero, Act.put, List.setIfInBounds_toArray, List.set_cons_zero, List.set_cons_succ]
  refine wpAnyH_take (i := 3) (v := ?_) rfl (by kernel_rfl) (by kernel_rfl) (by kernel_rfl) (fun _ _ _ h => h) (Or.inl ⟨by rfl, ?_⟩) (by assumption) ?_
  rotate_left
  · (intro wq hSw; (try dsimp only at hSw); (try simp only [List.getElem_toArray, List.getElem_cons_succ, List.getElem_cons_zero]); go_simp); try with_reducible rfl
  try simp only [List.getElem_toArray, List.getElem_cons_succ, List.getElem_cons_zero, Act.put, List.setIfInBounds_toArray, List.set_cons_zero, List.set_cons_succ]
  refine wpAnyH_take (i := 5) (v := ?_) rfl (by kernel_rfl) (by kernel_rfl) (by kernel_rfl) (fun _ _ _ h => h) (Or.inl ⟨by rfl, ?_⟩) (by assumption) ?_
  rotate_left
  · (intro wq hSw; (try dsimp only at hSw); (try simp only [List.getElem_toArray, List.getElem_cons_succ, List.getElem_cons_zero]); go_simp); try with_reducible rfl
  try simp only [List.getElem_toArray, List.getElem_cons_succ, List.getElem_cons_zero, Act.put, List.setIfInBounds_toArray, List.set_cons_zero, List.set_cons_succ]
  refine wpAnyH_take (i := 6) (v := ?_) rfl (by kernel_rfl) (by kernel_rfl) (by kernel_rfl) (fun _ _ _ h => h) (Or.inl ⟨by rfl, ?_⟩) (by assumption) ?_
  rotate_left
  · (intro wq hSw; (try dsimp only at hSw); (try simp only [List.getElem_toArray, List.getElem_cons_succ, List.getElem_cons_zero]); go_simp); try with_reducible rfl
  try simp only [List.getElem_toArray, List.getElem_cons_succ, List.getElem_cons_zero, Act.put, List.setIfInBounds_toArray, List.set_cons_zero, List.set_cons_succ]
  refine wpAnyH_take (i := 7) (v := ?_) rfl (by kernel_rfl) (by kernel_rfl) (by kernel_rfl) (fun _ _ _ h => h) (Or.inl ⟨by rfl, ?_⟩) (by assumption) ?_
  rotate_left
  · (intro wq hSw; (try dsimp only at hSw); (try simp only [List.getElem_toArray, List.getElem_cons_succ, List.getElem_cons_zero]); go_simp); try with_reducible rfl
  try simp only [List.getElem_toArray, List.getElem_cons_succ, List.getElem_cons_zero, Act.put, List.setIfInBounds_toArray, List.set_cons_zero, List.set_cons_succ]
  refine wpAnyH_take (i := 8) (v := ?_) rfl (by kernel_rfl) (by kernel_rfl) (by kernel_rfl) (fun _ _ _ h => h) (Or.inl ⟨by rfl, ?_⟩) (by assumption) ?_
  rotate_left
  · (intro wq hSw; (try dsimp only at hSw); (try simp only [List.getElem_toArray, List.getElem_cons_succ, List.getElem_cons_zero]); go_simp); try with_reducible rfl
  try simp only [List.getElem_toArray, List.getElem_cons_succ, List.getElem_cons_zero, Act.put, List.setIfInBounds_toArray, List.set_cons_zero, List.set_cons_succ]
  refine wpAnyH_ready (rs := [4]) (by kernel_rfl) (by simp) ?_
  refine AllReadyH.cons rfl (fun K hK => ?_) AllReadyH.nil
  try simp only [List.getElem_toArray, List.getElem_cons_succ, List.getElem_cons_zero]
  go_simp
  refine hK.out _ _ (by first | exact kd0 | exact KA0 _ hg0 | exact KS0 _ _ (KA0 _ hg0)) (fun hHeld => ?_)
  clear hK K
  try simp only [List.getElem_toArray, List.getElem_cons_succ, List.getElem_cons_zero, Act.put, List.setIfInBounds_toArray, List.set_cons_zero, List.set_cons_succ]
  refine wpAnyH_ready (rs := [9]) (by kernel_rfl) (by simp) ?_
  refine AllReadyH.cons rfl (fun K hK => ?_) AllReadyH.nil
  refine step_clone (by rfl) _ _ 87 (by rfl) slSec KO0 (by rfl) (by rfl) (by omega) (by unfold maxLen; omega) ?_
  intro v0 w40 own0 hg0
  obtain ⟨B0, C0, rfl⟩ := own_form own0
  obtain ⟨kz0, zz0⟩ := KK0.out w40 hg0
  have gg0 := undrew hg0
  refine hK.out _ _ (by first | exact kd0 | exact KA0 _ hg0 | exact KS0 _ _ (KA0 _ hg0)) (fun hHeld => ?_)
  clear hK K
  try simp only [List.getElem_toArray, List.getElem_cons_succ, List.getElem_cons_zero, Act.put, List.setIfInBounds_toArray, List.set_cons_zero, List.set_cons_succ]
  refine wpAnyH_take (i := 10) (v := ?_) rfl (by kernel_rfl) (by kernel_rfl) (by kernel_rfl) (fun _ _ _ h => h) (Or.inl ⟨by rfl, ?_⟩) (by assumption) ?_
  rotate_left
  · (intro wq hSw; (try dsimp only at hSw); (try simp only [List.getElem_toArray, List.getElem_cons_succ, List.getElem_cons_zero]); go_simp); try with_reducible rfl
  try simp only [List.getElem_toArray, List.getElem_cons_succ, List.getElem_cons_zero, Act.put, List.setIfInBounds_toArray, List.set_cons_zero, List.set_cons_succ]
  refine wpAnyH_take (i := 11) (v := ?_) rfl (by kernel_rfl) (by kernel_rfl) (by kernel_rfl) (fun _ _ _ h => h) (Or.inl ⟨by rfl, ?_⟩) (by assumption) ?_
  rotate_left
  · (intro wq hSw; (try dsimp only at hSw); (try simp only [List.getElem_toArray, List.getElem_cons_succ, List.getElem_cons_zero]); go_simp); try with_reducible rfl
  try simp only [List.getElem_toArray, List.getElem_cons_succ, List.getElem_cons_zero, Act.put, List.setIfInBounds_toArray, List.set_cons_zero, List.set_cons_succ]
  refine wpAnyH_ready (rs := [12]) (by kernel_rfl) (by simp) ?_
  refine AllReadyH.cons rfl (fun K hK => ?_) AllReadyH.nil
  try simp only [List.getElem_toArray, List.getElem_cons_succ, List.getElem_cons_zero]
  go_simp
  refine hK.out _ _ (by first | exact kd0 | exact KA0 _ hg0 | exact KS0 _ _ (KA0 _ hg0)) (fun hHeld => ?_)
  clear hK K
  try simp only [List.getElem_toArray, List.getElem_cons_succ, List.getElem_cons_zero, Act.put, List.setIfInBounds_toArray, List.set_cons_zero, List.set_cons_succ]
  refine wpAnyH_done (by kernel_rfl) ?_ _
  obtain ⟨Wa, hWa⟩ : ∃ x, w40.setCell ⟨q, 0, none⟩ (.slice B0 n C0) = x := ⟨_, rfl⟩
  have Aa : Hid (Below w1.heap.size w1 Wa) := Lib.hid (by rw [← hWa]; exact (A1.out.trans ((grown_below gg0).mono A1.out.size)).setCell hqs _)
  have Xa : Hid (BoxAt Wa q #[.slice B0 n C0, .slice none 0 0, .slice none 0 0, .map (some mq), .bool st.dead]) := Lib.hid (by rw [← hWa]; exact (HX.out.keep (gg0.block q HX.out.lt (by simp))).set 0 (.slice B0 n C0))
  have Ma : Hid (MapAt (Value.int .i64) Wa mq ([] : List (Int × Value))) := Lib.hid (by rw [← hWa]; exact (HM.out.keep (gg0.block mq HM.out.lt (by simp))).keep (Below.heap_setCell _ _ _ _ hmqq))
  have P0a : Hid (Wa.ownsRow W.heap.size _ _ (.slice B0 n C0) _ _) := Lib.hid (by rw [← hWa]; exact ownsRow_keep own0 (fun k hk => Below.heap_setCell _ _ _ _ (by have h1 := (own0.lt k hk).1; have h2 := HX.out.lt; show k ≠ q; simp at h1; omega)))
  have G0 : Hid (∀ k, Value.ownBlock (.slice B0 n C0) = some k → W.heap.size ≤ k ∧ k < Wa.heap.size) := Lib.hid (fun k hk => P0a.out.lt k hk)
  have hqa : q < Wa.heap.size := Xa.out.lt
  clear kd0 kq0 kf0 KA0 KS0 KO0 KK0 hg0 gg0 kz0 zz0 own0 hHeld
  try rw [hWa]
  go_wp2_with fail
  try rw [hWa]
  clear hWa
  have kd1 : Wa.cell? ⟨p, 1, none⟩ = some (.slice (some ⟨rb, 0, none⟩) n rc) := by rw [Aa.out.cell (p := ⟨p, 1, none⟩) hpl]; exact k1
  have kq1 : Wa.cell? ⟨q, 1, none⟩ = some (.slice none 0 0) := Xa.out.cell 1
  have kf1 : Wa.frozen? ⟨q, 1, none⟩ = false := Xa.out.frozen 1
  have KA1 : ∀ w', World.grownBy (World.drew Wa) w' none → w'.cell? ⟨p, 1, none⟩ = some (.slice (some ⟨rb, 0, none⟩) n rc) := fun w' hg => cell_far2 (w := World.drew Wa) kd1 hg (by simp)
  have KQ1 : ∀ w', World.grownBy (World.drew Wa) w' none → w'.cell? ⟨q, 1, none⟩ = some (.slice none 0 0) ∧ w'.frozen? ⟨q, 1, none⟩ = false := fun w' hg => ⟨cell_far2 (w := World.drew Wa) kq1 hg (by simp), frozen_far2 (w := World.drew Wa) kq1 kf1 hg (by simp)⟩
  have KS1 : ∀ (w' : World) (v : Value), w'.cell? ⟨p, 1, none⟩ = some (.slice (some ⟨rb, 0, none⟩) n rc) → (w'.setCell ⟨q, 1, none⟩ v).cell? ⟨p, 1, none⟩ = some (.slice (some ⟨rb, 0, none⟩) n rc) := fun w' v h => cell_setCell_ne h hpq
  have KO1 := And.intro (World.ownsRow.drew (ownsRow_keep (w' := Wa) HB.out.ro (fun k hk => Aa.out.block k (HB.out.ro.lt k hk).2))) (bools_one st.rotten)
  have KK1 := Lib.hid KQ1
  clear KQ1
  refine wp_region_held_drew (S := (fun w' => w'.cell? ⟨p, 1, none⟩ = some (.slice (some ⟨rb, 0, none⟩) n rc))) (by kernel_rfl) (by first | exact kd1 | exact KA1 _ hg1 | exact KS1 _ _ (KA1 _ hg1)) (fun hHeld => ?_)
  refine wpAnyH_take (i := 0) (v := ?_) rfl (by kernel_rfl) (by kernel_rfl) (by kernel_rfl) (fun _ _ _ h => h) (Or.inl ⟨by rfl, ?_⟩) (by assumption) ?_
  rotate_left
  · (intro wq hSw; (try dsimp only at hSw); (try simp only [List.getElem_toArray, List.getElem_cons_succ, List.getElem_cons_zero]); go_simp); try with_reducible rfl
  try simp only [List.getElem_toArray, List.getElem_cons_succ, List.getElem_cons_zero, Act.put, List.setIfInBounds_toArray, List.set_cons_zero, List.set_cons_succ]
  refine wpAnyH_take (i := 1) (v := ?_) rfl (by kernel_rfl) (by kernel_rfl) (by kernel_rfl) (fun _ _ _ h => h) (Or.inl ⟨by rfl, ?_⟩) (by assumption) ?_
  rotate_left
  · (intro wq hSw; (try dsimp only at hSw); (try simp only [List.getElem_toArray, List.getElem_cons_succ, List.getElem_cons_zero]); go_simp); try with_reducible rfl
  try simp only [List.getElem_toArray, List.getElem_cons_succ, List.getElem_cons_zero, Act.put, List.setIfInBounds_toArray, List.set_cons_zero, List.set_cons_succ]
  refine wpAnyH_take (i := 2) (v := ?_) rfl (by kernel_rfl) (by kernel_rfl) (by kernel_rfl) (fun _ _ _ h => h) (Or.inl ⟨by rfl, ?_⟩) (by assumption) ?_
  rotate_left
  · (intro wq hSw; (try dsimp only at hSw); (try simp only [List.getElem_toArray, List.getElem_cons_succ, List.getElem_cons_zero]); go_simp); try with_reducible rfl
  try simp only [List.getElem_toArray, List.getElem_cons_succ, List.getElem_cons_zero, Act.put, List.setIfInBounds_toArray, List.set_cons_zero, List.set_cons_succ]
  refine wpAnyH_take (i := 3) (v := ?_) rfl (by kernel_rfl) (by kernel_rfl) (by kernel_rfl) (fun _ _ _ h => h) (Or.inl ⟨by rfl, ?_⟩) (by assumption) ?_
  rotate_left
  · (intro wq hSw; (try dsimp only at hSw); (try simp only [List.getElem_toArray, List.getElem_cons_succ, List.getElem_cons_zero]); go_simp); try with_reducible rfl
  try simp only [List.getElem_toArray, List.getElem_cons_succ, List.getElem_cons_zero, Act.put, List.setIfInBounds_toArray, List.set_cons_zero, List.set_cons_succ]
  refine wpAnyH_take (i := 5) (v := ?_) rfl (by kernel_rfl) (by kernel_rfl) (by kernel_rfl) (fun _ _ _ h => h) (Or.inl ⟨by rfl, ?_⟩) (by assumption) ?_
  rotate_left
  · (intro wq hSw; (try dsimp only at hSw); (try simp only [List.getElem_toArray, List.getElem_cons_succ, List.getElem_cons_zero]); go_simp); try with_reducible rfl
  try simp only [List.getElem_toArray, List.getElem_cons_succ, List.getElem_cons_zero, Act.put, List.setIfInBounds_toArray, List.set_cons_zero, List.set_cons_succ]
  refine wpAnyH_take (i := 6) (v := ?_) rfl (by kernel_rfl) (by kernel_rfl) (by kernel_rfl) (fun _ _ _ h => h) (Or.inl ⟨by rfl, ?_⟩) (by assumption) ?_
  rotate_left
  · (intro wq hSw; (try dsimp only at hSw); (try simp only [List.getElem_toArray, List.getElem_cons_succ, List.getElem_cons_zero]); go_simp); try with_reducible rfl
  try simp only [List.getElem_toArray, List.getElem_cons_succ, List.getElem_cons_zero, Act.put, List.setIfInBounds_toArray, List.set_cons_zero, List.set_cons_succ]
  refine wpAnyH_take (i := 7) (v := ?_) rfl (by kernel_rfl) (by kernel_rfl) (by kernel_rfl) (fun _ _ _ h => h) (Or.inl ⟨by rfl, ?_⟩) (by assumption) ?_
  rotate_left
  · (intro wq hSw; (try dsimp only at hSw); (try simp only [List.getElem_toArray, List.getElem_cons_succ, List.getElem_cons_zero]); go_simp); try with_reducible rfl
  try simp only [List.getElem_toArray, List.getElem_cons_succ, List.getElem_cons_zero, Act.put, List.setIfInBounds_toArray, List.set_cons_zero, List.set_cons_succ]
  refine wpAnyH_take (i := 8) (v := ?_) rfl (by kernel_rfl) (by kernel_rfl) (by kernel_rfl) (fun _ _ _ h => h) (Or.inl ⟨by rfl, ?_⟩) (by assumption) ?_
  rotate_left
  · (intro wq hSw; (try dsimp only at hSw); (try simp only [List.getElem_toArray, List.getElem_cons_succ, List.getElem_cons_zero]); go_simp); try with_reducible rfl
  try simp only [List.getElem_toArray, List.getElem_cons_succ, List.getElem_cons_zero, Act.put, List.setIfInBounds_toArray, List.set_cons_zero, List.set_cons_succ]
  refine wpAnyH_ready (rs := [4]) (by kernel_rfl) (by simp) ?_
  refine AllReadyH.cons rfl (fun K hK => ?_) AllReadyH.nil
  try simp only [List.getElem_toArray, List.getElem_cons_succ, List.getElem_cons_zero]
  go_simp
  refine hK.out _ _ (by first | exact kd1 | exact KA1 _ hg1 | exact KS1 _ _ (KA1 _ hg1)) (fun hHeld => ?_)
  clear hK K
  try simp only [List.getElem_toArray, List.getElem_cons_succ, List.getElem_cons_zero, Act.put, List.setIfInBounds_toArray, List.set_cons_zero, List.set_cons_succ]
  refine wpAnyH_ready (rs := [9]) (by kernel_rfl) (by simp) ?_
  refine AllReadyH.cons rfl (fun K hK => ?_) AllReadyH.nil
  refine step_clone (by rfl) _ _ 23 (by rfl) slBool KO1 (by rfl) (by rfl) (by omega) (by unfold maxLen; omega) ?_
  intro v1 w41 own1 hg1
  obtain ⟨B1, C1, rfl⟩ := own_form own1
  obtain ⟨kz1, zz1⟩ := KK1.out w41 hg1
  have gg1 := undrew hg1
  refine hK.out _ _ (by first | exact kd1 | exact KA1 _ hg1 | exact KS1 _ _ (KA1 _ hg1)) (fun hHeld => ?_)
  clear hK K
  try simp only [List.getElem_toArray, List.getElem_cons_succ, List.getElem_cons_zero, Act.put, List.setIfInBounds_toArray, List.set_cons_zero, List.set_cons_succ]
  refine wpAnyH_take (i := 10) (v := ?_) rfl (by kernel_rfl) (by kernel_rfl) (by kernel_rfl) (fun _ _ _ h => h) (Or.inl ⟨by rfl, ?_⟩) (by assumption) ?_
  rotate_left
  · (intro wq hSw; (try dsimp only at hSw); (try simp only [List.getElem_toArray, List.getElem_cons_succ, List.getElem_cons_zero]); go_simp); try with_reducible rfl
  try simp only [List.getElem_toArray, List.getElem_cons_succ, List.getElem_cons_zero, Act.put, List.setIfInBounds_toArray, List.set_cons_zero, List.set_cons_succ]
  refine wpAnyH_take (i := 11) (v := ?_) rfl (by kernel_rfl) (by kernel_rfl) (by kernel_rfl) (fun _ _ _ h => h) (Or.inl ⟨by rfl, ?_⟩) (by assumption) ?_
  rotate_left
  · (intro wq hSw; (try dsimp only at hSw); (try simp only [List.getElem_toArray, List.getElem_cons_succ, List.getElem_cons_zero]); go_simp); try with_reducible rfl
  try simp only [List.getElem_toArray, List.getElem_cons_succ, List.getElem_cons_zero, Act.put, List.setIfInBounds_toArray, List.set_cons_zero, List.set_cons_succ]
  refine wpAnyH_ready (rs := [12]) (by kernel_rfl) (by simp) ?_
  refine AllReadyH.cons rfl (fun K hK => ?_) AllReadyH.nil
  try simp only [List.getElem_toArray, List.getElem_cons_succ, List.getElem_cons_zero]
  go_simp
  refine hK.out _ _ (by first | exact kd1 | exact KA1 _ hg1 | exact KS1 _ _ (KA1 _ hg1)) (fun hHeld => ?_)
  clear hK K
  try simp only [List.getElem_toArray, List.getElem_cons_succ, List.getElem_cons_zero, Act.put, List.setIfInBounds_toArray, List.set_cons_zero, List.set_cons_succ]
  refine wpAnyH_done (by kernel_rfl) ?_ _
  obtain ⟨Wb, hWb⟩ : ∃ x, w41.setCell ⟨q, 1, none⟩ (.slice B1 n C1) = x := ⟨_, rfl⟩
  have Ab : Hid (Below w1.heap.size w1 Wb) := Lib.hid (by rw [← hWb]; exact (Aa.out.trans ((grown_below gg1).mono Aa.out.size)).setCell hqs _)
  have Xb : Hid (BoxAt Wb q #[.slice B0 n C0, .slice B1 n C1, .slice none 0 0, .map (some mq), .bool st.dead]) := Lib.hid (by rw [← hWb]; exact (Xa.out.keep (gg1.block q Xa.out.lt (by simp))).set 1 (.slice B1 n C1))
  have Mb : Hid (MapAt (Value.int .i64) Wb mq ([] : List (Int × Value))) := Lib.hid (by rw [← hWb]; exact (Ma.out.keep (gg1.block mq Ma.out.lt (by simp))).keep (Below.heap_setCell _ _ _ _ hmqq))
  have P0b := Lib.hid (ownsRow_keep (w' := Wb) P0a.out (fun k hk => by rw [← hWb]; exact (Below.heap_setCell _ _ _ _ (by have := (P0a.out.lt k hk).1; have := hq0; have := hqa; show k ≠ q; omega)).trans (gg1.block k (P0a.out.lt k hk).2 (by simp))))
  have P1b : Hid (Wb.ownsRow Wa.heap.size _ _ (.slice B1 n C1) _ _) := Lib.hid (by rw [← hWb]; exact ownsRow_keep own1 (fun k hk => Below.heap_setCell _ _ _ _ (by have h1 := (own1.lt k hk).1; have h2 := Xa.out.lt; show k ≠ q; simp at h1; omega)))
  have G1 : Hid (∀ k, Value.ownBlock (.slice B1 n C1) = some k → Wa.heap.size ≤ k ∧ k < Wb.heap.size) := Lib.hid (fun k hk => P1b.out.lt k hk)
  have hqb : q < Wb.heap.size := Xb.out.lt
  clear kd1 kq1 kf1 KA1 KS1 KO1 KK1 hg1 gg1 kz1 zz1 own1 hHeld
  try rw [hWb]
  go_wp2_with fail
  try rw [hWb]
  clear hWb
  have kd2 : Wb.cell? ⟨p, 2, none⟩ = some (.slice A st.cache.length cc) := by rw [Ab.out.cell (p := ⟨p, 2, none⟩) hpl]; exact k2
  have kq2 : Wb.cell? ⟨q, 2, none⟩ = some (.slice none 0 0) := Xb.out.cell 2
  have kf2 : Wb.frozen? ⟨q, 2, none⟩ = false := Xb.out.frozen 2
  have KA2 : ∀ w', World.grownBy (World.drew Wb) w' none → w'.cell? ⟨p, 2, none⟩ = some (.slice A st.cache.length cc) := fun w' hg => cell_far2 (w := World.drew Wb) kd2 hg (by simp)
  have KQ2 : ∀ w', World.grownBy (World.drew Wb) w' none → w'.cell? ⟨q, 2, none⟩ = some (.slice none 0 0) ∧ w'.frozen? ⟨q, 2, none⟩ = false := fun w' hg => ⟨cell_far2 (w := World.drew Wb) kq2 hg (by simp), frozen_far2 (w := World.drew Wb) kq2 kf2 hg (by simp)⟩
  have KS2 : ∀ (w' : World) (v : Value), w'.cell? ⟨p, 2, none⟩ = some (.slice A st.cache.length cc) → (w'.setCell ⟨q, 2, none⟩ v).cell? ⟨p, 2, none⟩ = some (.slice A st.cache.length cc) := fun w' v h => cell_setCell_ne h hpq
  have KO2 := And.intro (World.ownsRow.drew (ownsRow_keep (w' := Wb) HB.out.co (fun k hk => Ab.out.block k (HB.out.co.lt k hk).2))) (rows_one (f := waitCells) (fun x u hu => waitCells_one u hu) st.cache)
  have KK2 := Lib.hid KQ2
  clear KQ2
  refine wp_region_held_drew (S := (fun w' => w'.cell? ⟨p, 2, none⟩ = some (.slice A st.cache.length cc))) (by kernel_rfl) (by first | exact kd2 | exact KA2 _ hg2 | exact KS2 _ _ (KA2 _ hg2)) (fun hHeld => ?_)
  refine wpAnyH_take (i := 0) (v := ?_) rfl (by kernel_rfl) (by kernel_rfl) (by kernel_rfl) (fun _ _ _ h => h) (Or.inl ⟨by rfl, ?_⟩) (by assumption) ?_
  rotate_left
  · (intro wq hSw; (try dsimp only at hSw); (try simp only [List.getElem_toArray, List.getElem_cons_succ, List.getElem_cons_zero]); go_simp); try with_reducible rfl
  try simp only [List.getElem_toArray, List.getElem_cons_succ, List.getElem_cons_zero, Act.put, List.setIfInBounds_toArray, List.set_cons_zero, List.set_cons_succ]
  refine wpAnyH_take (i := 1) (v := ?_) rfl (by kernel_rfl) (by kernel_rfl) (by kernel_rfl) (fun _ _ _ h => h) (Or.inl ⟨by rfl, ?_⟩) (by assumption) ?_
  rotate_left
  · (intro wq hSw; (try dsimp only at hSw); (try simp only [List.getElem_toArray, List.getElem_cons_succ, List.getElem_cons_zero]); go_simp); try with_reducible rfl
  try simp only [List.getElem_toArray, List.getElem_cons_succ, List.getElem_cons_zero, Act.put, List.setIfInBounds_toArray, List.set_cons_zero, List.set_cons_succ]
  refine wpAnyH_take (i := 2) (v := ?_) rfl (by kernel_rfl) (by kernel_rfl) (by kernel_rfl) (fun _ _ _ h => h) (Or.inl ⟨by rfl, ?_⟩) (by assumption) ?_
  rotate_left
  · (intro wq hSw; (try dsimp only at hSw); (try simp only [List.getElem_toArray, List.getElem_cons_succ, List.getElem_cons_zero]); go_simp); try with_reducible rfl
  try simp only [List.getElem_toArray, List.getElem_cons_succ, List.getElem_cons_zero, Act.put, List.setIfInBounds_toArray, List.set_cons_zero, List.set_cons_succ]
  refine wpAnyH_take (i := 3) (v := ?_) rfl (by kernel_rfl) (by kernel_rfl) (by kernel_rfl) (fun _ _ _ h => h) (Or.inl ⟨by rfl, ?_⟩) (by assumption) ?_
  rotate_left
  · (intro wq hSw; (try dsimp only at hSw); (try simp only [List.getElem_toArray, List.getElem_cons_succ, List.getElem_cons_zero]); go_simp); try with_reducible rfl
  try simp only [List.getElem_toArray, List.getElem_cons_succ, List.getElem_cons_zero, Act.put, List.setIfInBounds_toArray, List.set_cons_zero, List.set_cons_succ]
  refine wpAnyH_take (i := 5) (v := ?_) rfl (by kernel_rfl) (by kernel_rfl) (by kernel_rfl) (fun _ _ _ h => h) (Or.inl ⟨by rfl, ?_⟩) (by assumption) ?_
  rotate_left
  · (intro wq hSw; (try dsimp only at hSw); (try simp only [List.getElem_toArray, List.getElem_cons_succ, List.getElem_cons_zero]); go_simp); try with_reducible rfl
  try simp only [List.getElem_toArray, List.getElem_cons_succ, List.getElem_cons_zero, Act.put, List.setIfInBounds_toArray, List.set_cons_zero, List.set_cons_succ]
  refine wpAnyH_take (i := 6) (v := ?_) rfl (by kernel_rfl) (by kernel_rfl) (by kernel_rfl) (fun _ _ _ h => h) (Or.inl ⟨by rfl, ?_⟩) (by assumption) ?_
  rotate_left
  · (intro wq hSw; (try dsimp only at hSw); (try simp only [List.getElem_toArray, List.getElem_cons_succ, List.getElem_cons_zero]); go_simp); try with_reducible rfl
  try simp only [List.getElem_toArray, List.getElem_cons_succ, List.getElem_cons_zero, Act.put, List.setIfInBounds_toArray, List.set_cons_zero, List.set_cons_succ]
  refine wpAnyH_take (i := 7) (v := ?_) rfl (by kernel_rfl) (by kernel_rfl) (by kernel_rfl) (fun _ _ _ h => h) (Or.inl ⟨by rfl, ?_⟩) (by assumption) ?_
  rotate_left
  · (intro wq hSw; (try dsimp only at hSw); (try simp only [List.getElem_toArray, List.getElem_cons_succ, List.getElem_cons_zero]); go_simp); try with_reducible rfl
  try simp only [List.getElem_toArray, List.getElem_cons_succ, List.getElem_cons_zero, Act.put, List.setIfInBounds_toArray, List.set_cons_zero, List.set_cons_succ]
  refine wpAnyH_take (i := 8) (v := ?_) rfl (by kernel_rfl) (by kernel_rfl) (by kernel_rfl) (fun _ _ _ h => h) (Or.inl ⟨by rfl, ?_⟩) (by assumption) ?_
  rotate_left
  · (intro wq hSw; (try dsimp only at hSw); (try simp only [List.getElem_toArray, List.getElem_cons_succ, List.getElem_cons_zero]); go_simp); try with_reducible rfl
  try simp only [List.getElem_toArray, List.getElem_cons_succ, List.getElem_cons_zero, Act.put, List.setIfInBounds_toArray, List.set_cons_zero, List.set_cons_succ]
  refine wpAnyH_ready (rs := [4]) (by kernel_rfl) (by simp) ?_
  refine AllReadyH.cons rfl (fun K hK => ?_) AllReadyH.nil
  try simp only [List.getElem_toArray, List.getElem_cons_succ, List.getElem_cons_zero]
  go_simp
  refine hK.out _ _ (by first | exact kd2 | exact KA2 _ hg2 | exact KS2 _ _ (KA2 _ hg2)) (fun hHeld => ?_)
  clear hK K
  try simp only [List.getElem_toArray, List.getElem_cons_succ, List.getElem_cons_zero, Act.put, List.setIfInBounds_toArray, List.set_cons_zero, List.set_cons_succ]
  refine wpAnyH_ready (rs := [9]) (by kernel_rfl) (by simp) ?_
  refine AllReadyH.cons rfl (fun K hK => ?_) AllReadyH.nil
  refine step_clone (by rfl) _ _ 88 (by rfl) slWait KO2 (by rfl) (by rfl) (by omega) (by unfold maxLen; omega) ?_
  intro v2 w42 own2 hg2
  obtain ⟨B2, C2, rfl⟩ := own_form own2
  obtain ⟨kz2, zz2⟩ := KK2.out w42 hg2
  have gg2 := undrew hg2
  refine hK.out _ _ (by first | exact kd2 | exact KA2 _ hg2 | exact KS2 _ _ (KA2 _ hg2)) (fun hHeld => ?_)
  clear hK K
  try simp only [List.getElem_toArray, List.getElem_cons_succ, List.getElem_cons_zero, Act.put, List.setIfInBounds_toArray, List.set_cons_zero, List.set_cons_succ]
  refine wpAnyH_take (i := 10) (v := ?_) rfl (by kernel_rfl) (by kernel_rfl) (by kernel_rfl) (fun _ _ _ h => h) (Or.inl ⟨by rfl, ?_⟩) (by assumption) ?_
  rotate_left
  · (intro wq hSw; (try dsimp only at hSw); (try simp only [List.getElem_toArray, List.getElem_cons_succ, List.getElem_cons_zero]); go_simp); try with_reducible rfl
  try simp only [List.getElem_toArray, List.getElem_cons_succ, List.getElem_cons_zero, Act.put, List.setIfInBounds_toArray, List.set_cons_zero, List.set_cons_succ]
  refine wpAnyH_take (i := 11) (v := ?_) rfl (by kernel_rfl) (by kernel_rfl) (by kernel_rfl) (fun _ _ _ h => h) (Or.inl ⟨by rfl, ?_⟩) (by assumption) ?_
  rotate_left
  · (intro wq hSw; (try dsimp only at hSw); (try simp only [List.getElem_toArray, List.getElem_cons_succ, List.getElem_cons_zero]); go_simp); try with_reducible rfl
  try simp only [List.getElem_toArray, List.getElem_cons_succ, List.getElem_cons_zero, Act.put, List.setIfInBounds_toArray, List.set_cons_zero, List.set_cons_succ]
  refine wpAnyH_ready (rs := [12]) (by kernel_rfl) (by simp) ?_
  refine AllReadyH.cons rfl (fun K hK => ?_) AllReadyH.nil
  try simp only [List.getElem_toArray, List.getElem_cons_succ, List.getElem_cons_zero]
  go_simp
  refine hK.out _ _ (by first | exact kd2 | exact KA2 _ hg2 | exact KS2 _ _ (KA2 _ hg2)) (fun hHeld => ?_)
  clear hK K
  try simp only [List.getElem_toArray, List.getElem_cons_succ, List.getElem_cons_zero, Act.put, List.setIfInBounds_toArray, List.set_cons_zero, List.set_cons_succ]
  refine wpAnyH_done (by kernel_rfl) ?_ _
  obtain ⟨Wc, hWc⟩ : ∃ x, w42.setCell ⟨q, 2, none⟩ (.slice B2 st.cache.length C2) = x := ⟨_, rfl⟩
  have Ac : Hid (Below w1.heap.size w1 Wc) := Lib.hid (by rw [← hWc]; exact (Ab.out.trans ((grown_below gg2).mono Ab.out.size)).setCell hqs _)
  have Xc : Hid (BoxAt Wc q #[.slice B0 n C0, .slice B1 n C1, .slice B2 st.cache.length C2, .map (some mq), .bool st.dead]) := Lib.hid (by rw [← hWc]; exact (Xb.out.keep (gg2.block q Xb.out.lt (by simp))).set 2 (.slice B2 st.cache.length C2))
  have Mc : Hid (MapAt (Value.int .i64) Wc mq ([] : List (Int × Value))) := Lib.hid (by rw [← hWc]; exact (Mb.out.keep (gg2.block mq Mb.out.lt (by simp))).keep (Below.heap_setCell _ _ _ _ hmqq))
  have P0c := Lib.hid (ownsRow_keep (w' := Wc) P0b.out (fun k hk => by rw [← hWc]; exact (Below.heap_setCell _ _ _ _ (by have := (P0b.out.lt k hk).1; have := hq0; have := hqa; show k ≠ q; omega)).trans (gg2.block k (P0b.out.lt k hk).2 (by simp))))
  have P1c := Lib.hid (ownsRow_keep (w' := Wc) P1b.out (fun k hk => by rw [← hWc]; exact (Below.heap_setCell _ _ _ _ (by have := (P1b.out.lt k hk).1; have := hq0; have := hqa; show k ≠ q; omega)).trans (gg2.block k (P1b.out.lt k hk).2 (by simp))))
  have P2c : Hid (Wc.ownsRow Wb.heap.size _ _ (.slice B2 st.cache.length C2) _ _) := Lib.hid (by rw [← hWc]; exact ownsRow_keep own2 (fun k hk => Below.heap_setCell _ _ _ _ (by have h1 := (own2.lt k hk).1; have h2 := Xb.out.lt; show k ≠ q; simp at h1; omega)))
  have G2 : Hid (∀ k, Value.ownBlock (.slice B2 st.cache.length C2) = some k → Wb.heap.size ≤ k ∧ k < Wc.heap.size) := Lib.hid (fun k hk => P2c.out.lt k hk)
  have hqc : q < Wc.heap.size := Xc.out.lt
  clear kd2 kq2 kf2 KA2 KS2 KO2 KK2 hg2 gg2 kz2 zz2 own2 hHeld
  try rw [hWc]
  clear hWc

  obtain ⟨es, hm1, hm2⟩ := HB.out.ma
  have kc3 : Wc.cell? ⟨p, 3, none⟩ = some (.map (some mb)) := by rw [Ac.out.cell (p := ⟨p, 3, none⟩) hpl]; exact k3
  have hbl := HB.out.blocks
  have hmc : Hid (MapAt (Value.int .i64) Wc mb es) := Lib.hid (hm1.keep (Ac.out.block mb hbl.2.2.2.1))
  have hmbq : mb ≠ mq := by have := hbl.2.2.2.1; omega
  have hmnd := hm1.1
  have HL := Lib.hid (fun k v (h : (k, v) ∈ es) => look_of_mem hmnd h)
  have HND := Lib.hid hmnd
  have HM2 := Lib.hid hm2
  clear hm1 hm2 hmnd hbl k0 k1 k2 k3 k4
  go_wp2_with (refine wpList_range mapTy rfl rfl (by exact rfl) hmc.out ?_; intro y hit hys)
  have hit := Lib.hid hit
  have hK0 : Hid (Keep (fun k => k = mq) Wc y.to) := Lib.hid (Keep.of_below y.ok)
  have hM0 : Hid (MapAt (Value.int .i64) y.to mq ([] : List (Int × Value))) := Lib.hid (Mc.out.below y.ok)
  have hmb1 : mb < Wc.heap.size := by have := hmc.out.lt; omega
  have hmq1 : mq < Wc.heap.size := by have := Mc.out.lt; omega
  go_frame
  go_loopg [4, 5] es.length (fun g x4 x5 wr => ∃ (left es2 : List (Int × Value)), left.length = g ∧ Hid (IterAt (Value.int .i64) wr Wc.heap.size mb left) ∧ Hid (MapAt (Value.int .i64) wr mq es2) ∧ Hid (Keep (fun k => k = mq) Wc wr) ∧ Wc.heap.size < wr.heap.size ∧ Hid ((left.map (·.1)).Nodup ∧ (∀ k v, (k, v) ∈ left → mlook es k = some v) ∧ ∀ k, mlook es2 k = if k ∈ left.map (·.1) then none else mlook es k))
  case atStart => exact ⟨es, [], rfl, hit, hM0, hK0, hys, Lib.hid ⟨HND.out, HL.out, fun k => by
    by_cases h : k ∈ es.map (·.1)
    · simp [h, mlook]
    · rw [if_neg h]
      symm
      exact look_none.2 (fun p hp e => h (List.mem_map.2 ⟨p, hp, e⟩))⟩⟩
  case round =>
    clear hit hM0 hK0 hys
    obtain ⟨left, es2, rfl, hit, hM, hK, hys, hrelm⟩ := hrel
    go_wp2_with (refine wpList_next rfl rfl rfl hit.out ?hDone ?hMore)
    case hMore =>
      intro k v left' u hperm hit2 hus hent
      have hlen : left'.length < left.length := by have := hperm.length_eq; simp at this; omega
      have hub : Keep (fun k => k = mq) Wc u.to := hK.out.trans (Keep.of_grown u.ok) (fun k hk hlt => by injection hk with hk; omega)
      have hMu : MapAt (Value.int .i64) u.to mq es2 := hM.out.grw u.ok (by intro e; injection e with e; omega)
      have HP := Lib.hid hperm
      obtain ⟨w5, r5, m5, g5, s5⟩ := run_mapUpdate (P := Try.prog) ktInt mapTy hMu k v
      have kq3 : u.to.cell? ⟨q, 3, none⟩ = some (.map (some mq)) := (World.cell?_of_block (hub.block q hqc (by show ¬ q = mq; omega))).trans (Xc.out.cell 3)
      have hK5 : Hid (Keep (fun k => k = mq) Wc w5) := Lib.hid (hub.trans (Keep.of_grown g5) (fun k hk _ => by injection hk))
      have hit5 : Hid (IterAt (Value.int .i64) w5 Wc.heap.size mb left') := Lib.hid (hit2.keep (g5.block mb hit2.lt.2 (by simpa using hmbq)) (g5.block _ hit2.lt.1 (by intro e; injection e with e; omega)))
      have M5 := Lib.hid m5
      have S5 : Wc.heap.size < w5.heap.size := by rw [s5, hus]; exact hys
      have hit2 := Lib.hid hit2
      clear hperm hub hMu m5 g5 s5 hus hK hM
      go_wp2_with fail
      go_roundg left'.length
      case measure => exact hlen
      case rel =>
        obtain ⟨n1, n2, n3⟩ := hrelm.out
        have hpk := HP.out.map (·.1)
        have hnd2 := hpk.nodup_iff.1 n1
        simp only [List.map_cons, List.nodup_cons] at hnd2
        refine ⟨left', _, rfl, hit5, M5, hK5, S5, Lib.hid ⟨hnd2.2, fun k2 v2 h2 => n2 k2 v2 (HP.out.mem_iff.2 (List.mem_cons_of_mem _ h2)), fun j => ?_⟩⟩
        rw [look_put, n3]
        by_cases e : k = j
        · subst e
          rw [if_pos rfl, if_neg hnd2.1, n2 k v (HP.out.mem_iff.2 (by simp))]
        · have hm : j ∈ left.map (·.1) ↔ j ∈ left'.map (·.1) := by
            rw [hpk.mem_iff]
            simp only [List.map_cons, List.mem_cons]
            exact ⟨fun h => h.resolve_left (fun h2 => e h2.symm), .inr⟩
          rw [if_neg e]
          by_cases hj : j ∈ left'.map (·.1)
          · rw [if_pos (hm.2 hj), if_pos hj]
          · rw [if_neg (fun h => hj (hm.1 h)), if_neg hj]
    case hDone =>
      intro hl0
      subst hl0
      go_wp2_with fail
      go_ret
      have hok := HB.out.ok
      have hn1 := HB.out.n1
      obtain ⟨g0, c0', e0, _, _⟩ := P0c.out.form (by omega)
      obtain ⟨rfl, rfl⟩ : B0 = some ⟨g0, 0, none⟩ ∧ C0 = c0' := by simpa using e0
      obtain ⟨g1, c1', e1, _, _⟩ := P1c.out.form (by omega)
      obtain ⟨rfl, rfl⟩ : B1 = some ⟨g1, 0, none⟩ ∧ C1 = c1' := by simpa using e1
      obtain ⟨a0, a0'⟩ := G0.out g0 rfl
      obtain ⟨a1, a1'⟩ := G1.out g1 rfl
      have hwc : Wc.heap.size ≤ wr.heap.size := hK.out.size
      have hs1 : w.heap.size ≤ q := by omega
      have hk : ∀ k, k < Wc.heap.size → k ≠ mq → wr.heap[k]? = Wc.heap[k]? := fun k h1 h2 => hK.out.block k h1 h2
      have l0 := (P0c.out.lt g0 rfl).2
      have l1 := (P1c.out.lt g1 rfl).2
      have hbW : Below w.heap.size w wr := (H1.out.trans (Ac.out.mono h1s)).trans (hK.out.below (B := w.heap.size) (by omega) (by rintro k rfl; omega))
      have hq2 : q ≠ mq := fun e => hmqq e.symm
      refine ⟨q, fun b => w.heap.size ≤ b ∧ b < wr.heap.size, rfl, ⟨g0, C0, g1, C1, B2, C2, mq, ⟨hok, hn1, h600, Xc.out.keep (hk q hqc hq2), ?_, ?_, ?_, ⟨es2, hM.out, fun k => ?_⟩, by omega, by omega, hq2, by omega, by omega, by omega, ?_, ?_, ?_, ?_⟩, ⟨hs1, by omega⟩, ⟨by omega, by omega⟩, ⟨by omega, by omega⟩, ⟨by omega, by omega⟩, fun k hk2 => ?_, fun k hk2 => hk2.2⟩, fun b hb => hb.1, hbW⟩
      · exact own_base (ownsRow_keep P0c.out (by rintro k ⟨⟩; exact hk g0 l0 (by omega))) (Nat.zero_le _)
      · exact own_base (ownsRow_keep P1c.out (by rintro k ⟨⟩; exact hk g1 l1 (by omega))) (Nat.zero_le _)
      · exact own_base (ownsRow_keep P2c.out (fun k hk2 => hk k (P2c.out.lt k hk2).2 (by have := (P2c.out.lt k hk2).1; omega))) (Nat.zero_le _)
      · obtain ⟨_, _, n3⟩ := hrelm.out
        rw [n3 k, if_neg (by simp)]
        exact HM2.out k
      · intro e; have := (G2.out _ e).1; omega
      · intro e; have := (G2.out _ e).1; omega
      · intro e; have := (G2.out _ e).1; omega
      · intro e; have := (G2.out _ e).1; omega
      · obtain ⟨b1, b2⟩ := G2.out k hk2
        exact ⟨by omega, by omega⟩
end Go.Proofs.Ytolmpopjonkfgaa
