/-
  seen, Read.
-/
import Derived.Test.YtolmpopjonkfgaaDrvM
set_option linter.unusedSimpArgs false
set_option linter.unusedVariables false
namespace Go.Proofs.Ytolmpopjonkfgaa
open Go.RowKit Go.Cib
attribute [local go_sem] cell_set Later.cell Later.frozen Grw.cell Grw.frozen
attribute [local go_sem ↓] shut_load shut_load65 shut_zero shut_zero65 shut_store shut_store65
attribute [local go_sem] run_shutZero run_shutZero65 run_shutStore run_shutStore65 run_shutLoad_set there_new there_new65

set_option maxRecDepth 100000 in
set_option maxHeartbeats 4000000 in
theorem seen_any {F : Nat → Prop} {w : World} {p n : Nat} {st : DSt} (h : Hid (DrvAt F w p n st)) (z : Nat) (hz : z < n) :
    Calls Try.prog 56 #[.pointer (some ⟨p, 0, none⟩), .int .i64 z] w fun e w' => e = .returned (.agg (secCells (st.seen z)).toArray) ∧ Below w.heap.size w w' := by
  obtain ⟨sb, sc, rb, rc, A, cc, mb, hB, f1, f2, f3, f4, f5, lt⟩ := h.out
  obtain ⟨es, hm1, hm2⟩ := hB.ma
  obtain ⟨k0, k1, k2, k3, k4⟩ := drv_cells hB.box
  have k0a : ∀ o, (w.alloc o).cell? ⟨p, 0, none⟩ = some (.slice (some ⟨sb, 0, none⟩) n sc) := fun o => cell_alloc2 k0 o
  have k2a : ∀ o, (w.alloc o).cell? ⟨p, 2, none⟩ = some (.slice A st.cache.length cc) := fun o => cell_alloc2 k2 o
  have k3a : ∀ o, (w.alloc o).cell? ⟨p, 3, none⟩ = some (.map (some mb)) := fun o => cell_alloc2 k3 o
  have hok := hB.ok
  have hzl : z < st.stored.length := by rw [hok.sl]; exact hz
  have hla : ∀ o, (Instr.lookup 89 (.map (some mb)) (.int .i64 z) true).run Try.prog (w.alloc o) = .ok (.tuple #[(mlook es z).getD (.int .i64 0), .bool (mlook es z).isSome]) (w.alloc o) := fun o => run_lookup ktInt mapTy (fun w => by simp [go_sem]) (hm1.alloc o) (z : Int) true
  cases hlx : lastIx st.cache z with
  | none =>
    have hmz : mlook es (z : Int) = none := by rw [hm2, hlx]; rfl
    rw [hmz] at hla
    have hsn : st.seen z = st.stored[z] := by simp [DSt.seen, hlx, hzl]
    have hl : ∀ o, (shutLoad 94 ⟨sb, z * 64, none⟩).run Try.prog (w.alloc o) = .ok (.agg (secCells (st.seen z)).toArray) (w.alloc o) := fun o => by
      refine run_shutLoad (World.rangeAt_alloc ?_ o) (by simp [secCells, hok.seen hz])
      refine ownsRow_range hB.so ?_ (i := z) ?_ (by simp [hok.sl])
      · intro cs hcs; obtain ⟨x, hx, rfl⟩ := List.mem_map.1 hcs; simp [secCells, hok.s64 x hx]
      · simp [hzl, hsn]
    have hfit := fit_sec (hok.seen hz)
    clear hlx hmz hsn hm1 hm2 hB hok
    have hsl : (secCells (st.seen z)).length = 64 := by simpa using hfit.1
    go_enter Try.func56, Try.ntmps56
    go_wp2_with fail
    obtain ⟨t9, hb9⟩ := BoxAt.setAll (BoxAt.new w secZC 94) (secCells (st.seen z)) (by rw [hsl, secZC_size])
    refine bodyPost_ret (v := .agg (secCells (st.seen z)).toArray) (results_cell_row Try.results56 _ _ w.heap.size t9 _ (0, 0) _ rfl hb9 secRow rfl (by rw [secSize]; simp [hsl])) rfl ?_
    exact ⟨rfl, (Keep.of_below (F := fun _ => False) ((Below.refl w.heap.size w).alloc (Nat.le_refl _) _)).trans (G := (· = w.heap.size)) (setCells_keep _ _ _ _) (fun k hk hlt => by subst hk; omega) |>.below (Nat.le_refl _) (fun _ h => h.elim)⟩
  | some i =>
    obtain ⟨s, hs⟩ := lastIx_some hlx
    have hil := (List.getElem?_eq_some_iff.1 hs).1
    have hmz : mlook es (z : Int) = some (.int .i64 i) := by rw [hm2, hlx]; rfl
    rw [hmz] at hla
    have hsn : st.seen z = s := by simp [DSt.seen, hlx, hs]
    have hc65 : ∀ cs ∈ st.cache.map waitCells, cs.length = 65 := by
      intro cs hcs; obtain ⟨x, hx, rfl⟩ := List.mem_map.1 hcs; simp [waitCells, secCells, hok.c64 x hx]
    obtain ⟨g, cap, hv, hg0, hglt⟩ := hB.co.form (by omega)
    obtain ⟨rfl, rfl⟩ : A = some ⟨g, 0, none⟩ ∧ cc = cap := by simpa using hv
    have hl : ∀ o, (shutLoad 94 ⟨g, i * 65 + 1, none⟩).run Try.prog (w.alloc o) = .ok (.agg (secCells (st.seen z)).toArray) (w.alloc o) := fun o => by
      have hr := ownsRow_range hB.co hc65 (i := i) (cs := waitCells ((z : Int), s)) (by simp [hs]) (by simp)
      refine run_shutLoad (World.rangeAt_alloc ?_ o) (by simp [secCells, hok.seen hz])
      intro j v hj
      rw [hsn] at hj
      have := hr (j + 1) v (by simpa [waitCells] using hj)
      rw [← this]; congr 2; omega
    have hfit := fit_sec (hok.seen hz)
    clear hlx hmz hsn hm1 hm2 hB hok hc65 hv hs
    have hsl : (secCells (st.seen z)).length = 64 := by simpa using hfit.1
    go_enter Try.func56, Try.ntmps56
    go_wp2_with fail
    obtain ⟨t9, hb9⟩ := BoxAt.setAll (BoxAt.new w secZC 94) (secCells (st.seen z)) (by rw [hsl, secZC_size])
    refine bodyPost_ret (v := .agg (secCells (st.seen z)).toArray) (results_cell_row Try.results56 _ _ w.heap.size t9 _ (0, 0) _ rfl hb9 secRow rfl (by rw [secSize]; simp [hsl])) rfl ?_
    exact ⟨rfl, (Keep.of_below (F := fun _ => False) ((Below.refl w.heap.size w).alloc (Nat.le_refl _) _)).trans (G := (· = w.heap.size)) (setCells_keep _ _ _ _) (fun k hk hlt => by subst hk; omega) |>.below (Nat.le_refl _) (fun _ h => h.elim)⟩

set_option maxRecDepth 100000 in
set_option maxHeartbeats 4000000 in
theorem read_good {F : Nat → Prop} {w : World} {p n : Nat} {st : DSt} (h : Hid (DrvAt F w p n st)) (hd : st.dead = false) (z : Nat) (hz : z < n) :
    Calls Try.prog 14 #[.pointer (some ⟨p, 0, none⟩), .int .i64 z] w fun e w' => ∃ A, e = .returned (.tuple #[.slice A 64 64, .int .i64 0]) ∧ RdL U8R 1 (w.heap.size ≤ ·) w' A 64 (st.seen z) ∧ Below w.heap.size w w' := by
  obtain ⟨sb, sc, rb, rc, A, cc, mb, H⟩ := h.out.box
  rw [hd] at H
  go_enter Try.func14, Try.ntmps14
  go_wp2_with fail
  refine (ready_any z H).mono ?_
  rintro e w1 ⟨rfl, h1⟩
  have e1 : readyE false n z = 0 := by simp [readyE, hz]
  rw [e1]
  clear e1 H
  have D := Lib.hid (h.out.below h1)
  have s1 := h1.size
  clear h
  go_wp2_with fail
  refine (seen_any D z hz).mono ?_
  rintro e w2 ⟨rfl, h2⟩
  have h12 := h1.trans (h2.mono h1.size)
  have hfit := fit_sec (D.out.ok.seen hz)
  have hsl : (secCells (st.seen z)).length = 64 := by simpa using hfit.1
  clear h1 h2 s1
  go_wp2_with fail
  go_ret2
  have hb := BoxAt.setAll (BoxAt.new w2 secZC 94) (secCells (st.seen z)) (by rw [hsl, secZC_size])
  have hr := hb.bytes (xs := st.seen z) (S := (w.heap.size ≤ ·)) h12.size
  rw [D.out.ok.seen hz] at hr
  exact ⟨_, rfl, hr, (Keep.of_below (F := fun _ => False) ((h12.alloc h12.size _))).trans (G := (· = w2.heap.size)) (setCells_keep _ _ _ _) (fun k hk hlt => by subst hk; have := h12.size; omega) |>.below (Nat.le_refl _) (fun _ h => h.elim)⟩

set_option maxRecDepth 100000 in
set_option maxHeartbeats 4000000 in
theorem read_bad {F : Nat → Prop} {w : World} {p n : Nat} {st : DSt} (h : Hid (DrvAt F w p n st)) (z : Int) (hz : readyE st.dead n z ≠ 0) :
    Calls Try.prog 14 #[.pointer (some ⟨p, 0, none⟩), .int .i64 z] w fun e w' => e = .returned (.tuple #[.slice none 0 0, .int .i64 (readyE st.dead n z)]) ∧ Below w.heap.size w w' := by
  obtain ⟨sb, sc, rb, rc, A, cc, mb, H⟩ := h.out.box
  go_enter Try.func14, Try.ntmps14
  go_wp2_with fail
  refine (ready_any z H).mono ?_
  rintro e w1 ⟨rfl, h1⟩
  obtain ⟨E, hE⟩ : ∃ E, readyE st.dead n z = E := ⟨_, rfl⟩
  rw [hE] at hz ⊢
  have hz2 : (E == 0) = false := by simpa using hz
  have hz3 : (E != 0) = true := by simpa using hz
  have HE := Lib.hid hE
  clear hE H
  go_wp2_with fail
  go_ret2
  exact ⟨by rw [HE.out]; rfl, h1⟩
end Go.Proofs.Ytolmpopjonkfgaa
