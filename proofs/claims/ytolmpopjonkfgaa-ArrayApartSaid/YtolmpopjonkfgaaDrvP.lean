/-
  What a drive does, whatever it is asked: Stored; Write, Rot, Flush, Rotten of any drive.
-/
import Derived.Test.YtolmpopjonkfgaaDrvRots
set_option linter.unusedSimpArgs false
set_option linter.unusedVariables false
namespace Go.Proofs.Ytolmpopjonkfgaa
open Go.RowKit Go.Cib
attribute [local go_sem] cell_set Later.cell Later.frozen Grw.cell Grw.frozen
attribute [local go_sem ↓] shut_load shut_load65 shut_zero shut_zero65 shut_store shut_store65
attribute [local go_sem] run_shutZero run_shutZero65 run_shutStore run_shutStore65 run_shutLoad_set there_new there_new65

set_option maxRecDepth 100000 in
set_option maxHeartbeats 4000000 in
theorem stored_good {F : Nat → Prop} {w : World} {p n : Nat} {st : DSt} (h : Hid (DrvAt F w p n st)) (hd : st.dead = false) (z : Nat) (hz : z < n) {x : List Int} (hx : st.stored[z]? = some x) :
    Calls Try.prog 69 #[.pointer (some ⟨p, 0, none⟩), .int .i64 z] w fun e w' => ∃ A, e = .returned (.slice A 64 64) ∧ RdL U8R 1 (w.heap.size ≤ ·) w' A 64 x ∧ Below w.heap.size w w' := by
  obtain ⟨sb, sc, rb, rc, A, cc, mb, H⟩ := h.out.box
  rw [hd] at H
  go_enter Try.func69, Try.ntmps69
  go_wp2_with fail
  refine (ready_any z H).mono ?_
  rintro e w1 ⟨rfl, h1⟩
  have e1 : readyE false n z = 0 := by simp [readyE, hz]
  rw [e1]
  clear e1 H
  obtain ⟨sb, sc, rb, rc, A, cc, mb, hB, f1, f2, f3, f4, f5, lt⟩ := h.out.below h1
  obtain ⟨k0, k1, k2, k3, k4⟩ := drv_cells hB.box
  have k0a : ∀ o, (w1.alloc o).cell? ⟨p, 0, none⟩ = some (.slice (some ⟨sb, 0, none⟩) n sc) := fun o => cell_alloc2 k0 o
  have hok := hB.ok
  have hxl : x.length = 64 := hok.s64 x (List.mem_of_getElem? hx)
  have hk2 : (z : Int) < (n : Int) := by omega
  have hk3 : (0 : Int) ≤ (z : Int) := Int.natCast_nonneg _
  have hfit := fit_sec hxl
  have hsl : (secCells x).length = 64 := by simpa using hfit.1
  have hl0 : (shutLoad 94 ⟨sb, z * 64, none⟩).run Try.prog w1 = .ok (.agg (secCells x).toArray) w1 := by
    refine run_shutLoad ?_ hsl
    refine ownsRow_range hB.so ?_ (i := z) ?_ (by simp [hok.sl])
    · intro cs hcs; obtain ⟨x, hx, rfl⟩ := List.mem_map.1 hcs; simp [secCells, hok.s64 x hx]
    · simp [hx]
  have hl : ∀ o, (shutLoad 94 ⟨sb, z * 64, none⟩).run Try.prog (w1.alloc o) = .ok (.agg (secCells x).toArray) (w1.alloc o) := fun o => by
    refine run_shutLoad (World.rangeAt_alloc ?_ o) hsl
    refine ownsRow_range hB.so ?_ (i := z) ?_ (by simp [hok.sl])
    · intro cs hcs; obtain ⟨x, hx, rfl⟩ := List.mem_map.1 hcs; simp [secCells, hok.s64 x hx]
    · simp [hx]
  clear hB hok h
  go_wp2_with fail
  go_ret
  have hb := BoxAt.setAll (BoxAt.new w1 secZC 94) (secCells x) (by rw [hsl, secZC_size])
  have hr := hb.bytes (xs := x) (S := (w.heap.size ≤ ·)) h1.size
  rw [hxl] at hr
  exact ⟨_, rfl, hr, (Keep.of_below (F := fun _ => False) ((h1.alloc h1.size _))).trans (G := (· = w1.heap.size)) (setCells_keep _ _ _ _) (fun k hk hlt => by subst hk; have := h1.size; omega) |>.below (Nat.le_refl _) (fun _ h => h.elim)⟩

set_option maxRecDepth 100000 in
theorem stored_bad {F : Nat → Prop} {w : World} {p n : Nat} {st : DSt} (h : Hid (DrvAt F w p n st)) (z : Int) (hz : readyE st.dead n z ≠ 0) :
    Calls Try.prog 69 #[.pointer (some ⟨p, 0, none⟩), .int .i64 z] w fun e w' => e = .returned (.slice none 0 0) ∧ Below w.heap.size w w' := by
  obtain ⟨sb, sc, rb, rc, A, cc, mb, H⟩ := h.out.box
  go_enter Try.func69, Try.ntmps69
  go_wp2_with fail
  refine (ready_any z H).mono ?_
  rintro e w1 ⟨rfl, h1⟩
  obtain ⟨E, hE⟩ : ∃ E, readyE st.dead n z = E := ⟨_, rfl⟩
  rw [hE] at hz ⊢
  have hz2 : (E == 0) = false := by simpa using hz
  have hz3 : (E != 0) = true := by simpa using hz
  clear hE H
  go_wp2_with fail
  go_ret
  exact ⟨rfl, h1⟩

set_option maxRecDepth 100000 in
theorem write_len {F : Nat → Prop} {w : World} {p n : Nat} {st : DSt} (h : Hid (DrvAt F w p n st)) (z : Int) (hz : readyE st.dead n z = 0) (A : Option Addr) (m c : Nat) (hm : m ≠ 64) :
    Calls Try.prog 12 #[.pointer (some ⟨p, 0, none⟩), .int .i64 z, .slice A m c] w fun e w' => e = .returned (.int .i64 2) ∧ Below w.heap.size w w' := by
  obtain ⟨sb, sc, rb, rc, A, cc, mb, H⟩ := h.out.box
  go_enter Try.func12, Try.ntmps12
  go_wp2_with fail
  refine (ready_any z H).mono ?_
  rintro e w1 ⟨rfl, h1⟩
  rw [hz]
  have hz2 : ((m : Int) == 64) = false := by simp; omega
  have hz3 : ((m : Int) != 64) = true := by simp; omega
  have hz4 : ¬ (m : Int) = 64 := by omega
  clear H
  go_wp2_with fail
  go_ret
  exact ⟨rfl, h1⟩

/-- Write, whatever is asked. -/
theorem write_all {F : Nat → Prop} {w : World} {p n : Nat} {st : DSt} (h : Hid (DrvAt F w p n st)) (z : Int) {S : Nat → Prop} {A : Option Addr} {m c : Nat} {bs : List Int} (hb : Hid (RdL U8R 1 S w A m bs)) (hS : ∀ b, S b → ¬ F b) (hcl : st.cache.length < 1000000) :
    Calls Try.prog 12 #[.pointer (some ⟨p, 0, none⟩), .int .i64 z, .slice A m c] w fun e w' => e = .returned (.int .i64 (writeE st.dead n z m)) ∧ Upd F w w' p n (if readyE st.dead n z = 0 ∧ m = 64 then st.write z bs else st) := by
  by_cases hz : readyE st.dead n z = 0
  · by_cases hm : m = 64
    · subst hm
      have hd : st.dead = false := by
        cases hdd : st.dead with
        | false => rfl
        | true => rw [hdd] at hz; simp [readyE] at hz
      have hr : 0 ≤ z ∧ z < n := by
        rw [hd] at hz
        by_cases h0 : 0 ≤ z ∧ z < n
        · exact h0
        · simp [readyE, h0] at hz
      obtain ⟨b, o, rfl, hSb, _⟩ := hb.out.addr (k := 0) (by omega)
      obtain ⟨k, rfl⟩ : ∃ k : Nat, z = k := ⟨z.toNat, by omega⟩
      refine (write_good h hd k (by omega) hb (hS b hSb) hcl).mono ?_
      rintro e w' ⟨rfl, hu⟩
      rw [if_pos ⟨hz, rfl⟩]
      exact ⟨by simp [writeE, hz], hu⟩
    · refine (write_len h z hz A m c hm).mono ?_
      rintro e w' ⟨rfl, hu⟩
      rw [if_neg (fun h => hm h.2)]
      exact ⟨by simp [writeE, hz, hm], h.out.upd hu⟩
  · refine (write_bad h z hz _).mono ?_
    rintro e w' ⟨rfl, hu⟩
    rw [if_neg (fun h => hz h.1)]
    exact ⟨by simp [writeE, hz], h.out.upd hu⟩
end Go.Proofs.Ytolmpopjonkfgaa
