/-
  The drive: Rot and Flush, whatever is asked; Rotten of a dead drive.
-/
import Derived.Test.YtolmpopjonkfgaaDrvY
set_option linter.unusedSimpArgs false
set_option linter.unusedVariables false
namespace Go.Proofs.Ytolmpopjonkfgaa
open Go.RowKit Go.Cib
attribute [local go_sem] cell_set Later.cell Later.frozen Grw.cell Grw.frozen

set_option maxRecDepth 100000 in
theorem rot_unready {F : Nat → Prop} {w : World} {p n : Nat} {st : DSt} (h : Hid (DrvAt F w p n st)) (z off mask : Int) (hz : readyE st.dead n z ≠ 0) :
    Calls Try.prog 18 #[.pointer (some ⟨p, 0, none⟩), .int .i64 z, .int .i64 off, .int .u32 mask] w fun e w' => e = .returned (.int .i64 (readyE st.dead n z)) ∧ Below w.heap.size w w' := by
  obtain ⟨sb, sc, rb, rc, A, cc, mb, H⟩ := h.out.box
  go_enter Try.func18, Try.ntmps18
  go_wp2_with fail
  refine (ready_any z H).mono ?_
  rintro e w1 ⟨rfl, h1⟩
  obtain ⟨E, hE⟩ : ∃ E, readyE st.dead n z = E := ⟨_, rfl⟩
  rw [hE] at hz ⊢
  have hz2 : (E == 0) = false := by simpa using hz
  have hz3 : (E != 0) = true := by simpa using hz
  have HE := Lib.hid hE
  clear hE H
  go_wp2_with fail
  go_ret
  exact ⟨by rw [HE.out]; rfl, h1⟩
set_option maxRecDepth 100000 in
theorem rot_off {F : Nat → Prop} {w : World} {p n : Nat} {st : DSt} (h : Hid (DrvAt F w p n st)) (z off mask : Int) (hz : readyE st.dead n z = 0) (ho : ¬ ((0 ≤ off ∧ off ≤ 60) ∧ ¬ mask = 0)) :
    Calls Try.prog 18 #[.pointer (some ⟨p, 0, none⟩), .int .i64 z, .int .i64 off, .int .u32 mask] w fun e w' => e = .returned (.int .i64 2) ∧ Below w.heap.size w w' := by
  obtain ⟨sb, sc, rb, rc, A, cc, mb, H⟩ := h.out.box
  by_cases h1 : off < 0
  · have d1 : decide (off < 0) = true := by simpa using h1
    clear ho
    go_enter Try.func18, Try.ntmps18
    go_wp2_with fail
    refine (ready_any z H).mono ?_
    rintro e w1 ⟨rfl, t1⟩
    rw [hz]
    clear H
    go_wp2_with fail
    go_ret
    exact ⟨rfl, t1⟩
  have d1 : decide (off < 0) = false := by simpa using h1
  by_cases h2 : 60 < off
  · have d2 : decide (60 < off) = true := by simpa using h2
    clear ho
    go_enter Try.func18, Try.ntmps18
    go_wp2_with fail
    refine (ready_any z H).mono ?_
    rintro e w1 ⟨rfl, t1⟩
    rw [hz]
    clear H
    go_wp2_with fail
    go_ret
    exact ⟨rfl, t1⟩
  have d2 : decide (60 < off) = false := by simpa using h2
  have h3 : (mask == 0) = true := by
    simp only [beq_iff_eq]
    exact Classical.byContradiction fun h => ho ⟨⟨by omega, by omega⟩, h⟩
  clear ho
  go_enter Try.func18, Try.ntmps18
  go_wp2_with fail
  refine (ready_any z H).mono ?_
  rintro e w1 ⟨rfl, t1⟩
  rw [hz]
  clear H
  go_wp2_with fail
  go_ret
  exact ⟨rfl, t1⟩
theorem ready_iff (st : DSt) (n : Nat) (z : Int) : readyE st.dead n z = 0 ↔ st.dead = false ∧ 0 ≤ z ∧ z < n := by
  cases hd : st.dead with
  | true => simp [readyE]
  | false => by_cases h : 0 ≤ z ∧ z < n <;> simp [readyE, h]

def rotDOk (st : DSt) (n : Nat) (z off mask : Int) : Prop := (st.dead = false ∧ 0 ≤ z ∧ z < n) ∧ ((0 ≤ off ∧ off ≤ 60) ∧ ¬ mask = 0) ∧ st.rotten[z.toNat]? = some false
instance (st : DSt) (n : Nat) (z off mask : Int) : Decidable (rotDOk st n z off mask) := by unfold rotDOk; infer_instance
theorem rot_all {F : Nat → Prop} {w : World} {p n : Nat} {st : DSt} (h : Hid (DrvAt F w p n st)) (z off mask : Int) :
    Calls Try.prog 18 #[.pointer (some ⟨p, 0, none⟩), .int .i64 z, .int .i64 off, .int .u32 mask] w fun e w' => (∃ E, e = .returned (.int .i64 E)) ∧ Upd F w w' p n (if rotDOk st n z off mask then st.rot z.toNat off.toNat mask else st) := by
  by_cases hz : readyE st.dead n z = 0
  · obtain ⟨hd, h0, hn⟩ := (ready_iff st n z).1 hz
    by_cases ho : (0 ≤ off ∧ off ≤ 60) ∧ ¬ mask = 0
    · obtain ⟨k, rfl⟩ : ∃ k : Nat, z = k := ⟨z.toNat, by omega⟩
      obtain ⟨o, rfl⟩ : ∃ k : Nat, off = k := ⟨off.toNat, by omega⟩
      have hkn : k < n := by omega
      have hrl : st.rotten.length = n := by
        obtain ⟨_, _, _, _, _, _, _, hB, _⟩ := h.out
        exact hB.ok.rl
      cases hr : st.rotten[k]? with
      | none => rw [List.getElem?_eq_none_iff] at hr; omega
      | some r =>
        cases r with
        | false =>
          refine (rot_good h hd k hkn o (by omega) mask ho.2 hr).mono ?_
          rintro e w' ⟨rfl, hu⟩
          have hok : rotDOk st n k o mask := ⟨⟨hd, h0, hn⟩, ho, by simpa using hr⟩
          rw [if_pos hok]
          exact ⟨⟨_, rfl⟩, by simpa using hu⟩
        | true =>
          refine (rot_again h hd k hkn o (by omega) mask ho.2 hr).mono ?_
          rintro e w' ⟨rfl, hu⟩
          rw [if_neg (fun hok => by have := hok.2.2; simp [hr] at this)]
          exact ⟨⟨_, rfl⟩, h.out.upd hu⟩
    · refine (rot_off h z off mask hz ho).mono ?_
      rintro e w' ⟨rfl, hu⟩
      rw [if_neg (fun hok => ho hok.2.1)]
      exact ⟨⟨_, rfl⟩, h.out.upd hu⟩
  · refine (rot_unready h z off mask hz).mono ?_
    rintro e w' ⟨rfl, hu⟩
    rw [if_neg (fun hok => hz ((ready_iff st n z).2 hok.1))]
    exact ⟨⟨_, rfl⟩, h.out.upd hu⟩
theorem flush_all {F : Nat → Prop} {w : World} {p n : Nat} {st : DSt} (h : Hid (DrvAt F w p n st)) (hcl : st.cache.length < 1000000) :
    Calls Try.prog 15 #[.pointer (some ⟨p, 0, none⟩)] w fun e w' => (∃ E, e = .returned (.int .i64 E)) ∧ Upd F w w' p n (if st.dead = false then st.settle (fun _ => true) else st) := by
  cases hd : st.dead with
  | false =>
    refine (flush_good h hd hcl).mono ?_
    rintro e w' ⟨rfl, hu⟩
    exact ⟨⟨_, rfl⟩, hu⟩
  | true =>
    refine (flush_dead h hd).mono ?_
    rintro e w' ⟨rfl, hu⟩
    exact ⟨⟨_, rfl⟩, h.out.upd hu⟩
set_option maxRecDepth 100000 in
theorem rotten_dead {F : Nat → Prop} {w : World} {p n : Nat} {st : DSt} (h : Hid (DrvAt F w p n st)) (hd : st.dead = true) (z : Int) :
    Calls Try.prog 19 #[.pointer (some ⟨p, 0, none⟩), .int .i64 z] w fun e w' => e = .returned (.bool false) ∧ Below w.heap.size w w' := by
  obtain ⟨sb, sc, rb, rc, A, cc, mb, H⟩ := h.out.box
  rw [hd] at H
  go_enter Try.func19, Try.ntmps19
  go_wp2_with fail
  refine (none_any H).mono ?_
  rintro e w1 ⟨rfl, h1⟩
  have H1 := Lib.hid (H.out.below h1)
  obtain ⟨k0, k1, k2, k3, k4⟩ := drv_cells H1.out
  go_wp2_with fail
  go_ret
  exact ⟨rfl, h1⟩
end Go.Proofs.Ytolmpopjonkfgaa
