/-
  An act, on both: those whose regions draw their order.
-/
import Derived.Test.YtnceaimhhfjmdaaActs
set_option linter.unusedSimpArgs false
set_option linter.unusedVariables false
namespace Go.Proofs.Ytnceaimhhfjmdaa
open Go.RowKit Go.Cib
attribute [local go_sem] cell_set Later.cell Later.frozen Grw.cell Grw.frozen

set_option maxRecDepth 100000 in
set_option maxHeartbeats 4000000 in
theorem act_write0 {F G : Nat → Prop} {w : World} {p x n : Nat} {st : DSt} {rs : RSt} (h : Hid (Two F G w p x n st rs)) (hc1 : st.cache.length < 1000000) (hc2 : rs.L.length + rs.wait.length < 1000000) {S : Nat → Prop} {KA BA : Option Addr} {km kc bm bc : Nat} {ks : List Bool} {bs : List Int} (hk : Hid (RdL BoolR 1 S w KA km ks)) (hb : Hid (RdL U8R 1 S w BA bm bs)) (hS : ∀ b, S b → ¬ F b ∧ ¬ G b ∧ b < w.heap.size) (z off c mask : Int) :
    Calls Try.prog 41 #[.pointer (some ⟨p, 0, none⟩), .pointer (some ⟨x, 0, none⟩), .agg #[.int .i64 0, .int .i64 z, .int .i64 off, .int .u8 c, .int .u32 mask, .slice KA km kc, .slice BA bm bc]] w fun e w' => RetB e ∧ Both F G w w' p x n (wrD n st z (rep c)) (wrR n rs z (rep c)) := by
  have b0 : Below w.heap.size w (w.alloc (.cells #[.int .i64 0, .int .i64 z, .int .i64 off, .int .u8 c, .int .u32 mask, .slice KA km kc, .slice BA bm bc] 78)) := (Below.refl _ _).alloc (Nat.le_refl _) _
  have X0 := Lib.hid (BoxAt.new w #[.int .i64 0, .int .i64 z, .int .i64 off, .int .u8 c, .int .u32 mask, .slice KA km kc, .slice BA bm bc] 78)
  obtain ⟨w0, hw0⟩ : ∃ w0, w.alloc (.cells #[.int .i64 0, .int .i64 z, .int .i64 off, .int .u8 c, .int .u32 mask, .slice KA km kc, .slice BA bm bc] 78) = w0 := ⟨_, rfl⟩
  rw [hw0] at b0 X0
  have T0 := Lib.hid (h.out.below b0)
  have hbF : ∀ k, F k → k < w.heap.size := fun k hk => drvAt_lt h.out.d hk
  have hbG : ∀ k, G k → k < w.heap.size := fun k hk => h.out.r.lt hk
  have HbF := Lib.hid hbF
  have HbG := Lib.hid hbG
  have HS := Lib.hid hS
  have q0 : w0.cell? ⟨w.heap.size, 0, none⟩ = some (.int .i64 0) := X0.out.cell 0
  have q1 : w0.cell? ⟨w.heap.size, 1, none⟩ = some (.int .i64 z) := X0.out.cell 1
  have q2 : w0.cell? ⟨w.heap.size, 2, none⟩ = some (.int .i64 off) := X0.out.cell 2
  have q3 : w0.cell? ⟨w.heap.size, 3, none⟩ = some (.int .u8 c) := X0.out.cell 3
  have q4 : w0.cell? ⟨w.heap.size, 4, none⟩ = some (.int .u32 mask) := X0.out.cell 4
  have q5 : w0.cell? ⟨w.heap.size, 5, none⟩ = some (.slice KA km kc) := X0.out.cell 5
  have q6 : w0.cell? ⟨w.heap.size, 6, none⟩ = some (.slice BA bm bc) := X0.out.cell 6
  have B0 := Lib.hid b0
  clear hbF hbG hS b0
  go_enter Try.func41, Try.ntmps41
  clear q2 q4 q5 q6
  go_wp2_with fail
  clear q0
  refine wp_region_held_drew (S := fun w' => w'.cell? ⟨w.heap.size, 1, none⟩ = some (.int .i64 z) ∧ w'.cell? ⟨w.heap.size, 3, none⟩ = some (.int .u8 c)) (by kernel_rfl) (by exact ⟨q1, q3⟩) (fun hHeld => ?_)
  refine wpAnyH_take (i := 0) (v := ?_) rfl (by kernel_rfl) (by kernel_rfl) (by kernel_rfl) (fun _ _ _ h => h) (Or.inl ⟨by rfl, ?_⟩) (by assumption) ?_
  rotate_left
  · (intro wq hSw; (try dsimp only at hSw); (try simp only [List.getElem_toArray, List.getElem_cons_succ, List.getElem_cons_zero]); go_simp); try with_reducible rfl
  try simp only [List.getElem_toArray, List.getElem_cons_succ, List.getElem_cons_zero, Act.put, List.setIfInBounds_toArray, List.set_cons_zero, List.set_cons_succ]
  refine wpAnyH_take (i := 1) (v := ?_) rfl (by kernel_rfl) (by kernel_rfl) (by kernel_rfl) (fun _ _ _ h => h) (Or.inl ⟨by rfl, ?_⟩) (by assumption) ?_
  rotate_left
  · (intro wq hSw; (try dsimp only at hSw); (try simp only [List.getElem_toArray, List.getElem_cons_succ, List.getElem_cons_zero]); go_simp); try with_reducible rfl
  try simp only [List.getElem_toArray, List.getElem_cons_succ, List.getElem_cons_zero, Act.put, List.setIfInBounds_toArray, List.set_cons_zero, List.set_cons_succ]
  refine wpAnyH_take (i := 2) (v := ?_) rfl (by kernel_rfl) (by kernel_rfl) (by kernel_rfl) (fun _ _ _ h => h) (Or.inl ⟨by rfl, ?_⟩) (by assumption) ?_
  rotate_left
  · (intro wq hSw; (try dsimp only at hSw); (try simp only [List.getElem_toArray, List.getElem_cons_succ, List.getElem_cons_zero]); go_simp); try with_reducible rfl
  try simp only [List.getElem_toArray, List.getElem_cons_succ, List.getElem_cons_zero, Act.put, List.setIfInBounds_toArray, List.set_cons_zero, List.set_cons_succ]
  refine wpAnyH_take (i := 3) (v := ?_) rfl (by kernel_rfl) (by kernel_rfl) (by kernel_rfl) (fun _ _ _ h => h) (Or.inl ⟨by rfl, ?_⟩) (by assumption) ?_
  rotate_left
  · (intro wq hSw; (try dsimp only at hSw); (try simp only [List.getElem_toArray, List.getElem_cons_succ, List.getElem_cons_zero]); go_simp); try with_reducible rfl
  try simp only [List.getElem_toArray, List.getElem_cons_succ, List.getElem_cons_zero, Act.put, List.setIfInBounds_toArray, List.set_cons_zero, List.set_cons_succ]
  refine wpAnyH_take (i := 4) (v := ?_) rfl (by kernel_rfl) (by kernel_rfl) (by kernel_rfl) (fun _ _ _ h => h) (Or.inl ⟨by rfl, ?_⟩) (by assumption) ?_
  rotate_left
  · (intro wq hSw; (try dsimp only at hSw); (try simp only [List.getElem_toArray, List.getElem_cons_succ, List.getElem_cons_zero]); go_simp); try with_reducible rfl
  try simp only [List.getElem_toArray, List.getElem_cons_succ, List.getElem_cons_zero, Act.put, List.setIfInBounds_toArray, List.set_cons_zero, List.set_cons_succ]
  refine wpAnyH_take (i := 7) (v := ?_) rfl (by kernel_rfl) (by kernel_rfl) (by kernel_rfl) (fun _ _ _ h => h) (Or.inl ⟨by rfl, ?_⟩) (by assumption) ?_
  rotate_left
  · (intro wq hSw; (try dsimp only at hSw); (try simp only [List.getElem_toArray, List.getElem_cons_succ, List.getElem_cons_zero]); go_simp); try with_reducible rfl
  try simp only [List.getElem_toArray, List.getElem_cons_succ, List.getElem_cons_zero, Act.put, List.setIfInBounds_toArray, List.set_cons_zero, List.set_cons_succ]
  refine wpAnyH_take (i := 8) (v := ?_) rfl (by kernel_rfl) (by kernel_rfl) (by kernel_rfl) (fun _ _ _ h => h) (Or.inl ⟨by rfl, ?_⟩) (by assumption) ?_
  rotate_left
  · (intro wq hSw; (try dsimp only at hSw); (try simp only [List.getElem_toArray, List.getElem_cons_succ, List.getElem_cons_zero]); go_simp); try with_reducible rfl
  try simp only [List.getElem_toArray, List.getElem_cons_succ, List.getElem_cons_zero, Act.put, List.setIfInBounds_toArray, List.set_cons_zero, List.set_cons_succ]
  refine wpAnyH_take (i := 9) (v := ?_) rfl (by kernel_rfl) (by kernel_rfl) (by kernel_rfl) (fun _ _ _ h => h) (Or.inl ⟨by rfl, ?_⟩) (by assumption) ?_
  rotate_left
  · (intro wq hSw; (try dsimp only at hSw); (try simp only [List.getElem_toArray, List.getElem_cons_succ, List.getElem_cons_zero]); go_simp); try with_reducible rfl
  try simp only [List.getElem_toArray, List.getElem_cons_succ, List.getElem_cons_zero, Act.put, List.setIfInBounds_toArray, List.set_cons_zero, List.set_cons_succ]
  refine wpAnyH_take (i := 10) (v := ?_) rfl (by kernel_rfl) (by kernel_rfl) (by kernel_rfl) (fun _ _ _ h => h) (Or.inl ⟨by rfl, ?_⟩) (by assumption) ?_
  rotate_left
  · (intro wq hSw; (try dsimp only at hSw); (try simp only [List.getElem_toArray, List.getElem_cons_succ, List.getElem_cons_zero]); go_simp); try with_reducible rfl
  try simp only [List.getElem_toArray, List.getElem_cons_succ, List.getElem_cons_zero, Act.put, List.setIfInBounds_toArray, List.set_cons_zero, List.set_cons_succ]
  refine wpAnyH_take (i := 11) (v := ?_) rfl (by kernel_rfl) (by kernel_rfl) (by kernel_rfl) (fun _ _ _ h => h) (Or.inl ⟨by rfl, ?_⟩) (by assumption) ?_
  rotate_left
  · (intro wq hSw; (try dsimp only at hSw); (try simp only [List.getElem_toArray, List.getElem_cons_succ, List.getElem_cons_zero]); go_simp); try with_reducible rfl
  try simp only [List.getElem_toArray, List.getElem_cons_succ, List.getElem_cons_zero, Act.put, List.setIfInBounds_toArray, List.set_cons_zero, List.set_cons_succ]
  refine wpAnyH_ready (rs := [5]) (by kernel_rfl) (by simp) ?_
  refine AllReadyH.cons rfl (fun K hK => ?_) AllReadyH.nil
  try simp only [List.getElem_toArray, List.getElem_cons_succ, List.getElem_cons_zero]
  go_simp
  refine (full_box c _).mono ?_
  rintro e w1 ⟨b1, rfl, l1, Q1, t1⟩
  have T1 := Lib.hid ((T0.out.below (Below.refl _ _).drew).below t1)
  have X1 := Lib.hid ((X0.out.below (Below.refl _ _).drew).below t1)
  have Q1 := Lib.hid Q1
  clear q1 q3
  have q1 : w1.cell? ⟨w.heap.size, 1, none⟩ = some (.int .i64 z) := X1.out.cell 1
  have q3 : w1.cell? ⟨w.heap.size, 3, none⟩ = some (.int .u8 c) := X1.out.cell 3
  try (go_wp2_with fail)
  refine hK.out _ _ (by exact ⟨q1, q3⟩) (fun hHeld => ?_)
  clear hK K
  try simp only [List.getElem_toArray, List.getElem_cons_succ, List.getElem_cons_zero, Act.put, List.setIfInBounds_toArray, List.set_cons_zero, List.set_cons_succ]
  refine wpAnyH_ready (rs := [6]) (by kernel_rfl) (by simp) ?_
  refine AllReadyH.cons rfl (fun K hK => ?_) AllReadyH.nil
  try simp only [List.getElem_toArray, List.getElem_cons_succ, List.getElem_cons_zero]
  go_simp
  refine (write_some (Lib.hid T1.out.d) z (S := (· = b1)) (Lib.hid (Q1.out.bytes (S := (· = b1)) rfl)) (by rintro b rfl hf; have := HbF.out _ hf; have := B0.out.size; have := l1; simp at this; omega) hc1).mono ?_
  rintro e w2 ⟨⟨E1, rfl⟩, u2⟩
  obtain ⟨F1, T2, hF1, K1⟩ := T1.out.drv u2
  have X2 := Lib.hid (X1.out.keeps K1 (fun hf => Nat.lt_irrefl _ (HbF.out _ hf)))
  have T2 := Lib.hid T2
  clear q1 q3
  have q1 : w2.cell? ⟨w.heap.size, 1, none⟩ = some (.int .i64 z) := X2.out.cell 1
  have q3 : w2.cell? ⟨w.heap.size, 3, none⟩ = some (.int .u8 c) := X2.out.cell 3
  try (go_wp2_with fail)
  refine hK.out _ _ (by exact ⟨q1, q3⟩) (fun hHeld => ?_)
  clear hK K
  try simp only [List.getElem_toArray, List.getElem_cons_succ, List.getElem_cons_zero, Act.put, List.setIfInBounds_toArray, List.set_cons_zero, List.set_cons_succ]
  refine wpAnyH_ready (rs := [12]) (by kernel_rfl) (by simp) ?_
  refine AllReadyH.cons rfl (fun K hK => ?_) AllReadyH.nil
  try simp only [List.getElem_toArray, List.getElem_cons_succ, List.getElem_cons_zero]
  go_simp
  refine (full_box c _).mono ?_
  rintro e w3 ⟨b3, rfl, l3, Q3, t3⟩
  have T3 := Lib.hid (T2.out.below t3)
  have X3 := Lib.hid (X2.out.below t3)
  have Q3 := Lib.hid Q3
  clear q1 q3
  have q1 : w3.cell? ⟨w.heap.size, 1, none⟩ = some (.int .i64 z) := X3.out.cell 1
  have q3 : w3.cell? ⟨w.heap.size, 3, none⟩ = some (.int .u8 c) := X3.out.cell 3
  try (go_wp2_with fail)
  refine hK.out _ _ (by exact ⟨q1, q3⟩) (fun hHeld => ?_)
  clear hK K
  try simp only [List.getElem_toArray, List.getElem_cons_succ, List.getElem_cons_zero, Act.put, List.setIfInBounds_toArray, List.set_cons_zero, List.set_cons_succ]
  refine wpAnyH_ready (rs := [13]) (by kernel_rfl) (by simp) ?_
  refine AllReadyH.cons rfl (fun K hK => ?_) AllReadyH.nil
  try simp only [List.getElem_toArray, List.getElem_cons_succ, List.getElem_cons_zero]
  go_simp
  refine (rwrite_all (Lib.hid T3.out.r) z (S0 := (· = b3)) (Lib.hid (Q3.out.bytes (S := (· = b3)) rfl)) (by omega)).mono ?_
  rintro e w4 ⟨⟨E2, rfl⟩, u4⟩
  obtain ⟨G1, T4, hG1, K2⟩ := T3.out.ref u4
  have X4 := Lib.hid (X3.out.keeps K2 (fun hf => Nat.lt_irrefl _ (HbG.out _ hf)))
  have T4 := Lib.hid T4
  clear q1 q3
  have q1 : w4.cell? ⟨w.heap.size, 1, none⟩ = some (.int .i64 z) := X4.out.cell 1
  have q3 : w4.cell? ⟨w.heap.size, 3, none⟩ = some (.int .u8 c) := X4.out.cell 3
  try (go_wp2_with fail)
  refine hK.out _ _ (by exact ⟨q1, q3⟩) (fun hHeld => ?_)
  clear hK K
  try simp only [List.getElem_toArray, List.getElem_cons_succ, List.getElem_cons_zero, Act.put, List.setIfInBounds_toArray, List.set_cons_zero, List.set_cons_succ]
  refine wpAnyH_take (i := 14) (v := ?_) rfl (by kernel_rfl) (by kernel_rfl) (by kernel_rfl) (fun _ _ _ h => h) (Or.inl ⟨by rfl, ?_⟩) (by assumption) ?_
  rotate_left
  · (intro wq hSw; (try dsimp only at hSw); (try simp only [List.getElem_toArray, List.getElem_cons_succ, List.getElem_cons_zero]); go_simp); try with_reducible rfl
  try simp only [List.getElem_toArray, List.getElem_cons_succ, List.getElem_cons_zero, Act.put, List.setIfInBounds_toArray, List.set_cons_zero, List.set_cons_succ]
  refine wpAnyH_take (i := 15) (v := ?_) rfl (by kernel_rfl) (by kernel_rfl) (by kernel_rfl) (fun _ _ _ h => h) (Or.inl ⟨by rfl, ?_⟩) (by assumption) ?_
  rotate_left
  · (intro wq hSw; (try dsimp only at hSw); (try simp only [List.getElem_toArray, List.getElem_cons_succ, List.getElem_cons_zero]); go_simp); try with_reducible rfl
  try simp only [List.getElem_toArray, List.getElem_cons_succ, List.getElem_cons_zero, Act.put, List.setIfInBounds_toArray, List.set_cons_zero, List.set_cons_succ]
  refine wpAnyH_done (by kernel_rfl) ?_ _
  go_wp2_with fail
  go_ret
  exact ⟨⟨_, rfl⟩, Both.mk (B0.out.trans (((Below.refl _ _).drew.trans t1).mono B0.out.size)) K1 t3 K2 hF1 hG1 (show Two F1 G1 w4 p x n (wrD n st z (rep c)) (wrR n rs z (rep c)) from T4.out)⟩

set_option maxRecDepth 100000 in
set_option maxHeartbeats 4000000 in
theorem act_write1 {F G : Nat → Prop} {w : World} {p x n : Nat} {st : DSt} {rs : RSt} (h : Hid (Two F G w p x n st rs)) (hc1 : st.cache.length < 1000000) (hc2 : rs.L.length + rs.wait.length < 1000000) {S : Nat → Prop} {KA BA : Option Addr} {km kc bm bc : Nat} {ks : List Bool} {bs : List Int} (hk : Hid (RdL BoolR 1 S w KA km ks)) (hb : Hid (RdL U8R 1 S w BA bm bs)) (hS : ∀ b, S b → ¬ F b ∧ ¬ G b ∧ b < w.heap.size) (z off c mask : Int) :
    Calls Try.prog 41 #[.pointer (some ⟨p, 0, none⟩), .pointer (some ⟨x, 0, none⟩), .agg #[.int .i64 1, .int .i64 z, .int .i64 off, .int .u8 c, .int .u32 mask, .slice KA km kc, .slice BA bm bc]] w fun e w' => RetB e ∧ Both F G w w' p x n (wrD n st z (rep c)) (wrR n rs z (rep c)) := by
  have b0 : Below w.heap.size w (w.alloc (.cells #[.int .i64 1, .int .i64 z, .int .i64 off, .int .u8 c, .int .u32 mask, .slice KA km kc, .slice BA bm bc] 78)) := (Below.refl _ _).alloc (Nat.le_refl _) _
  have X0 := Lib.hid (BoxAt.new w #[.int .i64 1, .int .i64 z, .int .i64 off, .int .u8 c, .int .u32 mask, .slice KA km kc, .slice BA bm bc] 78)
  obtain ⟨w0, hw0⟩ : ∃ w0, w.alloc (.cells #[.int .i64 1, .int .i64 z, .int .i64 off, .int .u8 c, .int .u32 mask, .slice KA km kc, .slice BA bm bc] 78) = w0 := ⟨_, rfl⟩
  rw [hw0] at b0 X0
  have T0 := Lib.hid (h.out.below b0)
  have hbF : ∀ k, F k → k < w.heap.size := fun k hk => drvAt_lt h.out.d hk
  have hbG : ∀ k, G k → k < w.heap.size := fun k hk => h.out.r.lt hk
  have HbF := Lib.hid hbF
  have HbG := Lib.hid hbG
  have HS := Lib.hid hS
  have q0 : w0.cell? ⟨w.heap.size, 0, none⟩ = some (.int .i64 1) := X0.out.cell 0
  have q1 : w0.cell? ⟨w.heap.size, 1, none⟩ = some (.int .i64 z) := X0.out.cell 1
  have q2 : w0.cell? ⟨w.heap.size, 2, none⟩ = some (.int .i64 off) := X0.out.cell 2
  have q3 : w0.cell? ⟨w.heap.size, 3, none⟩ = some (.int .u8 c) := X0.out.cell 3
  have q4 : w0.cell? ⟨w.heap.size, 4, none⟩ = some (.int .u32 mask) := X0.out.cell 4
  have q5 : w0.cell? ⟨w.heap.size, 5, none⟩ = some (.slice KA km kc) := X0.out.cell 5
  have q6 : w0.cell? ⟨w.heap.size, 6, none⟩ = some (.slice BA bm bc) := X0.out.cell 6
  have B0 := Lib.hid b0
  clear hbF hbG hS b0
  go_enter Try.func41, Try.ntmps41
  clear q2 q4 q5 q6
  go_wp2_with fail
  clear q0
  refine wp_region_held_drew (S := fun w' => w'.cell? ⟨w.heap.size, 1, none⟩ = some (.int .i64 z) ∧ w'.cell? ⟨w.heap.size, 3, none⟩ = some (.int .u8 c)) (by kernel_rfl) (by exact ⟨q1, q3⟩) (fun hHeld => ?_)
  refine wpAnyH_take (i := 0) (v := ?_) rfl (by kernel_rfl) (by kernel_rfl) (by kernel_rfl) (fun _ _ _ h => h) (Or.inl ⟨by rfl, ?_⟩) (by assumption) ?_
  rotate_left
  · (intro wq hSw; (try dsimp only at hSw); (try simp only [List.getElem_toArray, List.getElem_cons_succ, List.getElem_cons_zero]); go_simp); try with_reducible rfl
  try simp only [List.getElem_toArray, List.getElem_cons_succ, List.getElem_cons_zero, Act.put, List.setIfInBounds_toArray, List.set_cons_zero, List.set_cons_succ]
  refine wpAnyH_take (i := 1) (v := ?_) rfl (by kernel_rfl) (by kernel_rfl) (by kernel_rfl) (fun _ _ _ h => h) (Or.inl ⟨by rfl, ?_⟩) (by assumption) ?_
  rotate_left
  · (intro wq hSw; (try dsimp only at hSw); (try simp only [List.getElem_toArray, List.getElem_cons_succ, List.getElem_cons_zero]); go_simp); try with_reducible rfl
  try simp only [List.getElem_toArray, List.getElem_cons_succ, List.getElem_cons_zero, Act.put, List.setIfInBounds_toArray, List.set_cons_zero, List.set_cons_succ]
  refine wpAnyH_take (i := 2) (v := ?_) rfl (by kernel_rfl) (by kernel_rfl) (by kernel_rfl) (fun _ _ _ h => h) (Or.inl ⟨by rfl, ?_⟩) (by assumption) ?_
  rotate_left
  · (intro wq hSw; (try dsimp only at hSw); (try simp only [List.getElem_toArray, List.getElem_cons_succ, List.getElem_cons_zero]); go_simp); try with_reducible rfl
  try simp only [List.getElem_toArray, List.getElem_cons_succ, List.getElem_cons_zero, Act.put, List.setIfInBounds_toArray, List.set_cons_zero, List.set_cons_succ]
  refine wpAnyH_take (i := 3) (v := ?_) rfl (by kernel_rfl) (by kernel_rfl) (by kernel_rfl) (fun _ _ _ h => h) (Or.inl ⟨by rfl, ?_⟩) (by assumption) ?_
  rotate_left
  · (intro wq hSw; (try dsimp only at hSw); (try simp only [List.getElem_toArray, List.getElem_cons_succ, List.getElem_cons_zero]); go_simp); try with_reducible rfl
  try simp only [List.getElem_toArray, List.getElem_cons_succ, List.getElem_cons_zero, Act.put, List.setIfInBounds_toArray, List.set_cons_zero, List.set_cons_succ]
  refine wpAnyH_take (i := 4) (v := ?_) rfl (by kernel_rfl) (by kernel_rfl) (by kernel_rfl) (fun _ _ _ h => h) (Or.inl ⟨by rfl, ?_⟩) (by assumption) ?_
  rotate_left
  · (intro wq hSw; (try dsimp only at hSw); (try simp only [List.getElem_toArray, List.getElem_cons_succ, List.getElem_cons_zero]); go_simp); try with_reducible rfl
  try simp only [List.getElem_toArray, List.getElem_cons_succ, List.getElem_cons_zero, Act.put, List.setIfInBounds_toArray, List.set_cons_zero, List.set_cons_succ]
  refine wpAnyH_take (i := 7) (v := ?_) rfl (by kernel_rfl) (by kernel_rfl) (by kernel_rfl) (fun _ _ _ h => h) (Or.inl ⟨by rfl, ?_⟩) (by assumption) ?_
  rotate_left
  · (intro wq hSw; (try dsimp only at hSw); (try simp only [List.getElem_toArray, List.getElem_cons_succ, List.getElem_cons_zero]); go_simp); try with_reducible rfl
  try simp only [List.getElem_toArray, List.getElem_cons_succ, List.getElem_cons_zero, Act.put, List.setIfInBounds_toArray, List.set_cons_zero, List.set_cons_succ]
  refine wpAnyH_take (i := 8) (v := ?_) rfl (by kernel_rfl) (by kernel_rfl) (by kernel_rfl) (fun _ _ _ h => h) (Or.inl ⟨by rfl, ?_⟩) (by assumption) ?_
  rotate_left
  · (intro wq hSw; (try dsimp only at hSw); (try simp only [List.getElem_toArray, List.getElem_cons_succ, List.getElem_cons_zero]); go_simp); try with_reducible rfl
  try simp only [List.getElem_toArray, List.getElem_cons_succ, List.getElem_cons_zero, Act.put, List.setIfInBounds_toArray, List.set_cons_zero, List.set_cons_succ]
  refine wpAnyH_take (i := 9) (v := ?_) rfl (by kernel_rfl) (by kernel_rfl) (by kernel_rfl) (fun _ _ _ h => h) (Or.inl ⟨by rfl, ?_⟩) (by assumption) ?_
  rotate_left
  · (intro wq hSw; (try dsimp only at hSw); (try simp only [List.getElem_toArray, List.getElem_cons_succ, List.getElem_cons_zero]); go_simp); try with_reducible rfl
  try simp only [List.getElem_toArray, List.getElem_cons_succ, List.getElem_cons_zero, Act.put, List.setIfInBounds_toArray, List.set_cons_zero, List.set_cons_succ]
  refine wpAnyH_take (i := 10) (v := ?_) rfl (by kernel_rfl) (by kernel_rfl) (by kernel_rfl) (fun _ _ _ h => h) (Or.inl ⟨by rfl, ?_⟩) (by assumption) ?_
  rotate_left
  · (intro wq hSw; (try dsimp only at hSw); (try simp only [List.getElem_toArray, List.getElem_cons_succ, List.getElem_cons_zero]); go_simp); try with_reducible rfl
  try simp only [List.getElem_toArray, List.getElem_cons_succ, List.getElem_cons_zero, Act.put, List.setIfInBounds_toArray, List.set_cons_zero, List.set_cons_succ]
  refine wpAnyH_take (i := 11) (v := ?_) rfl (by kernel_rfl) (by kernel_rfl) (by kernel_rfl) (fun _ _ _ h => h) (Or.inl ⟨by rfl, ?_⟩) (by assumption) ?_
  rotate_left
  · (intro wq hSw; (try dsimp only at hSw); (try simp only [List.getElem_toArray, List.getElem_cons_succ, List.getElem_cons_zero]); go_simp); try with_reducible rfl
  try simp only [List.getElem_toArray, List.getElem_cons_succ, List.getElem_cons_zero, Act.put, List.setIfInBounds_toArray, List.set_cons_zero, List.set_cons_succ]
  refine wpAnyH_ready (rs := [5]) (by kernel_rfl) (by simp) ?_
  refine AllReadyH.cons rfl (fun K hK => ?_) AllReadyH.nil
  try simp only [List.getElem_toArray, List.getElem_cons_succ, List.getElem_cons_zero]
  go_simp
  refine (full_box c _).mono ?_
  rintro e w1 ⟨b1, rfl, l1, Q1, t1⟩
  have T1 := Lib.hid ((T0.out.below (Below.refl _ _).drew).below t1)
  have X1 := Lib.hid ((X0.out.below (Below.refl _ _).drew).below t1)
  have Q1 := Lib.hid Q1
  clear q1 q3
  have q1 : w1.cell? ⟨w.heap.size, 1, none⟩ = some (.int .i64 z) := X1.out.cell 1
  have q3 : w1.cell? ⟨w.heap.size, 3, none⟩ = some (.int .u8 c) := X1.out.cell 3
  try (go_wp2_with fail)
  refine hK.out _ _ (by exact ⟨q1, q3⟩) (fun hHeld => ?_)
  clear hK K
  try simp only [List.getElem_toArray, List.getElem_cons_succ, List.getElem_cons_zero, Act.put, List.setIfInBounds_toArray, List.set_cons_zero, List.set_cons_succ]
  refine wpAnyH_ready (rs := [6]) (by kernel_rfl) (by simp) ?_
  refine AllReadyH.cons rfl (fun K hK => ?_) AllReadyH.nil
  try simp only [List.getElem_toArray, List.getElem_cons_succ, List.getElem_cons_zero]
  go_simp
  refine (write_some (Lib.hid T1.out.d) z (S := (· = b1)) (Lib.hid (Q1.out.bytes (S := (· = b1)) rfl)) (by rintro b rfl hf; have := HbF.out _ hf; have := B0.out.size; have := l1; simp at this; omega) hc1).mono ?_
  rintro e w2 ⟨⟨E1, rfl⟩, u2⟩
  obtain ⟨F1, T2, hF1, K1⟩ := T1.out.drv u2
  have X2 := Lib.hid (X1.out.keeps K1 (fun hf => Nat.lt_irrefl _ (HbF.out _ hf)))
  have T2 := Lib.hid T2
  clear q1 q3
  have q1 : w2.cell? ⟨w.heap.size, 1, none⟩ = some (.int .i64 z) := X2.out.cell 1
  have q3 : w2.cell? ⟨w.heap.size, 3, none⟩ = some (.int .u8 c) := X2.out.cell 3
  try (go_wp2_with fail)
  refine hK.out _ _ (by exact ⟨q1, q3⟩) (fun hHeld => ?_)
  clear hK K
  try simp only [List.getElem_toArray, List.getElem_cons_succ, List.getElem_cons_zero, Act.put, List.setIfInBounds_toArray, List.set_cons_zero, List.set_cons_succ]
  refine wpAnyH_ready (rs := [12]) (by kernel_rfl) (by simp) ?_
  refine AllReadyH.cons rfl (fun K hK => ?_) AllReadyH.nil
  try simp only [List.getElem_toArray, List.getElem_cons_succ, List.getElem_cons_zero]
  go_simp
  refine (full_box c _).mono ?_
  rintro e w3 ⟨b3, rfl, l3, Q3, t3⟩
  have T3 := Lib.hid (T2.out.below t3)
  have X3 := Lib.hid (X2.out.below t3)
  have Q3 := Lib.hid Q3
  clear q1 q3
  have q1 : w3.cell? ⟨w.heap.size, 1, none⟩ = some (.int .i64 z) := X3.out.cell 1
  have q3 : w3.cell? ⟨w.heap.size, 3, none⟩ = some (.int .u8 c) := X3.out.cell 3
  try (go_wp2_with fail)
  refine hK.out _ _ (by exact ⟨q1, q3⟩) (fun hHeld => ?_)
  clear hK K
  try simp only [List.getElem_toArray, List.getElem_cons_succ, List.getElem_cons_zero, Act.put, List.setIfInBounds_toArray, List.set_cons_zero, List.set_cons_succ]
  refine wpAnyH_ready (rs := [13]) (by kernel_rfl) (by simp) ?_
  refine AllReadyH.cons rfl (fun K hK => ?_) AllReadyH.nil
  try simp only [List.getElem_toArray, List.getElem_cons_succ, List.getElem_cons_zero]
  go_simp
  refine (rwrite_all (Lib.hid T3.out.r) z (S0 := (· = b3)) (Lib.hid (Q3.out.bytes (S := (· = b3)) rfl)) (by omega)).mono ?_
  rintro e w4 ⟨⟨E2, rfl⟩, u4⟩
  obtain ⟨G1, T4, hG1, K2⟩ := T3.out.ref u4
  have X4 := Lib.hid (X3.out.keeps K2 (fun hf => Nat.lt_irrefl _ (HbG.out _ hf)))
  have T4 := Lib.hid T4
  clear q1 q3
  have q1 : w4.cell? ⟨w.heap.size, 1, none⟩ = some (.int .i64 z) := X4.out.cell 1
  have q3 : w4.cell? ⟨w.heap.size, 3, none⟩ = some (.int .u8 c) := X4.out.cell 3
  try (go_wp2_with fail)
  refine hK.out _ _ (by exact ⟨q1, q3⟩) (fun hHeld => ?_)
  clear hK K
  try simp only [List.getElem_toArray, List.getElem_cons_succ, List.getElem_cons_zero, Act.put, List.setIfInBounds_toArray, List.set_cons_zero, List.set_cons_succ]
  refine wpAnyH_take (i := 14) (v := ?_) rfl (by kernel_rfl) (by kernel_rfl) (by kernel_rfl) (fun _ _ _ h => h) (Or.inl ⟨by rfl, ?_⟩) (by assumption) ?_
  rotate_left
  · (intro wq hSw; (try dsimp only at hSw); (try simp only [List.getElem_toArray, List.getElem_cons_succ, List.getElem_cons_zero]); go_simp); try with_reducible rfl
  try simp only [List.getElem_toArray, List.getElem_cons_succ, List.getElem_cons_zero, Act.put, List.setIfInBounds_toArray, List.set_cons_zero, List.set_cons_succ]
  refine wpAnyH_take (i := 15) (v := ?_) rfl (by kernel_rfl) (by kernel_rfl) (by kernel_rfl) (fun _ _ _ h => h) (Or.inl ⟨by rfl, ?_⟩) (by assumption) ?_
  rotate_left
  · (intro wq hSw; (try dsimp only at hSw); (try simp only [List.getElem_toArray, List.getElem_cons_succ, List.getElem_cons_zero]); go_simp); try with_reducible rfl
  try simp only [List.getElem_toArray, List.getElem_cons_succ, List.getElem_cons_zero, Act.put, List.setIfInBounds_toArray, List.set_cons_zero, List.set_cons_succ]
  refine wpAnyH_done (by kernel_rfl) ?_ _
  go_wp2_with fail
  go_ret
  exact ⟨⟨_, rfl⟩, Both.mk (B0.out.trans (((Below.refl _ _).drew.trans t1).mono B0.out.size)) K1 t3 K2 hF1 hG1 (show Two F1 G1 w4 p x n (wrD n st z (rep c)) (wrR n rs z (rep c)) from T4.out)⟩

set_option maxRecDepth 100000 in
set_option maxHeartbeats 4000000 in
theorem act_write2 {F G : Nat → Prop} {w : World} {p x n : Nat} {st : DSt} {rs : RSt} (h : Hid (Two F G w p x n st rs)) (hc1 : st.cache.length < 1000000) (hc2 : rs.L.length + rs.wait.length < 1000000) {S : Nat → Prop} {KA BA : Option Addr} {km kc bm bc : Nat} {ks : List Bool} {bs : List Int} (hk : Hid (RdL BoolR 1 S w KA km ks)) (hb : Hid (RdL U8R 1 S w BA bm bs)) (hS : ∀ b, S b → ¬ F b ∧ ¬ G b ∧ b < w.heap.size) (z off c mask : Int) :
    Calls Try.prog 41 #[.pointer (some ⟨p, 0, none⟩), .pointer (some ⟨x, 0, none⟩), .agg #[.int .i64 2, .int .i64 z, .int .i64 off, .int .u8 c, .int .u32 mask, .slice KA km kc, .slice BA bm bc]] w fun e w' => RetB e ∧ Both F G w w' p x n (wrD n st z (rep c)) (wrR n rs z (rep c)) := by
  have b0 : Below w.heap.size w (w.alloc (.cells #[.int .i64 2, .int .i64 z, .int .i64 off, .int .u8 c, .int .u32 mask, .slice KA km kc, .slice BA bm bc] 78)) := (Below.refl _ _).alloc (Nat.le_refl _) _
  have X0 := Lib.hid (BoxAt.new w #[.int .i64 2, .int .i64 z, .int .i64 off, .int .u8 c, .int .u32 mask, .slice KA km kc, .slice BA bm bc] 78)
  obtain ⟨w0, hw0⟩ : ∃ w0, w.alloc (.cells #[.int .i64 2, .int .i64 z, .int .i64 off, .int .u8 c, .int .u32 mask, .slice KA km kc, .slice BA bm bc] 78) = w0 := ⟨_, rfl⟩
  rw [hw0] at b0 X0
  have T0 := Lib.hid (h.out.below b0)
  have hbF : ∀ k, F k → k < w.heap.size := fun k hk => drvAt_lt h.out.d hk
  have hbG : ∀ k, G k → k < w.heap.size := fun k hk => h.out.r.lt hk
  have HbF := Lib.hid hbF
  have HbG := Lib.hid hbG
  have HS := Lib.hid hS
  have q0 : w0.cell? ⟨w.heap.size, 0, none⟩ = some (.int .i64 2) := X0.out.cell 0
  have q1 : w0.cell? ⟨w.heap.size, 1, none⟩ = some (.int .i64 z) := X0.out.cell 1
  have q2 : w0.cell? ⟨w.heap.size, 2, none⟩ = some (.int .i64 off) := X0.out.cell 2
  have q3 : w0.cell? ⟨w.heap.size, 3, none⟩ = some (.int .u8 c) := X0.out.cell 3
  have q4 : w0.cell? ⟨w.heap.size, 4, none⟩ = some (.int .u32 mask) := X0.out.cell 4
  have q5 : w0.cell? ⟨w.heap.size, 5, none⟩ = some (.slice KA km kc) := X0.out.cell 5
  have q6 : w0.cell? ⟨w.heap.size, 6, none⟩ = some (.slice BA bm bc) := X0.out.cell 6
  have B0 := Lib.hid b0
  clear hbF hbG hS b0
  go_enter Try.func41, Try.ntmps41
  clear q2 q4 q5 q6
  go_wp2_with fail
  clear q0
  refine wp_region_held_drew (S := fun w' => w'.cell? ⟨w.heap.size, 1, none⟩ = some (.int .i64 z) ∧ w'.cell? ⟨w.heap.size, 3, none⟩ = some (.int .u8 c)) (by kernel_rfl) (by exact ⟨q1, q3⟩) (fun hHeld => ?_)
  refine wpAnyH_take (i := 0) (v := ?_) rfl (by kernel_rfl) (by kernel_rfl) (by kernel_rfl) (fun _ _ _ h => h) (Or.inl ⟨by rfl, ?_⟩) (by assumption) ?_
  rotate_left
  · (intro wq hSw; (try dsimp only at hSw); (try simp only [List.getElem_toArray, List.getElem_cons_succ, List.getElem_cons_zero]); go_simp); try with_reducible rfl
  try simp only [List.getElem_toArray, List.getElem_cons_succ, List.getElem_cons_zero, Act.put, List.setIfInBounds_toArray, List.set_cons_zero, List.set_cons_succ]
  refine wpAnyH_take (i := 1) (v := ?_) rfl (by kernel_rfl) (by kernel_rfl) (by kernel_rfl) (fun _ _ _ h => h) (Or.inl ⟨by rfl, ?_⟩) (by assumption) ?_
  rotate_left
  · (intro wq hSw; (try dsimp only at hSw); (try simp only [List.getElem_toArray, List.getElem_cons_succ, List.getElem_cons_zero]); go_simp); try with_reducible rfl
  try simp only [List.getElem_toArray, List.getElem_cons_succ, List.getElem_cons_zero, Act.put, List.setIfInBounds_toArray, List.set_cons_zero, List.set_cons_succ]
  refine wpAnyH_take (i := 2) (v := ?_) rfl (by kernel_rfl) (by kernel_rfl) (by kernel_rfl) (fun _ _ _ h => h) (Or.inl ⟨by rfl, ?_⟩) (by assumption) ?_
  rotate_left
  · (intro wq hSw; (try dsimp only at hSw); (try simp only [List.getElem_toArray, List.getElem_cons_succ, List.getElem_cons_zero]); go_simp); try with_reducible rfl
  try simp only [List.getElem_toArray, List.getElem_cons_succ, List.getElem_cons_zero, Act.put, List.setIfInBounds_toArray, List.set_cons_zero, List.set_cons_succ]
  refine wpAnyH_take (i := 3) (v := ?_) rfl (by kernel_rfl) (by kernel_rfl) (by kernel_rfl) (fun _ _ _ h => h) (Or.inl ⟨by rfl, ?_⟩) (by assumption) ?_
  rotate_left
  · (intro wq hSw; (try dsimp only at hSw); (try simp only [List.getElem_toArray, List.getElem_cons_succ, List.getElem_cons_zero]); go_simp); try with_reducible rfl
  try simp only [List.getElem_toArray, List.getElem_cons_succ, List.getElem_cons_zero, Act.put, List.setIfInBounds_toArray, List.set_cons_zero, List.set_cons_succ]
  refine wpAnyH_take (i := 4) (v := ?_) rfl (by kernel_rfl) (by kernel_rfl) (by kernel_rfl) (fun _ _ _ h => h) (Or.inl ⟨by rfl, ?_⟩) (by assumption) ?_
  rotate_left
  · (intro wq hSw; (try dsimp only at hSw); (try simp only [List.getElem_toArray, List.getElem_cons_succ, List.getElem_cons_zero]); go_simp); try with_reducible rfl
  try simp only [List.getElem_toArray, List.getElem_cons_succ, List.getElem_cons_zero, Act.put, List.setIfInBounds_toArray, List.set_cons_zero, List.set_cons_succ]
  refine wpAnyH_take (i := 7) (v := ?_) rfl (by kernel_rfl) (by kernel_rfl) (by kernel_rfl) (fun _ _ _ h => h) (Or.inl ⟨by rfl, ?_⟩) (by assumption) ?_
  rotate_left
  · (intro wq hSw; (try dsimp only at hSw); (try simp only [List.getElem_toArray, List.getElem_cons_succ, List.getElem_cons_zero]); go_simp); try with_reducible rfl
  try simp only [List.getElem_toArray, List.getElem_cons_succ, List.getElem_cons_zero, Act.put, List.setIfInBounds_toArray, List.set_cons_zero, List.set_cons_succ]
  refine wpAnyH_take (i := 8) (v := ?_) rfl (by kernel_rfl) (by kernel_rfl) (by kernel_rfl) (fun _ _ _ h => h) (Or.inl ⟨by rfl, ?_⟩) (by assumption) ?_
  rotate_left
  · (intro wq hSw; (try dsimp only at hSw); (try simp only [List.getElem_toArray, List.getElem_cons_succ, List.getElem_cons_zero]); go_simp); try with_reducible rfl
  try simp only [List.getElem_toArray, List.getElem_cons_succ, List.getElem_cons_zero, Act.put, List.setIfInBounds_toArray, List.set_cons_zero, List.set_cons_succ]
  refine wpAnyH_take (i := 9) (v := ?_) rfl (by kernel_rfl) (by kernel_rfl) (by kernel_rfl) (fun _ _ _ h => h) (Or.inl ⟨by rfl, ?_⟩) (by assumption) ?_
  rotate_left
  · (intro wq hSw; (try dsimp only at hSw); (try simp only [List.getElem_toArray, List.getElem_cons_succ, List.getElem_cons_zero]); go_simp); try with_reducible rfl
  try simp only [List.getElem_toArray, List.getElem_cons_succ, List.getElem_cons_zero, Act.put, List.setIfInBounds_toArray, List.set_cons_zero, List.set_cons_succ]
  refine wpAnyH_take (i := 10) (v := ?_) rfl (by kernel_rfl) (by kernel_rfl) (by kernel_rfl) (fun _ _ _ h => h) (Or.inl ⟨by rfl, ?_⟩) (by assumption) ?_
  rotate_left
  · (intro wq hSw; (try dsimp only at hSw); (try simp only [List.getElem_toArray, List.getElem_cons_succ, List.getElem_cons_zero]); go_simp); try with_reducible rfl
  try simp only [List.getElem_toArray, List.getElem_cons_succ, List.getElem_cons_zero, Act.put, List.setIfInBounds_toArray, List.set_cons_zero, List.set_cons_succ]
  refine wpAnyH_take (i := 11) (v := ?_) rfl (by kernel_rfl) (by kernel_rfl) (by kernel_rfl) (fun _ _ _ h => h) (Or.inl ⟨by rfl, ?_⟩) (by assumption) ?_
  rotate_left
  · (intro wq hSw; (try dsimp only at hSw); (try simp only [List.getElem_toArray, List.getElem_cons_succ, List.getElem_cons_zero]); go_simp); try with_reducible rfl
  try simp only [List.getElem_toArray, List.getElem_cons_succ, List.getElem_cons_zero, Act.put, List.setIfInBounds_toArray, List.set_cons_zero, List.set_cons_succ]
  refine wpAnyH_ready (rs := [5]) (by kernel_rfl) (by simp) ?_
  refine AllReadyH.cons rfl (fun K hK => ?_) AllReadyH.nil
  try simp only [List.getElem_toArray, List.getElem_cons_succ, List.getElem_cons_zero]
  go_simp
  refine (full_box c _).mono ?_
  rintro e w1 ⟨b1, rfl, l1, Q1, t1⟩
  have T1 := Lib.hid ((T0.out.below (Below.refl _ _).drew).below t1)
  have X1 := Lib.hid ((X0.out.below (Below.refl _ _).drew).below t1)
  have Q1 := Lib.hid Q1
  clear q1 q3
  have q1 : w1.cell? ⟨w.heap.size, 1, none⟩ = some (.int .i64 z) := X1.out.cell 1
  have q3 : w1.cell? ⟨w.heap.size, 3, none⟩ = some (.int .u8 c) := X1.out.cell 3
  try (go_wp2_with fail)
  refine hK.out _ _ (by exact ⟨q1, q3⟩) (fun hHeld => ?_)
  clear hK K
  try simp only [List.getElem_toArray, List.getElem_cons_succ, List.getElem_cons_zero, Act.put, List.setIfInBounds_toArray, List.set_cons_zero, List.set_cons_succ]
  refine wpAnyH_ready (rs := [6]) (by kernel_rfl) (by simp) ?_
  refine AllReadyH.cons rfl (fun K hK => ?_) AllReadyH.nil
  try simp only [List.getElem_toArray, List.getElem_cons_succ, List.getElem_cons_zero]
  go_simp
  refine (write_some (Lib.hid T1.out.d) z (S := (· = b1)) (Lib.hid (Q1.out.bytes (S := (· = b1)) rfl)) (by rintro b rfl hf; have := HbF.out _ hf; have := B0.out.size; have := l1; simp at this; omega) hc1).mono ?_
  rintro e w2 ⟨⟨E1, rfl⟩, u2⟩
  obtain ⟨F1, T2, hF1, K1⟩ := T1.out.drv u2
  have X2 := Lib.hid (X1.out.keeps K1 (fun hf => Nat.lt_irrefl _ (HbF.out _ hf)))
  have T2 := Lib.hid T2
  clear q1 q3
  have q1 : w2.cell? ⟨w.heap.size, 1, none⟩ = some (.int .i64 z) := X2.out.cell 1
  have q3 : w2.cell? ⟨w.heap.size, 3, none⟩ = some (.int .u8 c) := X2.out.cell 3
  try (go_wp2_with fail)
  refine hK.out _ _ (by exact ⟨q1, q3⟩) (fun hHeld => ?_)
  clear hK K
  try simp only [List.getElem_toArray, List.getElem_cons_succ, List.getElem_cons_zero, Act.put, List.setIfInBounds_toArray, List.set_cons_zero, List.set_cons_succ]
  refine wpAnyH_ready (rs := [12]) (by kernel_rfl) (by simp) ?_
  refine AllReadyH.cons rfl (fun K hK => ?_) AllReadyH.nil
  try simp only [List.getElem_toArray, List.getElem_cons_succ, List.getElem_cons_zero]
  go_simp
  refine (full_box c _).mono ?_
  rintro e w3 ⟨b3, rfl, l3, Q3, t3⟩
  have T3 := Lib.hid (T2.out.below t3)
  have X3 := Lib.hid (X2.out.below t3)
  have Q3 := Lib.hid Q3
  clear q1 q3
  have q1 : w3.cell? ⟨w.heap.size, 1, none⟩ = some (.int .i64 z) := X3.out.cell 1
  have q3 : w3.cell? ⟨w.heap.size, 3, none⟩ = some (.int .u8 c) := X3.out.cell 3
  try (go_wp2_with fail)
  refine hK.out _ _ (by exact ⟨q1, q3⟩) (fun hHeld => ?_)
  clear hK K
  try simp only [List.getElem_toArray, List.getElem_cons_succ, List.getElem_cons_zero, Act.put, List.setIfInBounds_toArray, List.set_cons_zero, List.set_cons_succ]
  refine wpAnyH_ready (rs := [13]) (by kernel_rfl) (by simp) ?_
  refine AllReadyH.cons rfl (fun K hK => ?_) AllReadyH.nil
  try simp only [List.getElem_toArray, List.getElem_cons_succ, List.getElem_cons_zero]
  go_simp
  refine (rwrite_all (Lib.hid T3.out.r) z (S0 := (· = b3)) (Lib.hid (Q3.out.bytes (S := (· = b3)) rfl)) (by omega)).mono ?_
  rintro e w4 ⟨⟨E2, rfl⟩, u4⟩
  obtain ⟨G1, T4, hG1, K2⟩ := T3.out.ref u4
  have X4 := Lib.hid (X3.out.keeps K2 (fun hf => Nat.lt_irrefl _ (HbG.out _ hf)))
  have T4 := Lib.hid T4
  clear q1 q3
  have q1 : w4.cell? ⟨w.heap.size, 1, none⟩ = some (.int .i64 z) := X4.out.cell 1
  have q3 : w4.cell? ⟨w.heap.size, 3, none⟩ = some (.int .u8 c) := X4.out.cell 3
  try (go_wp2_with fail)
  refine hK.out _ _ (by exact ⟨q1, q3⟩) (fun hHeld => ?_)
  clear hK K
  try simp only [List.getElem_toArray, List.getElem_cons_succ, List.getElem_cons_zero, Act.put, List.setIfInBounds_toArray, List.set_cons_zero, List.set_cons_succ]
  refine wpAnyH_take (i := 14) (v := ?_) rfl (by kernel_rfl) (by kernel_rfl) (by kernel_rfl) (fun _ _ _ h => h) (Or.inl ⟨by rfl, ?_⟩) (by assumption) ?_
  rotate_left
  · (intro wq hSw; (try dsimp only at hSw); (try simp only [List.getElem_toArray, List.getElem_cons_succ, List.getElem_cons_zero]); go_simp); try with_reducible rfl
  try simp only [List.getElem_toArray, List.getElem_cons_succ, List.getElem_cons_zero, Act.put, List.setIfInBounds_toArray, List.set_cons_zero, List.set_cons_succ]
  refine wpAnyH_take (i := 15) (v := ?_) rfl (by kernel_rfl) (by kernel_rfl) (by kernel_rfl) (fun _ _ _ h => h) (Or.inl ⟨by rfl, ?_⟩) (by assumption) ?_
  rotate_left
  · (intro wq hSw; (try dsimp only at hSw); (try simp only [List.getElem_toArray, List.getElem_cons_succ, List.getElem_cons_zero]); go_simp); try with_reducible rfl
  try simp only [List.getElem_toArray, List.getElem_cons_succ, List.getElem_cons_zero, Act.put, List.setIfInBounds_toArray, List.set_cons_zero, List.set_cons_succ]
  refine wpAnyH_done (by kernel_rfl) ?_ _
  go_wp2_with fail
  go_ret
  exact ⟨⟨_, rfl⟩, Both.mk (B0.out.trans (((Below.refl _ _).drew.trans t1).mono B0.out.size)) K1 t3 K2 hF1 hG1 (show Two F1 G1 w4 p x n (wrD n st z (rep c)) (wrR n rs z (rep c)) from T4.out)⟩

set_option maxRecDepth 100000 in
set_option maxHeartbeats 4000000 in
theorem act_rot {F G : Nat → Prop} {w : World} {p x n : Nat} {st : DSt} {rs : RSt} (h : Hid (Two F G w p x n st rs)) (hc1 : st.cache.length < 1000000) (hc2 : rs.L.length + rs.wait.length < 1000000) {S : Nat → Prop} {KA BA : Option Addr} {km kc bm bc : Nat} {ks : List Bool} {bs : List Int} (hk : Hid (RdL BoolR 1 S w KA km ks)) (hb : Hid (RdL U8R 1 S w BA bm bs)) (hS : ∀ b, S b → ¬ F b ∧ ¬ G b ∧ b < w.heap.size) (z off c mask : Int) :
    Calls Try.prog 41 #[.pointer (some ⟨p, 0, none⟩), .pointer (some ⟨x, 0, none⟩), .agg #[.int .i64 7, .int .i64 z, .int .i64 off, .int .u8 c, .int .u32 mask, .slice KA km kc, .slice BA bm bc]] w fun e w' => RetB e ∧ Both F G w w' p x n (rtD n st z off mask) (rtR n rs z off mask) := by
  have b0 : Below w.heap.size w (w.alloc (.cells #[.int .i64 7, .int .i64 z, .int .i64 off, .int .u8 c, .int .u32 mask, .slice KA km kc, .slice BA bm bc] 78)) := (Below.refl _ _).alloc (Nat.le_refl _) _
  have X0 := Lib.hid (BoxAt.new w #[.int .i64 7, .int .i64 z, .int .i64 off, .int .u8 c, .int .u32 mask, .slice KA km kc, .slice BA bm bc] 78)
  obtain ⟨w0, hw0⟩ : ∃ w0, w.alloc (.cells #[.int .i64 7, .int .i64 z, .int .i64 off, .int .u8 c, .int .u32 mask, .slice KA km kc, .slice BA bm bc] 78) = w0 := ⟨_, rfl⟩
  rw [hw0] at b0 X0
  have T0 := Lib.hid (h.out.below b0)
  have hbF : ∀ k, F k → k < w.heap.size := fun k hk => drvAt_lt h.out.d hk
  have hbG : ∀ k, G k → k < w.heap.size := fun k hk => h.out.r.lt hk
  have HbF := Lib.hid hbF
  have HbG := Lib.hid hbG
  have HS := Lib.hid hS
  have q0 : w0.cell? ⟨w.heap.size, 0, none⟩ = some (.int .i64 7) := X0.out.cell 0
  have q1 : w0.cell? ⟨w.heap.size, 1, none⟩ = some (.int .i64 z) := X0.out.cell 1
  have q2 : w0.cell? ⟨w.heap.size, 2, none⟩ = some (.int .i64 off) := X0.out.cell 2
  have q3 : w0.cell? ⟨w.heap.size, 3, none⟩ = some (.int .u8 c) := X0.out.cell 3
  have q4 : w0.cell? ⟨w.heap.size, 4, none⟩ = some (.int .u32 mask) := X0.out.cell 4
  have q5 : w0.cell? ⟨w.heap.size, 5, none⟩ = some (.slice KA km kc) := X0.out.cell 5
  have q6 : w0.cell? ⟨w.heap.size, 6, none⟩ = some (.slice BA bm bc) := X0.out.cell 6
  have B0 := Lib.hid b0
  clear hbF hbG hS b0
  go_enter Try.func41, Try.ntmps41
  clear q3 q5 q6
  go_wp2_with fail
  clear q0
  refine wp_region_held_drew (S := fun w' => w'.cell? ⟨w.heap.size, 1, none⟩ = some (.int .i64 z) ∧ w'.cell? ⟨w.heap.size, 2, none⟩ = some (.int .i64 off) ∧ w'.cell? ⟨w.heap.size, 4, none⟩ = some (.int .u32 mask)) (by kernel_rfl) (by exact ⟨q1, q2, q4⟩) (fun hHeld => ?_)
  refine wpAnyH_take (i := 0) (v := ?_) rfl (by kernel_rfl) (by kernel_rfl) (by kernel_rfl) (fun _ _ _ h => h) (Or.inl ⟨by rfl, ?_⟩) (by assumption) ?_
  rotate_left
  · (intro wq hSw; (try dsimp only at hSw); (try simp only [List.getElem_toArray, List.getElem_cons_succ, List.getElem_cons_zero]); go_simp); try with_reducible rfl
  try simp only [List.getElem_toArray, List.getElem_cons_succ, List.getElem_cons_zero, Act.put, List.setIfInBounds_toArray, List.set_cons_zero, List.set_cons_succ]
  refine wpAnyH_take (i := 1) (v := ?_) rfl (by kernel_rfl) (by kernel_rfl) (by kernel_rfl) (fun _ _ _ h => h) (Or.inl ⟨by rfl, ?_⟩) (by assumption) ?_
  rotate_left
  · (intro wq hSw; (try dsimp only at hSw); (try simp only [List.getElem_toArray, List.getElem_cons_succ, List.getElem_cons_zero]); go_simp); try with_reducible rfl
  try simp only [List.getElem_toArray, List.getElem_cons_succ, List.getElem_cons_zero, Act.put, List.setIfInBounds_toArray, List.set_cons_zero, List.set_cons_succ]
  refine wpAnyH_take (i := 2) (v := ?_) rfl (by kernel_rfl) (by kernel_rfl) (by kernel_rfl) (fun _ _ _ h => h) (Or.inl ⟨by rfl, ?_⟩) (by assumption) ?_
  rotate_left
  · (intro wq hSw; (try dsimp only at hSw); (try simp only [List.getElem_toArray, List.getElem_cons_succ, List.getElem_cons_zero]); go_simp); try with_reducible rfl
  try simp only [List.getElem_toArray, List.getElem_cons_succ, List.getElem_cons_zero, Act.put, List.setIfInBounds_toArray, List.set_cons_zero, List.set_cons_succ]
  refine wpAnyH_take (i := 3) (v := ?_) rfl (by kernel_rfl) (by kernel_rfl) (by kernel_rfl) (fun _ _ _ h => h) (Or.inl ⟨by rfl, ?_⟩) (by assumption) ?_
  rotate_left
  · (intro wq hSw; (try dsimp only at hSw); (try simp only [List.getElem_toArray, List.getElem_cons_succ, List.getElem_cons_zero]); go_simp); try with_reducible rfl
  try simp only [List.getElem_toArray, List.getElem_cons_succ, List.getElem_cons_zero, Act.put, List.setIfInBounds_toArray, List.set_cons_zero, List.set_cons_succ]
  refine wpAnyH_take (i := 4) (v := ?_) rfl (by kernel_rfl) (by kernel_rfl) (by kernel_rfl) (fun _ _ _ h => h) (Or.inl ⟨by rfl, ?_⟩) (by assumption) ?_
  rotate_left
  · (intro wq hSw; (try dsimp only at hSw); (try simp only [List.getElem_toArray, List.getElem_cons_succ, List.getElem_cons_zero]); go_simp); try with_reducible rfl
  try simp only [List.getElem_toArray, List.getElem_cons_succ, List.getElem_cons_zero, Act.put, List.setIfInBounds_toArray, List.set_cons_zero, List.set_cons_succ]
  refine wpAnyH_take (i := 5) (v := ?_) rfl (by kernel_rfl) (by kernel_rfl) (by kernel_rfl) (fun _ _ _ h => h) (Or.inl ⟨by rfl, ?_⟩) (by assumption) ?_
  rotate_left
  · (intro wq hSw; (try dsimp only at hSw); (try simp only [List.getElem_toArray, List.getElem_cons_succ, List.getElem_cons_zero]); go_simp); try with_reducible rfl
  try simp only [List.getElem_toArray, List.getElem_cons_succ, List.getElem_cons_zero, Act.put, List.setIfInBounds_toArray, List.set_cons_zero, List.set_cons_succ]
  refine wpAnyH_take (i := 6) (v := ?_) rfl (by kernel_rfl) (by kernel_rfl) (by kernel_rfl) (fun _ _ _ h => h) (Or.inl ⟨by rfl, ?_⟩) (by assumption) ?_
  rotate_left
  · (intro wq hSw; (try dsimp only at hSw); (try simp only [List.getElem_toArray, List.getElem_cons_succ, List.getElem_cons_zero]); go_simp); try with_reducible rfl
  try simp only [List.getElem_toArray, List.getElem_cons_succ, List.getElem_cons_zero, Act.put, List.setIfInBounds_toArray, List.set_cons_zero, List.set_cons_succ]
  refine wpAnyH_take (i := 8) (v := ?_) rfl (by kernel_rfl) (by kernel_rfl) (by kernel_rfl) (fun _ _ _ h => h) (Or.inl ⟨by rfl, ?_⟩) (by assumption) ?_
  rotate_left
  · (intro wq hSw; (try dsimp only at hSw); (try simp only [List.getElem_toArray, List.getElem_cons_succ, List.getElem_cons_zero]); go_simp); try with_reducible rfl
  try simp only [List.getElem_toArray, List.getElem_cons_succ, List.getElem_cons_zero, Act.put, List.setIfInBounds_toArray, List.set_cons_zero, List.set_cons_succ]
  refine wpAnyH_take (i := 9) (v := ?_) rfl (by kernel_rfl) (by kernel_rfl) (by kernel_rfl) (fun _ _ _ h => h) (Or.inl ⟨by rfl, ?_⟩) (by assumption) ?_
  rotate_left
  · (intro wq hSw; (try dsimp only at hSw); (try simp only [List.getElem_toArray, List.getElem_cons_succ, List.getElem_cons_zero]); go_simp); try with_reducible rfl
  try simp only [List.getElem_toArray, List.getElem_cons_succ, List.getElem_cons_zero, Act.put, List.setIfInBounds_toArray, List.set_cons_zero, List.set_cons_succ]
  refine wpAnyH_take (i := 10) (v := ?_) rfl (by kernel_rfl) (by kernel_rfl) (by kernel_rfl) (fun _ _ _ h => h) (Or.inl ⟨by rfl, ?_⟩) (by assumption) ?_
  rotate_left
  · (intro wq hSw; (try dsimp only at hSw); (try simp only [List.getElem_toArray, List.getElem_cons_succ, List.getElem_cons_zero]); go_simp); try with_reducible rfl
  try simp only [List.getElem_toArray, List.getElem_cons_succ, List.getElem_cons_zero, Act.put, List.setIfInBounds_toArray, List.set_cons_zero, List.set_cons_succ]
  refine wpAnyH_take (i := 11) (v := ?_) rfl (by kernel_rfl) (by kernel_rfl) (by kernel_rfl) (fun _ _ _ h => h) (Or.inl ⟨by rfl, ?_⟩) (by assumption) ?_
  rotate_left
  · (intro wq hSw; (try dsimp only at hSw); (try simp only [List.getElem_toArray, List.getElem_cons_succ, List.getElem_cons_zero]); go_simp); try with_reducible rfl
  try simp only [List.getElem_toArray, List.getElem_cons_succ, List.getElem_cons_zero, Act.put, List.setIfInBounds_toArray, List.set_cons_zero, List.set_cons_succ]
  refine wpAnyH_take (i := 12) (v := ?_) rfl (by kernel_rfl) (by kernel_rfl) (by kernel_rfl) (fun _ _ _ h => h) (Or.inl ⟨by rfl, ?_⟩) (by assumption) ?_
  rotate_left
  · (intro wq hSw; (try dsimp only at hSw); (try simp only [List.getElem_toArray, List.getElem_cons_succ, List.getElem_cons_zero]); go_simp); try with_reducible rfl
  try simp only [List.getElem_toArray, List.getElem_cons_succ, List.getElem_cons_zero, Act.put, List.setIfInBounds_toArray, List.set_cons_zero, List.set_cons_succ]
  refine wpAnyH_take (i := 13) (v := ?_) rfl (by kernel_rfl) (by kernel_rfl) (by kernel_rfl) (fun _ _ _ h => h) (Or.inl ⟨by rfl, ?_⟩) (by assumption) ?_
  rotate_left
  · (intro wq hSw; (try dsimp only at hSw); (try simp only [List.getElem_toArray, List.getElem_cons_succ, List.getElem_cons_zero]); go_simp); try with_reducible rfl
  try simp only [List.getElem_toArray, List.getElem_cons_succ, List.getElem_cons_zero, Act.put, List.setIfInBounds_toArray, List.set_cons_zero, List.set_cons_succ]
  refine wpAnyH_take (i := 14) (v := ?_) rfl (by kernel_rfl) (by kernel_rfl) (by kernel_rfl) (fun _ _ _ h => h) (Or.inl ⟨by rfl, ?_⟩) (by assumption) ?_
  rotate_left
  · (intro wq hSw; (try dsimp only at hSw); (try simp only [List.getElem_toArray, List.getElem_cons_succ, List.getElem_cons_zero]); go_simp); try with_reducible rfl
  try simp only [List.getElem_toArray, List.getElem_cons_succ, List.getElem_cons_zero, Act.put, List.setIfInBounds_toArray, List.set_cons_zero, List.set_cons_succ]
  refine wpAnyH_ready (rs := [7]) (by kernel_rfl) (by simp) ?_
  refine AllReadyH.cons rfl (fun K hK => ?_) AllReadyH.nil
  try simp only [List.getElem_toArray, List.getElem_cons_succ, List.getElem_cons_zero]
  go_simp
  refine (rot_all (Lib.hid (T0.out.below (Below.refl _ _).drew).d) z off mask).mono ?_
  rintro e w1 ⟨⟨E1, rfl⟩, u1⟩
  obtain ⟨F1, T1, hF1, K1⟩ := (T0.out.below (Below.refl _ _).drew).drv u1
  have X1 := Lib.hid ((X0.out.below (Below.refl _ _).drew).keeps K1 (fun hf => Nat.lt_irrefl _ (HbF.out _ hf)))
  have T1 := Lib.hid T1
  clear q1 q2 q4
  have q1 : w1.cell? ⟨w.heap.size, 1, none⟩ = some (.int .i64 z) := X1.out.cell 1
  have q2 : w1.cell? ⟨w.heap.size, 2, none⟩ = some (.int .i64 off) := X1.out.cell 2
  have q4 : w1.cell? ⟨w.heap.size, 4, none⟩ = some (.int .u32 mask) := X1.out.cell 4
  try (go_wp2_with fail)
  refine hK.out _ _ (by exact ⟨q1, q2, q4⟩) (fun hHeld => ?_)
  clear hK K
  try simp only [List.getElem_toArray, List.getElem_cons_succ, List.getElem_cons_zero, Act.put, List.setIfInBounds_toArray, List.set_cons_zero, List.set_cons_succ]
  refine wpAnyH_ready (rs := [15]) (by kernel_rfl) (by simp) ?_
  refine AllReadyH.cons rfl (fun K hK => ?_) AllReadyH.nil
  try simp only [List.getElem_toArray, List.getElem_cons_succ, List.getElem_cons_zero]
  go_simp
  refine (rrot_all (Lib.hid T1.out.r) z off mask (by omega)).mono ?_
  rintro e w2 ⟨⟨E2, rfl⟩, u2⟩
  obtain ⟨G1, T2, hG1, K2⟩ := T1.out.ref u2
  have X2 := Lib.hid (X1.out.keeps K2 (fun hf => Nat.lt_irrefl _ (HbG.out _ hf)))
  have T2 := Lib.hid T2
  clear q1 q2 q4
  have q1 : w2.cell? ⟨w.heap.size, 1, none⟩ = some (.int .i64 z) := X2.out.cell 1
  have q2 : w2.cell? ⟨w.heap.size, 2, none⟩ = some (.int .i64 off) := X2.out.cell 2
  have q4 : w2.cell? ⟨w.heap.size, 4, none⟩ = some (.int .u32 mask) := X2.out.cell 4
  try (go_wp2_with fail)
  refine hK.out _ _ (by exact ⟨q1, q2, q4⟩) (fun hHeld => ?_)
  clear hK K
  try simp only [List.getElem_toArray, List.getElem_cons_succ, List.getElem_cons_zero, Act.put, List.setIfInBounds_toArray, List.set_cons_zero, List.set_cons_succ]
  refine wpAnyH_take (i := 16) (v := ?_) rfl (by kernel_rfl) (by kernel_rfl) (by kernel_rfl) (fun _ _ _ h => h) (Or.inl ⟨by rfl, ?_⟩) (by assumption) ?_
  rotate_left
  · (intro wq hSw; (try dsimp only at hSw); (try simp only [List.getElem_toArray, List.getElem_cons_succ, List.getElem_cons_zero]); go_simp); try with_reducible rfl
  try simp only [List.getElem_toArray, List.getElem_cons_succ, List.getElem_cons_zero, Act.put, List.setIfInBounds_toArray, List.set_cons_zero, List.set_cons_succ]
  refine wpAnyH_take (i := 17) (v := ?_) rfl (by kernel_rfl) (by kernel_rfl) (by kernel_rfl) (fun _ _ _ h => h) (Or.inl ⟨by rfl, ?_⟩) (by assumption) ?_
  rotate_left
  · (intro wq hSw; (try dsimp only at hSw); (try simp only [List.getElem_toArray, List.getElem_cons_succ, List.getElem_cons_zero]); go_simp); try with_reducible rfl
  try simp only [List.getElem_toArray, List.getElem_cons_succ, List.getElem_cons_zero, Act.put, List.setIfInBounds_toArray, List.set_cons_zero, List.set_cons_succ]
  refine wpAnyH_done (by kernel_rfl) ?_ _
  go_wp2_with fail
  go_ret
  exact ⟨⟨_, rfl⟩, Both.mk (B0.out.trans ((Below.refl _ _).drew.mono B0.out.size)) K1 (Below.refl _ _) K2 hF1 hG1 (show Two F1 G1 w2 p x n (rtD n st z off mask) (rtR n rs z off mask) from T2.out)⟩

set_option maxRecDepth 100000 in
set_option maxHeartbeats 4000000 in
theorem act_put {F G : Nat → Prop} {w : World} {p x n : Nat} {st : DSt} {rs : RSt} (h : Hid (Two F G w p x n st rs)) (hc1 : st.cache.length < 1000000) (hc2 : rs.L.length + rs.wait.length < 1000000) {S : Nat → Prop} {KA BA : Option Addr} {km kc bm bc : Nat} {ks : List Bool} {bs : List Int} (hk : Hid (RdL BoolR 1 S w KA km ks)) (hb : Hid (RdL U8R 1 S w BA bm bs)) (hS : ∀ b, S b → ¬ F b ∧ ¬ G b ∧ b < w.heap.size) (z off c mask : Int) :
    Calls Try.prog 41 #[.pointer (some ⟨p, 0, none⟩), .pointer (some ⟨x, 0, none⟩), .agg #[.int .i64 9, .int .i64 z, .int .i64 off, .int .u8 c, .int .u32 mask, .slice KA km kc, .slice BA bm bc]] w fun e w' => RetB e ∧ Both F G w w' p x n (wrD n st z bs) (wrR n rs z bs) := by
  have b0 : Below w.heap.size w (w.alloc (.cells #[.int .i64 9, .int .i64 z, .int .i64 off, .int .u8 c, .int .u32 mask, .slice KA km kc, .slice BA bm bc] 78)) := (Below.refl _ _).alloc (Nat.le_refl _) _
  have X0 := Lib.hid (BoxAt.new w #[.int .i64 9, .int .i64 z, .int .i64 off, .int .u8 c, .int .u32 mask, .slice KA km kc, .slice BA bm bc] 78)
  obtain ⟨w0, hw0⟩ : ∃ w0, w.alloc (.cells #[.int .i64 9, .int .i64 z, .int .i64 off, .int .u8 c, .int .u32 mask, .slice KA km kc, .slice BA bm bc] 78) = w0 := ⟨_, rfl⟩
  rw [hw0] at b0 X0
  have T0 := Lib.hid (h.out.below b0)
  have hbF : ∀ k, F k → k < w.heap.size := fun k hk => drvAt_lt h.out.d hk
  have hbG : ∀ k, G k → k < w.heap.size := fun k hk => h.out.r.lt hk
  have HbF := Lib.hid hbF
  have HbG := Lib.hid hbG
  have HS := Lib.hid hS
  have q0 : w0.cell? ⟨w.heap.size, 0, none⟩ = some (.int .i64 9) := X0.out.cell 0
  have q1 : w0.cell? ⟨w.heap.size, 1, none⟩ = some (.int .i64 z) := X0.out.cell 1
  have q2 : w0.cell? ⟨w.heap.size, 2, none⟩ = some (.int .i64 off) := X0.out.cell 2
  have q3 : w0.cell? ⟨w.heap.size, 3, none⟩ = some (.int .u8 c) := X0.out.cell 3
  have q4 : w0.cell? ⟨w.heap.size, 4, none⟩ = some (.int .u32 mask) := X0.out.cell 4
  have q5 : w0.cell? ⟨w.heap.size, 5, none⟩ = some (.slice KA km kc) := X0.out.cell 5
  have q6 : w0.cell? ⟨w.heap.size, 6, none⟩ = some (.slice BA bm bc) := X0.out.cell 6
  have B0 := Lib.hid b0
  clear hbF hbG hS b0
  go_enter Try.func41, Try.ntmps41
  clear q2 q3 q4 q5
  obtain rfl : bs.length = bm := hb.out.1
  go_wp2_with fail
  clear q0
  refine wp_region_held_drew (S := fun w' => w'.cell? ⟨w.heap.size, 1, none⟩ = some (.int .i64 z) ∧ w'.cell? ⟨w.heap.size, 6, none⟩ = some (.slice BA bs.length bc)) (by kernel_rfl) (by exact ⟨q1, q6⟩) (fun hHeld => ?_)
  refine wpAnyH_take (i := 0) (v := ?_) rfl (by kernel_rfl) (by kernel_rfl) (by kernel_rfl) (fun _ _ _ h => h) (Or.inl ⟨by rfl, ?_⟩) (by assumption) ?_
  rotate_left
  · (intro wq hSw; (try dsimp only at hSw); (try simp only [List.getElem_toArray, List.getElem_cons_succ, List.getElem_cons_zero]); go_simp); try with_reducible rfl
  try simp only [List.getElem_toArray, List.getElem_cons_succ, List.getElem_cons_zero, Act.put, List.setIfInBounds_toArray, List.set_cons_zero, List.set_cons_succ]
  refine wpAnyH_take (i := 1) (v := ?_) rfl (by kernel_rfl) (by kernel_rfl) (by kernel_rfl) (fun _ _ _ h => h) (Or.inl ⟨by rfl, ?_⟩) (by assumption) ?_
  rotate_left
  · (intro wq hSw; (try dsimp only at hSw); (try simp only [List.getElem_toArray, List.getElem_cons_succ, List.getElem_cons_zero]); go_simp); try with_reducible rfl
  try simp only [List.getElem_toArray, List.getElem_cons_succ, List.getElem_cons_zero, Act.put, List.setIfInBounds_toArray, List.set_cons_zero, List.set_cons_succ]
  refine wpAnyH_take (i := 2) (v := ?_) rfl (by kernel_rfl) (by kernel_rfl) (by kernel_rfl) (fun _ _ _ h => h) (Or.inl ⟨by rfl, ?_⟩) (by assumption) ?_
  rotate_left
  · (intro wq hSw; (try dsimp only at hSw); (try simp only [List.getElem_toArray, List.getElem_cons_succ, List.getElem_cons_zero]); go_simp); try with_reducible rfl
  try simp only [List.getElem_toArray, List.getElem_cons_succ, List.getElem_cons_zero, Act.put, List.setIfInBounds_toArray, List.set_cons_zero, List.set_cons_succ]
  refine wpAnyH_take (i := 3) (v := ?_) rfl (by kernel_rfl) (by kernel_rfl) (by kernel_rfl) (fun _ _ _ h => h) (Or.inl ⟨by rfl, ?_⟩) (by assumption) ?_
  rotate_left
  · (intro wq hSw; (try dsimp only at hSw); (try simp only [List.getElem_toArray, List.getElem_cons_succ, List.getElem_cons_zero]); go_simp); try with_reducible rfl
  try simp only [List.getElem_toArray, List.getElem_cons_succ, List.getElem_cons_zero, Act.put, List.setIfInBounds_toArray, List.set_cons_zero, List.set_cons_succ]
  refine wpAnyH_take (i := 4) (v := ?_) rfl (by kernel_rfl) (by kernel_rfl) (by kernel_rfl) (fun _ _ _ h => h) (Or.inl ⟨by rfl, ?_⟩) (by assumption) ?_
  rotate_left
  · (intro wq hSw; (try dsimp only at hSw); (try simp only [List.getElem_toArray, List.getElem_cons_succ, List.getElem_cons_zero]); go_simp); try with_reducible rfl
  try simp only [List.getElem_toArray, List.getElem_cons_succ, List.getElem_cons_zero, Act.put, List.setIfInBounds_toArray, List.set_cons_zero, List.set_cons_succ]
  refine wpAnyH_take (i := 6) (v := ?_) rfl (by kernel_rfl) (by kernel_rfl) (by kernel_rfl) (fun _ _ _ h => h) (Or.inl ⟨by rfl, ?_⟩) (by assumption) ?_
  rotate_left
  · (intro wq hSw; (try dsimp only at hSw); (try simp only [List.getElem_toArray, List.getElem_cons_succ, List.getElem_cons_zero]); go_simp); try with_reducible rfl
  try simp only [List.getElem_toArray, List.getElem_cons_succ, List.getElem_cons_zero, Act.put, List.setIfInBounds_toArray, List.set_cons_zero, List.set_cons_succ]
  refine wpAnyH_take (i := 7) (v := ?_) rfl (by kernel_rfl) (by kernel_rfl) (by kernel_rfl) (fun _ _ _ h => h) (Or.inl ⟨by rfl, ?_⟩) (by assumption) ?_
  rotate_left
  · (intro wq hSw; (try dsimp only at hSw); (try simp only [List.getElem_toArray, List.getElem_cons_succ, List.getElem_cons_zero]); go_simp); try with_reducible rfl
  try simp only [List.getElem_toArray, List.getElem_cons_succ, List.getElem_cons_zero, Act.put, List.setIfInBounds_toArray, List.set_cons_zero, List.set_cons_succ]
  refine wpAnyH_take (i := 8) (v := ?_) rfl (by kernel_rfl) (by kernel_rfl) (by kernel_rfl) (fun _ _ _ h => h) (Or.inl ⟨by rfl, ?_⟩) (by assumption) ?_
  rotate_left
  · (intro wq hSw; (try dsimp only at hSw); (try simp only [List.getElem_toArray, List.getElem_cons_succ, List.getElem_cons_zero]); go_simp); try with_reducible rfl
  try simp only [List.getElem_toArray, List.getElem_cons_succ, List.getElem_cons_zero, Act.put, List.setIfInBounds_toArray, List.set_cons_zero, List.set_cons_succ]
  refine wpAnyH_take (i := 9) (v := ?_) rfl (by kernel_rfl) (by kernel_rfl) (by kernel_rfl) (fun _ _ _ h => h) (Or.inl ⟨by rfl, ?_⟩) (by assumption) ?_
  rotate_left
  · (intro wq hSw; (try dsimp only at hSw); (try simp only [List.getElem_toArray, List.getElem_cons_succ, List.getElem_cons_zero]); go_simp); try with_reducible rfl
  try simp only [List.getElem_toArray, List.getElem_cons_succ, List.getElem_cons_zero, Act.put, List.setIfInBounds_toArray, List.set_cons_zero, List.set_cons_succ]
  refine wpAnyH_take (i := 10) (v := ?_) rfl (by kernel_rfl) (by kernel_rfl) (by kernel_rfl) (fun _ _ _ h => h) (Or.inl ⟨by rfl, ?_⟩) (by assumption) ?_
  rotate_left
  · (intro wq hSw; (try dsimp only at hSw); (try simp only [List.getElem_toArray, List.getElem_cons_succ, List.getElem_cons_zero]); go_simp); try with_reducible rfl
  try simp only [List.getElem_toArray, List.getElem_cons_succ, List.getElem_cons_zero, Act.put, List.setIfInBounds_toArray, List.set_cons_zero, List.set_cons_succ]
  refine wpAnyH_ready (rs := [5]) (by kernel_rfl) (by simp) ?_
  refine AllReadyH.cons rfl (fun K hK => ?_) AllReadyH.nil
  try simp only [List.getElem_toArray, List.getElem_cons_succ, List.getElem_cons_zero]
  go_simp
  refine (write_some (Lib.hid (T0.out.below (Below.refl _ _).drew).d) z (Lib.hid (hb.out.below U8R.stable (B0.out.trans ((Below.refl _ _).drew.mono B0.out.size)))) (fun b hb => (HS.out b hb).1) hc1).mono ?_
  rintro e w1 ⟨⟨E1, rfl⟩, u1⟩
  obtain ⟨F1, T1, hF1, K1⟩ := (T0.out.below (Below.refl _ _).drew).drv u1
  have X1 := Lib.hid ((X0.out.below (Below.refl _ _).drew).keeps K1 (fun hf => Nat.lt_irrefl _ (HbF.out _ hf)))
  have T1 := Lib.hid T1
  clear q1 q6
  have q1 : w1.cell? ⟨w.heap.size, 1, none⟩ = some (.int .i64 z) := X1.out.cell 1
  have q6 : w1.cell? ⟨w.heap.size, 6, none⟩ = some (.slice BA bs.length bc) := X1.out.cell 6
  try (go_wp2_with fail)
  refine hK.out _ _ (by exact ⟨q1, q6⟩) (fun hHeld => ?_)
  clear hK K
  try simp only [List.getElem_toArray, List.getElem_cons_succ, List.getElem_cons_zero, Act.put, List.setIfInBounds_toArray, List.set_cons_zero, List.set_cons_succ]
  refine wpAnyH_ready (rs := [11]) (by kernel_rfl) (by simp) ?_
  refine AllReadyH.cons rfl (fun K hK => ?_) AllReadyH.nil
  try simp only [List.getElem_toArray, List.getElem_cons_succ, List.getElem_cons_zero]
  go_simp
  refine (rwrite_all (Lib.hid T1.out.r) z (Lib.hid ((hb.out.below U8R.stable (B0.out.trans ((Below.refl _ _).drew.mono B0.out.size))).keep U8R.stable K1 (fun b hb => (HS.out b hb).1))) (by omega)).mono ?_
  rintro e w2 ⟨⟨E2, rfl⟩, u2⟩
  obtain ⟨G1, T2, hG1, K2⟩ := T1.out.ref u2
  have X2 := Lib.hid (X1.out.keeps K2 (fun hf => Nat.lt_irrefl _ (HbG.out _ hf)))
  have T2 := Lib.hid T2
  clear q1 q6
  have q1 : w2.cell? ⟨w.heap.size, 1, none⟩ = some (.int .i64 z) := X2.out.cell 1
  have q6 : w2.cell? ⟨w.heap.size, 6, none⟩ = some (.slice BA bs.length bc) := X2.out.cell 6
  try (go_wp2_with fail)
  refine hK.out _ _ (by exact ⟨q1, q6⟩) (fun hHeld => ?_)
  clear hK K
  try simp only [List.getElem_toArray, List.getElem_cons_succ, List.getElem_cons_zero, Act.put, List.setIfInBounds_toArray, List.set_cons_zero, List.set_cons_succ]
  refine wpAnyH_take (i := 12) (v := ?_) rfl (by kernel_rfl) (by kernel_rfl) (by kernel_rfl) (fun _ _ _ h => h) (Or.inl ⟨by rfl, ?_⟩) (by assumption) ?_
  rotate_left
  · (intro wq hSw; (try dsimp only at hSw); (try simp only [List.getElem_toArray, List.getElem_cons_succ, List.getElem_cons_zero]); go_simp); try with_reducible rfl
  try simp only [List.getElem_toArray, List.getElem_cons_succ, List.getElem_cons_zero, Act.put, List.setIfInBounds_toArray, List.set_cons_zero, List.set_cons_succ]
  refine wpAnyH_take (i := 13) (v := ?_) rfl (by kernel_rfl) (by kernel_rfl) (by kernel_rfl) (fun _ _ _ h => h) (Or.inl ⟨by rfl, ?_⟩) (by assumption) ?_
  rotate_left
  · (intro wq hSw; (try dsimp only at hSw); (try simp only [List.getElem_toArray, List.getElem_cons_succ, List.getElem_cons_zero]); go_simp); try with_reducible rfl
  try simp only [List.getElem_toArray, List.getElem_cons_succ, List.getElem_cons_zero, Act.put, List.setIfInBounds_toArray, List.set_cons_zero, List.set_cons_succ]
  refine wpAnyH_done (by kernel_rfl) ?_ _
  go_wp2_with fail
  go_ret
  exact ⟨⟨_, rfl⟩, Both.mk (B0.out.trans ((Below.refl _ _).drew.mono B0.out.size)) K1 (Below.refl _ _) K2 hF1 hG1 (show Two F1 G1 w2 p x n (wrD n st z bs) (wrR n rs z bs) from T2.out)⟩
/-- An act, whatever it is. -/
theorem act_any {F G : Nat → Prop} {w : World} {p x n : Nat} {st : DSt} {rs : RSt} (h : Hid (Two F G w p x n st rs)) (hc1 : st.cache.length < 1000000) (hc2 : rs.L.length + rs.wait.length < 1000000) {S : Nat → Prop} {KA BA : Option Addr} {km kc bm bc : Nat} (a : ActV) (hk : Hid (RdL BoolR 1 S w KA km a.keep)) (hb : Hid (RdL U8R 1 S w BA bm a.b)) (hS : ∀ b, S b → ¬ F b ∧ ¬ G b ∧ b < w.heap.size) :
    Calls Try.prog 41 #[.pointer (some ⟨p, 0, none⟩), .pointer (some ⟨x, 0, none⟩), .agg #[.int .i64 a.kind, .int .i64 a.at_, .int .i64 a.off, .int .u8 a.c, .int .u32 a.mask, .slice KA km kc, .slice BA bm bc]] w fun e w' => RetB e ∧ Both F G w w' p x n (actD n st a) (actR n rs a) := by
  obtain ⟨kind, z, off, c, mask, ks, bs⟩ := a
  by_cases e0 : kind = 0
  · subst e0; simp only [actD, actR]; exact act_write0 h hc1 hc2 hk hb hS z off c mask
  by_cases e1 : kind = 1
  · subst e1; simp only [actD, actR]; exact act_write1 h hc1 hc2 hk hb hS z off c mask
  by_cases e2 : kind = 2
  · subst e2; simp only [actD, actR]; exact act_write2 h hc1 hc2 hk hb hS z off c mask
  by_cases e3 : kind = 3
  · subst e3; simp only [actD, actR]; exact act_flush h hc1 hc2 hk hb hS z off c mask
  by_cases e4 : kind = 4
  · subst e4; simp only [actD, actR]; exact act_crash h hc1 hc2 hk hb hS z off c mask
  by_cases e5 : kind = 5
  · subst e5; simp only [actD, actR]; exact act_fail h hc1 hc2 hk hb hS z off c mask
  by_cases e6 : kind = 6
  · subst e6; simp only [actD, actR]; exact act_replace h hc1 hc2 hk hb hS z off c mask
  by_cases e7 : kind = 7
  · subst e7; simp only [actD, actR]; exact act_rot h hc1 hc2 hk hb hS z off c mask
  by_cases e9 : kind = 9
  · subst e9; simp only [actD, actR]; exact act_put h hc1 hc2 hk hb hS z off c mask
  have n0 : ¬ (kind = 0 ∨ kind = 1 ∨ kind = 2) := by omega
  simp only [actD, actR, if_neg n0, if_neg e3, if_neg e4, if_neg e5, if_neg e6, if_neg e7, if_neg e9]
  exact act_none h hc1 hc2 hk hb hS z off c mask kind (by simpa using e0) (by simpa using e1) (by simpa using e2) (by simpa using e3) (by simpa using e4) (by simpa using e5) (by simpa using e6) (by simpa using e7) (by simpa using e9)

end Go.Proofs.Ytnceaimhhfjmdaa
