/-
  An act on drives side by side, on both.
-/
import Derived.Test.YtolmpopjonkfgaaPl11
set_option linter.unusedSimpArgs false
set_option linter.unusedVariables false
namespace Go.Proofs.Ytolmpopjonkfgaa
open Go.RowKit Go.Cib
attribute [local go_sem] cell_set Later.cell Later.frozen Grw.cell Grw.frozen

theorem mapIdx_constR (g : RSt → RSt) (ra : List RSt) : ra.mapIdx (fun _ => g) = ra.map g := by
  apply List.ext_getElem?
  intro j
  rw [List.getElem?_mapIdx, List.getElem?_map]
theorem Twin.out_ {w0 : World} {U V : Nat → Prop} {wr : World} {a x n s t : Nat} {sa : List DSt} {ra : List RSt} (h : Twin w0 U V wr a x n s t sa ra) : TInv n s (t + 1) sa ra := h.inv.mono (Nat.le_succ t)


set_option maxRecDepth 100000 in
set_option maxHeartbeats 8000000 in
theorem act10_none {w0 : World} {U V : Nat → Prop} {w : World} {a x n s t : Nat} {sa : List DSt} {ra : List RSt} (h : Hid (Twin w0 U V w a x n s t sa ra)) (hn : 0 < n) (hn2 : n ≤ 255) (ht : t < 1000) {KA : Option Addr} {km kc : Nat} {ks : List (List Bool)} (hk : Hid (RdL BoolsR 1 (fun b => b < w0.heap.size) w KA km ks)) (d z off c mask : Int) (kind : Int) (e0 : (kind == 0) = false) (e1 : (kind == 1) = false) (e2 : (kind == 2) = false) (e3 : (kind == 3) = false) (e4 : (kind == 4) = false) (e5 : (kind == 5) = false) (e6 : (kind == 6) = false) (e7 : (kind == 7) = false) (e9 : (kind == 9) = false) :
    Calls Try.prog 47 #[.pointer (some ⟨a, 0, none⟩), .pointer (some ⟨x, 0, none⟩), .agg #[.int .i64 kind, .int .i64 d, .int .i64 z, .int .i64 off, .int .u8 c, .int .u32 mask, .slice KA km kc]] w fun e w' => e = .returned (.bool true) ∧ Went w0 w' a x n s (t + 1) := by
  have b0 : Below w.heap.size w (w.alloc (.cells #[.int .i64 kind, .int .i64 d, .int .i64 z, .int .i64 off, .int .u8 c, .int .u32 mask, .slice KA km kc] 75)) := (Below.refl _ _).alloc (Nat.le_refl _) _
  have X0 := Lib.hid (BoxAt.new w #[.int .i64 kind, .int .i64 d, .int .i64 z, .int .i64 off, .int .u8 c, .int .u32 mask, .slice KA km kc] 75)
  obtain ⟨wA, hwA⟩ : ∃ wA, w.alloc (.cells #[.int .i64 kind, .int .i64 d, .int .i64 z, .int .i64 off, .int .u8 c, .int .u32 mask, .slice KA km kc] 75) = wA := ⟨_, rfl⟩
  rw [hwA] at b0 X0
  have H0 := Lib.hid (h.out.half.later b0)
  have INV := Lib.hid h.out.inv
  have hla : sa.length = n := INV.out.la
  have hlr : ra.length = n := INV.out.lr
  have nU : ¬ U w.heap.size := fun hu => by have := h.out.da.lt hu; omega
  have nV : ¬ V w.heap.size := fun hu => by have := h.out.dr.lt hu; omega
  have hcA := Lib.hid (INV.out.cache (by omega))
  have hgR := Lib.hid (INV.out.good (by omega))
  have hokA := Lib.hid h.out.da.ok
  have RK := Lib.hid (hk.out.below BoolsR.stable b0)
  have hws : w0.heap.size ≤ w.heap.size := h.out.below.size
  have nUV : ∀ b, b < w0.heap.size → ¬ U b ∧ ¬ V b := fun b hb => ⟨fun hu => by have := h.out.u1 b hu; omega, fun hv => by have := h.out.v1 b hv; omega⟩
  have NUV := Lib.hid nUV
  have q0 : wA.cell? ⟨w.heap.size, 0, none⟩ = some (.int .i64 kind) := X0.out.cell 0
  have q1 : wA.cell? ⟨w.heap.size, 1, none⟩ = some (.int .i64 d) := X0.out.cell 1
  have q2 : wA.cell? ⟨w.heap.size, 2, none⟩ = some (.int .i64 z) := X0.out.cell 2
  have q3 : wA.cell? ⟨w.heap.size, 3, none⟩ = some (.int .i64 off) := X0.out.cell 3
  have q4 : wA.cell? ⟨w.heap.size, 4, none⟩ = some (.int .u8 c) := X0.out.cell 4
  have q5 : wA.cell? ⟨w.heap.size, 5, none⟩ = some (.int .u32 mask) := X0.out.cell 5
  have q6 : wA.cell? ⟨w.heap.size, 6, none⟩ = some (.slice KA km kc) := X0.out.cell 6
  clear b0 nUV
  go_enter Try.func47, Try.ntmps47
  go_wp2_with fail
  go_ret
  exact ⟨rfl, U, V, sa, ra, H0.out.twin h.out.out_⟩

set_option maxRecDepth 100000 in
set_option maxHeartbeats 8000000 in
theorem act10_flush {w0 : World} {U V : Nat → Prop} {w : World} {a x n s t : Nat} {sa : List DSt} {ra : List RSt} (h : Hid (Twin w0 U V w a x n s t sa ra)) (hn : 0 < n) (hn2 : n ≤ 255) (ht : t < 1000) {KA : Option Addr} {km kc : Nat} {ks : List (List Bool)} (hk : Hid (RdL BoolsR 1 (fun b => b < w0.heap.size) w KA km ks)) (d z off c mask : Int) :
    Calls Try.prog 47 #[.pointer (some ⟨a, 0, none⟩), .pointer (some ⟨x, 0, none⟩), .agg #[.int .i64 3, .int .i64 d, .int .i64 z, .int .i64 off, .int .u8 c, .int .u32 mask, .slice KA km kc]] w fun e w' => e = .returned (.bool true) ∧ Went w0 w' a x n s (t + 1) := by
  have b0 : Below w.heap.size w (w.alloc (.cells #[.int .i64 3, .int .i64 d, .int .i64 z, .int .i64 off, .int .u8 c, .int .u32 mask, .slice KA km kc] 75)) := (Below.refl _ _).alloc (Nat.le_refl _) _
  have X0 := Lib.hid (BoxAt.new w #[.int .i64 3, .int .i64 d, .int .i64 z, .int .i64 off, .int .u8 c, .int .u32 mask, .slice KA km kc] 75)
  obtain ⟨wA, hwA⟩ : ∃ wA, w.alloc (.cells #[.int .i64 3, .int .i64 d, .int .i64 z, .int .i64 off, .int .u8 c, .int .u32 mask, .slice KA km kc] 75) = wA := ⟨_, rfl⟩
  rw [hwA] at b0 X0
  have H0 := Lib.hid (h.out.half.later b0)
  have INV := Lib.hid h.out.inv
  have hla : sa.length = n := INV.out.la
  have hlr : ra.length = n := INV.out.lr
  have nU : ¬ U w.heap.size := fun hu => by have := h.out.da.lt hu; omega
  have nV : ¬ V w.heap.size := fun hu => by have := h.out.dr.lt hu; omega
  have hcA := Lib.hid (INV.out.cache (by omega))
  have hgR := Lib.hid (INV.out.good (by omega))
  have hokA := Lib.hid h.out.da.ok
  have RK := Lib.hid (hk.out.below BoolsR.stable b0)
  have hws : w0.heap.size ≤ w.heap.size := h.out.below.size
  have nUV : ∀ b, b < w0.heap.size → ¬ U b ∧ ¬ V b := fun b hb => ⟨fun hu => by have := h.out.u1 b hu; omega, fun hv => by have := h.out.v1 b hv; omega⟩
  have NUV := Lib.hid nUV
  have q0 : wA.cell? ⟨w.heap.size, 0, none⟩ = some (.int .i64 3) := X0.out.cell 0
  have q1 : wA.cell? ⟨w.heap.size, 1, none⟩ = some (.int .i64 d) := X0.out.cell 1
  have q2 : wA.cell? ⟨w.heap.size, 2, none⟩ = some (.int .i64 z) := X0.out.cell 2
  have q3 : wA.cell? ⟨w.heap.size, 3, none⟩ = some (.int .i64 off) := X0.out.cell 3
  have q4 : wA.cell? ⟨w.heap.size, 4, none⟩ = some (.int .u8 c) := X0.out.cell 4
  have q5 : wA.cell? ⟨w.heap.size, 5, none⟩ = some (.int .u32 mask) := X0.out.cell 5
  have q6 : wA.cell? ⟨w.heap.size, 6, none⟩ = some (.slice KA km kc) := X0.out.cell 6
  clear b0 nUV
  go_enter Try.func47, Try.ntmps47
  have hf := aflush_any (Lib.hid H0.out.da) (by omega) (by omega) hcA
  rw [INV.out.alive] at hf
  clear q1 q2 q3 q4 q5 q6
  go_wp2_with fail
  refine hf.mono ?_
  rintro e w1 ⟨rfl, u1⟩
  obtain ⟨U1, H1, K1⟩ := H0.out.updA u1
  have H1 := Lib.hid H1
  clear hf u1 q0
  go_wp2_with fail
  refine (raflush_any (Lib.hid H1.out.dr) (by omega) (by omega) hgR).mono ?_
  rintro e w2 ⟨rfl, u2⟩
  obtain ⟨V2, H2, _⟩ := H1.out.updR u2
  have H2 := Lib.hid H2
  clear u2
  go_wp2_with fail
  go_ret
  refine ⟨rfl, U1, V2, _, _, H2.out.twin ?_⟩
  rw [← mapIdx_const, ← mapIdx_constR]
  exact INV.out.map _ _ (fun i st rs h1 h2 => ⟨(INV.out.sim i st rs h1 h2).flush (hokA.out st (List.mem_of_getElem? h1)), Fit.flush ⟨INV.out.rng rs (List.mem_of_getElem? h2), INV.out.few rs (List.mem_of_getElem? h2)⟩⟩)

set_option maxRecDepth 100000 in
set_option maxHeartbeats 8000000 in
theorem act10_crash {w0 : World} {U V : Nat → Prop} {w : World} {a x n s t : Nat} {sa : List DSt} {ra : List RSt} (h : Hid (Twin w0 U V w a x n s t sa ra)) (hn : 0 < n) (hn2 : n ≤ 255) (ht : t < 1000) {KA : Option Addr} {km kc : Nat} {ks : List (List Bool)} (hk : Hid (RdL BoolsR 1 (fun b => b < w0.heap.size) w KA km ks)) (d z off c mask : Int) :
    Calls Try.prog 47 #[.pointer (some ⟨a, 0, none⟩), .pointer (some ⟨x, 0, none⟩), .agg #[.int .i64 4, .int .i64 d, .int .i64 z, .int .i64 off, .int .u8 c, .int .u32 mask, .slice KA km kc]] w fun e w' => e = .returned (.bool true) ∧ Went w0 w' a x n s (t + 1) := by
  have b0 : Below w.heap.size w (w.alloc (.cells #[.int .i64 4, .int .i64 d, .int .i64 z, .int .i64 off, .int .u8 c, .int .u32 mask, .slice KA km kc] 75)) := (Below.refl _ _).alloc (Nat.le_refl _) _
  have X0 := Lib.hid (BoxAt.new w #[.int .i64 4, .int .i64 d, .int .i64 z, .int .i64 off, .int .u8 c, .int .u32 mask, .slice KA km kc] 75)
  obtain ⟨wA, hwA⟩ : ∃ wA, w.alloc (.cells #[.int .i64 4, .int .i64 d, .int .i64 z, .int .i64 off, .int .u8 c, .int .u32 mask, .slice KA km kc] 75) = wA := ⟨_, rfl⟩
  rw [hwA] at b0 X0
  have H0 := Lib.hid (h.out.half.later b0)
  have INV := Lib.hid h.out.inv
  have hla : sa.length = n := INV.out.la
  have hlr : ra.length = n := INV.out.lr
  have nU : ¬ U w.heap.size := fun hu => by have := h.out.da.lt hu; omega
  have nV : ¬ V w.heap.size := fun hu => by have := h.out.dr.lt hu; omega
  have hcA := Lib.hid (INV.out.cache (by omega))
  have hgR := Lib.hid (INV.out.good (by omega))
  have hokA := Lib.hid h.out.da.ok
  have RK := Lib.hid (hk.out.below BoolsR.stable b0)
  have hws : w0.heap.size ≤ w.heap.size := h.out.below.size
  have nUV : ∀ b, b < w0.heap.size → ¬ U b ∧ ¬ V b := fun b hb => ⟨fun hu => by have := h.out.u1 b hu; omega, fun hv => by have := h.out.v1 b hv; omega⟩
  have NUV := Lib.hid nUV
  have q0 : wA.cell? ⟨w.heap.size, 0, none⟩ = some (.int .i64 4) := X0.out.cell 0
  have q1 : wA.cell? ⟨w.heap.size, 1, none⟩ = some (.int .i64 d) := X0.out.cell 1
  have q2 : wA.cell? ⟨w.heap.size, 2, none⟩ = some (.int .i64 z) := X0.out.cell 2
  have q3 : wA.cell? ⟨w.heap.size, 3, none⟩ = some (.int .i64 off) := X0.out.cell 3
  have q4 : wA.cell? ⟨w.heap.size, 4, none⟩ = some (.int .u8 c) := X0.out.cell 4
  have q5 : wA.cell? ⟨w.heap.size, 5, none⟩ = some (.int .u32 mask) := X0.out.cell 5
  have q6 : wA.cell? ⟨w.heap.size, 6, none⟩ = some (.slice KA km kc) := X0.out.cell 6
  clear b0 nUV
  go_enter Try.func47, Try.ntmps47
  clear q1 q2 q3 q4 q5
  have hf := acrash_any (Lib.hid H0.out.da) (by omega) (by omega) hcA (c := kc) RK (fun b hb => ⟨(NUV.out b hb).1, by have := H0.out.below.size; omega⟩)
  go_wp2_with fail
  refine hf.mono ?_
  rintro e w1 ⟨rfl, u1⟩
  obtain ⟨U1, H1, K1⟩ := H0.out.updA u1
  have H1 := Lib.hid H1
  have RK1 := Lib.hid (RK.out.keep BoolsR.stable K1 (fun b hb => (NUV.out b hb).1))
  have X1 := Lib.hid (X0.out.keeps K1 nU)
  clear hf u1 q0 q6
  have q6 : w1.cell? ⟨w.heap.size, 6, none⟩ = some (.slice KA km kc) := X1.out.cell 6
  have hf := racrash_any (Lib.hid H1.out.dr) (by omega) (by omega) hgR (c := kc) RK1 (fun b hb => ⟨(NUV.out b hb).2, by have := H1.out.below.size; omega⟩)
  go_wp2_with fail
  refine hf.mono ?_
  rintro e w2 ⟨rfl, u2⟩
  obtain ⟨V2, H2, _⟩ := H1.out.updR u2
  have H2 := Lib.hid H2
  clear hf u2 q6
  go_wp2_with fail
  go_ret
  refine ⟨rfl, U1, V2, _, _, H2.out.twin ?_⟩
  exact INV.out.map _ _ (fun i st rs h1 h2 => ⟨(INV.out.sim i st rs h1 h2).settle (hokA.out st (List.mem_of_getElem? h1)) _, Fit.crash ⟨INV.out.rng rs (List.mem_of_getElem? h2), INV.out.few rs (List.mem_of_getElem? h2)⟩ _ _⟩)

set_option maxRecDepth 100000 in
set_option maxHeartbeats 8000000 in
theorem act10_fail {w0 : World} {U V : Nat → Prop} {w : World} {a x n s t : Nat} {sa : List DSt} {ra : List RSt} (h : Hid (Twin w0 U V w a x n s t sa ra)) (hn : 0 < n) (hn2 : n ≤ 255) (ht : t < 1000) {KA : Option Addr} {km kc : Nat} {ks : List (List Bool)} (hk : Hid (RdL BoolsR 1 (fun b => b < w0.heap.size) w KA km ks)) (d z off c mask : Int) :
    Calls Try.prog 47 #[.pointer (some ⟨a, 0, none⟩), .pointer (some ⟨x, 0, none⟩), .agg #[.int .i64 5, .int .i64 d, .int .i64 z, .int .i64 off, .int .u8 c, .int .u32 mask, .slice KA km kc]] w fun e w' => e = .returned (.bool true) ∧ Went w0 w' a x n s (t + 1) := by
  have b0 : Below w.heap.size w (w.alloc (.cells #[.int .i64 5, .int .i64 d, .int .i64 z, .int .i64 off, .int .u8 c, .int .u32 mask, .slice KA km kc] 75)) := (Below.refl _ _).alloc (Nat.le_refl _) _
  have X0 := Lib.hid (BoxAt.new w #[.int .i64 5, .int .i64 d, .int .i64 z, .int .i64 off, .int .u8 c, .int .u32 mask, .slice KA km kc] 75)
  obtain ⟨wA, hwA⟩ : ∃ wA, w.alloc (.cells #[.int .i64 5, .int .i64 d, .int .i64 z, .int .i64 off, .int .u8 c, .int .u32 mask, .slice KA km kc] 75) = wA := ⟨_, rfl⟩
  rw [hwA] at b0 X0
  have H0 := Lib.hid (h.out.half.later b0)
  have INV := Lib.hid h.out.inv
  have hla : sa.length = n := INV.out.la
  have hlr : ra.length = n := INV.out.lr
  have nU : ¬ U w.heap.size := fun hu => by have := h.out.da.lt hu; omega
  have nV : ¬ V w.heap.size := fun hu => by have := h.out.dr.lt hu; omega
  have hcA := Lib.hid (INV.out.cache (by omega))
  have hgR := Lib.hid (INV.out.good (by omega))
  have hokA := Lib.hid h.out.da.ok
  have RK := Lib.hid (hk.out.below BoolsR.stable b0)
  have hws : w0.heap.size ≤ w.heap.size := h.out.below.size
  have nUV : ∀ b, b < w0.heap.size → ¬ U b ∧ ¬ V b := fun b hb => ⟨fun hu => by have := h.out.u1 b hu; omega, fun hv => by have := h.out.v1 b hv; omega⟩
  have NUV := Lib.hid nUV
  have q0 : wA.cell? ⟨w.heap.size, 0, none⟩ = some (.int .i64 5) := X0.out.cell 0
  have q1 : wA.cell? ⟨w.heap.size, 1, none⟩ = some (.int .i64 d) := X0.out.cell 1
  have q2 : wA.cell? ⟨w.heap.size, 2, none⟩ = some (.int .i64 z) := X0.out.cell 2
  have q3 : wA.cell? ⟨w.heap.size, 3, none⟩ = some (.int .i64 off) := X0.out.cell 3
  have q4 : wA.cell? ⟨w.heap.size, 4, none⟩ = some (.int .u8 c) := X0.out.cell 4
  have q5 : wA.cell? ⟨w.heap.size, 5, none⟩ = some (.int .u32 mask) := X0.out.cell 5
  have q6 : wA.cell? ⟨w.heap.size, 6, none⟩ = some (.slice KA km kc) := X0.out.cell 6
  clear b0 nUV
  go_enter Try.func47, Try.ntmps47
  clear q2 q3 q4 q5 q6
  by_cases hd : 0 ≤ d ∧ d < n
  · obtain ⟨k, rfl⟩ : ∃ k : Nat, d = k := ⟨d.toNat, by omega⟩
    have hdn : k < n := by omega
    obtain ⟨st, rs, hsa, hra, SM, hsz, hrg⟩ := INV.out.at_ hdn
    have HSM := Lib.hid SM
    have HFT := Lib.hid (show Fit s t rs from ⟨hrg, hsz⟩)
    have HSA := Lib.hid hsa
    have HRA := Lib.hid hra
    have hcst := hcA.out st (List.mem_of_getElem? hsa)
    have hgd := hgR.out rs (List.mem_of_getElem? hra)
    have hok := hokA.out st (List.mem_of_getElem? hsa)
    clear SM hsz hrg hsa hra hd

    go_wp2_with fail
    clear q0
    refine wp_region_held_drew (S := fun w' => w'.cell? ⟨w.heap.size, 1, none⟩ = some (.int .i64 (k : Int))) (by kernel_rfl) (by exact q1) (fun hHeld => ?_)
    refine wpAnyH_take (i := 0) (v := ?_) rfl (by kernel_rfl) (by kernel_rfl) (by kernel_rfl) (fun _ _ _ h => h) (Or.inl ⟨by rfl, ?_⟩) (by assumption) ?_
    rotate_left
    · (intro wq hSw; (try dsimp only at hSw); (try simp only [List.getElem_toArray, List.getElem_cons_succ, List.getElem_cons_zero]); go_simp); try with_reducible rfl
    try simp only [List.getElem_toArray, List.getElem_cons_succ, List.getElem_cons_zero, Act.put, List.setIfInBounds_toArray, List.set_cons_zero, List.set_cons_succ]
    refine wpAnyH_take (i := 1) (v := ?_) rfl (by kernel_rfl) (by kernel_rfl) (by kernel_rfl) (fun _ _ _ h => h) (Or.inl ⟨by rfl, ?_⟩) (by assumption) ?_
    rotate_left
    · (intro wq hSw; (try dsimp only at hSw); (try simp only [List.getElem_toArray, List.getElem_cons_succ, List.getElem_cons_zero]); go_simp); try with_reducible rfl
    try simp only [List.getElem_toArray, List.getElem_cons_succ, List.getElem_cons_zero, Act.put, List.setIfInBounds_toArray, List.set_cons_zero, List.set_cons_succ]
    refine wpAnyH_take (i := 2) (v := ?_) rfl (by kernel_rfl) (by kernel_rfl) (by kernel_rfl) (fun _ _ _ h => h) (Or.inl ⟨by rfl, ?_⟩) (by assumption) ?_
    rotate_left
    · (intro wq hSw; (try dsimp only at hSw); (try simp only [List.getElem_toArray, List.getElem_cons_succ, List.getElem_cons_zero]); go_simp); try with_reducible rfl
    try simp only [List.getElem_toArray, List.getElem_cons_succ, List.getElem_cons_zero, Act.put, List.setIfInBounds_toArray, List.set_cons_zero, List.set_cons_succ]
    refine wpAnyH_take (i := 4) (v := ?_) rfl (by kernel_rfl) (by kernel_rfl) (by kernel_rfl) (fun _ _ _ h => h) (Or.inl ⟨by rfl, ?_⟩) (by assumption) ?_
    rotate_left
    · (intro wq hSw; (try dsimp only at hSw); (try simp only [List.getElem_toArray, List.getElem_cons_succ, List.getElem_cons_zero]); go_simp); try with_reducible rfl
    try simp only [List.getElem_toArray, List.getElem_cons_succ, List.getElem_cons_zero, Act.put, List.setIfInBounds_toArray, List.set_cons_zero, List.set_cons_succ]
    refine wpAnyH_take (i := 5) (v := ?_) rfl (by kernel_rfl) (by kernel_rfl) (by kernel_rfl) (fun _ _ _ h => h) (Or.inl ⟨by rfl, ?_⟩) (by assumption) ?_
    rotate_left
    · (intro wq hSw; (try dsimp only at hSw); (try simp only [List.getElem_toArray, List.getElem_cons_succ, List.getElem_cons_zero]); go_simp); try with_reducible rfl
    try simp only [List.getElem_toArray, List.getElem_cons_succ, List.getElem_cons_zero, Act.put, List.setIfInBounds_toArray, List.set_cons_zero, List.set_cons_succ]
    refine wpAnyH_take (i := 6) (v := ?_) rfl (by kernel_rfl) (by kernel_rfl) (by kernel_rfl) (fun _ _ _ h => h) (Or.inl ⟨by rfl, ?_⟩) (by assumption) ?_
    rotate_left
    · (intro wq hSw; (try dsimp only at hSw); (try simp only [List.getElem_toArray, List.getElem_cons_succ, List.getElem_cons_zero]); go_simp); try with_reducible rfl
    try simp only [List.getElem_toArray, List.getElem_cons_succ, List.getElem_cons_zero, Act.put, List.setIfInBounds_toArray, List.set_cons_zero, List.set_cons_succ]
    refine wpAnyH_ready (rs := [3]) (by kernel_rfl) (by simp) ?_
    refine AllReadyH.cons rfl (fun K hK => ?_) AllReadyH.nil
    try simp only [List.getElem_toArray, List.getElem_cons_succ, List.getElem_cons_zero]
    go_simp
    have hf := afail_any (Lib.hid (H0.out.later (Below.refl _ _).drew).da) (by omega) (k : Int)
    rw [if_pos (show 0 ≤ (k : Int) ∧ (k : Int) < sa.length by omega), show failA s sa (k : Int) = sa.set k (DSt.gone s) by unfold failA; rw [if_pos (by omega), Int.toNat_natCast]] at hf
    refine hf.mono ?_
    rintro e w1 ⟨rfl, u1⟩
    obtain ⟨U1, H1, K1⟩ := (H0.out.later (Below.refl _ _).drew).updA u1
    have H1 := Lib.hid H1
    have X1 := Lib.hid ((X0.out.below (Below.refl _ _).drew).keeps K1 nU)
    clear hf
    clear q1
    have q1 : w1.cell? ⟨w.heap.size, 1, none⟩ = some (.int .i64 (k : Int)) := X1.out.cell 1
    try (go_wp2_with fail)
    refine hK.out _ _ (by exact q1) (fun hHeld => ?_)
    clear hK K
    try simp only [List.getElem_toArray, List.getElem_cons_succ, List.getElem_cons_zero, Act.put, List.setIfInBounds_toArray, List.set_cons_zero, List.set_cons_succ]
    refine wpAnyH_ready (rs := [7]) (by kernel_rfl) (by simp) ?_
    refine AllReadyH.cons rfl (fun K hK => ?_) AllReadyH.nil
    try simp only [List.getElem_toArray, List.getElem_cons_succ, List.getElem_cons_zero]
    go_simp
    obtain ⟨vr, Fr, pr, hBr⟩ := H1.out.dr
    refine (rafail_in (Lib.hid hBr) k HRA.out hgd).mono ?_
    rintro e w2 ⟨rfl, u2⟩
    obtain ⟨V2, H2, K2⟩ := H1.out.updR u2
    have H2 := Lib.hid H2
    have X2 := Lib.hid (X1.out.keeps K2 nV)
    clear hBr
    clear q1
    have q1 : w2.cell? ⟨w.heap.size, 1, none⟩ = some (.int .i64 (k : Int)) := X2.out.cell 1
    try (go_wp2_with fail)
    refine hK.out _ _ (by exact q1) (fun hHeld => ?_)
    clear hK K
    try simp only [List.getElem_toArray, List.getElem_cons_succ, List.getElem_cons_zero, Act.put, List.setIfInBounds_toArray, List.set_cons_zero, List.set_cons_succ]
    refine wpAnyH_take (i := 8) (v := ?_) rfl (by kernel_rfl) (by kernel_rfl) (by kernel_rfl) (fun _ _ _ h => h) (Or.inl ⟨by rfl, ?_⟩) (by assumption) ?_
    rotate_left
    · (intro wq hSw; (try dsimp only at hSw); (try simp only [List.getElem_toArray, List.getElem_cons_succ, List.getElem_cons_zero]); go_simp); try with_reducible rfl
    try simp only [List.getElem_toArray, List.getElem_cons_succ, List.getElem_cons_zero, Act.put, List.setIfInBounds_toArray, List.set_cons_zero, List.set_cons_succ]
    refine wpAnyH_take (i := 9) (v := ?_) rfl (by kernel_rfl) (by kernel_rfl) (by kernel_rfl) (fun _ _ _ h => h) (Or.inl ⟨by rfl, ?_⟩) (by assumption) ?_
    rotate_left
    · (intro wq hSw; (try dsimp only at hSw); (try simp only [List.getElem_toArray, List.getElem_cons_succ, List.getElem_cons_zero]); go_simp); try with_reducible rfl
    try simp only [List.getElem_toArray, List.getElem_cons_succ, List.getElem_cons_zero, Act.put, List.setIfInBounds_toArray, List.set_cons_zero, List.set_cons_succ]
    refine wpAnyH_done (by kernel_rfl) ?_ _
    go_wp2_with fail
    go_ret
    exact ⟨rfl, U1, V2, _, _, H2.out.twin (INV.out.set (⟨rfl, rfl, fun hd => by simp [DSt.gone] at hd, fun hd => by simp [DSt.gone] at hd, by simp, by simp⟩) (Fit.gone _))⟩
  · go_wp2_with fail
    clear q0
    refine wp_region_held_drew (S := fun w' => w'.cell? ⟨w.heap.size, 1, none⟩ = some (.int .i64 d)) (by kernel_rfl) (by exact q1) (fun hHeld => ?_)
    refine wpAnyH_take (i := 0) (v := ?_) rfl (by kernel_rfl) (by kernel_rfl) (by kernel_rfl) (fun _ _ _ h => h) (Or.inl ⟨by rfl, ?_⟩) (by assumption) ?_
    rotate_left
    · (intro wq hSw; (try dsimp only at hSw); (try simp only [List.getElem_toArray, List.getElem_cons_succ, List.getElem_cons_zero]); go_simp); try with_reducible rfl
    try simp only [List.getElem_toArray, List.getElem_cons_succ, List.getElem_cons_zero, Act.put, List.setIfInBounds_toArray, List.set_cons_zero, List.set_cons_succ]
    refine wpAnyH_take (i := 1) (v := ?_) rfl (by kernel_rfl) (by kernel_rfl) (by kernel_rfl) (fun _ _ _ h => h) (Or.inl ⟨by rfl, ?_⟩) (by assumption) ?_
    rotate_left
    · (intro wq hSw; (try dsimp only at hSw); (try simp only [List.getElem_toArray, List.getElem_cons_succ, List.getElem_cons_zero]); go_simp); try with_reducible rfl
    try simp only [List.getElem_toArray, List.getElem_cons_succ, List.getElem_cons_zero, Act.put, List.setIfInBounds_toArray, List.set_cons_zero, List.set_cons_succ]
    refine wpAnyH_take (i := 2) (v := ?_) rfl (by kernel_rfl) (by kernel_rfl) (by kernel_rfl) (fun _ _ _ h => h) (Or.inl ⟨by rfl, ?_⟩) (by assumption) ?_
    rotate_left
    · (intro wq hSw; (try dsimp only at hSw); (try simp only [List.getElem_toArray, List.getElem_cons_succ, List.getElem_cons_zero]); go_simp); try with_reducible rfl
    try simp only [List.getElem_toArray, List.getElem_cons_succ, List.getElem_cons_zero, Act.put, List.setIfInBounds_toArray, List.set_cons_zero, List.set_cons_succ]
    refine wpAnyH_take (i := 4) (v := ?_) rfl (by kernel_rfl) (by kernel_rfl) (by kernel_rfl) (fun _ _ _ h => h) (Or.inl ⟨by rfl, ?_⟩) (by assumption) ?_
    rotate_left
    · (intro wq hSw; (try dsimp only at hSw); (try simp only [List.getElem_toArray, List.getElem_cons_succ, List.getElem_cons_zero]); go_simp); try with_reducible rfl
    try simp only [List.getElem_toArray, List.getElem_cons_succ, List.getElem_cons_zero, Act.put, List.setIfInBounds_toArray, List.set_cons_zero, List.set_cons_succ]
    refine wpAnyH_take (i := 5) (v := ?_) rfl (by kernel_rfl) (by kernel_rfl) (by kernel_rfl) (fun _ _ _ h => h) (Or.inl ⟨by rfl, ?_⟩) (by assumption) ?_
    rotate_left
    · (intro wq hSw; (try dsimp only at hSw); (try simp only [List.getElem_toArray, List.getElem_cons_succ, List.getElem_cons_zero]); go_simp); try with_reducible rfl
    try simp only [List.getElem_toArray, List.getElem_cons_succ, List.getElem_cons_zero, Act.put, List.setIfInBounds_toArray, List.set_cons_zero, List.set_cons_succ]
    refine wpAnyH_take (i := 6) (v := ?_) rfl (by kernel_rfl) (by kernel_rfl) (by kernel_rfl) (fun _ _ _ h => h) (Or.inl ⟨by rfl, ?_⟩) (by assumption) ?_
    rotate_left
    · (intro wq hSw; (try dsimp only at hSw); (try simp only [List.getElem_toArray, List.getElem_cons_succ, List.getElem_cons_zero]); go_simp); try with_reducible rfl
    try simp only [List.getElem_toArray, List.getElem_cons_succ, List.getElem_cons_zero, Act.put, List.setIfInBounds_toArray, List.set_cons_zero, List.set_cons_succ]
    refine wpAnyH_ready (rs := [3]) (by kernel_rfl) (by simp) ?_
    refine AllReadyH.cons rfl (fun K hK => ?_) AllReadyH.nil
    try simp only [List.getElem_toArray, List.getElem_cons_succ, List.getElem_cons_zero]
    go_simp
    have hf := afail_any (Lib.hid (H0.out.later (Below.refl _ _).drew).da) (by omega) d
    rw [if_neg (show ¬ (0 ≤ d ∧ d < sa.length) by omega), show failA s sa d = sa by unfold failA; rw [if_neg (by omega)]] at hf
    refine hf.mono ?_
    rintro e w1 ⟨rfl, u1⟩
    obtain ⟨U1, H1, K1⟩ := (H0.out.later (Below.refl _ _).drew).updA u1
    have H1 := Lib.hid H1
    have X1 := Lib.hid ((X0.out.below (Below.refl _ _).drew).keeps K1 nU)
    clear hf
    clear q1
    have q1 : w1.cell? ⟨w.heap.size, 1, none⟩ = some (.int .i64 d) := X1.out.cell 1
    try (go_wp2_with fail)
    refine hK.out _ _ (by exact q1) (fun hHeld => ?_)
    clear hK K
    try simp only [List.getElem_toArray, List.getElem_cons_succ, List.getElem_cons_zero, Act.put, List.setIfInBounds_toArray, List.set_cons_zero, List.set_cons_succ]
    refine wpAnyH_ready (rs := [7]) (by kernel_rfl) (by simp) ?_
    refine AllReadyH.cons rfl (fun K hK => ?_) AllReadyH.nil
    try simp only [List.getElem_toArray, List.getElem_cons_succ, List.getElem_cons_zero]
    go_simp
    obtain ⟨vr, Fr, pr, hBr⟩ := H1.out.dr
    refine (rafail_out (Lib.hid hBr) d (by omega) ()).mono ?_
    rintro e w2 ⟨rfl, t2⟩
    have HZ := Lib.hid (H1.out.later t2)
    have X2 := Lib.hid (X1.out.below t2)
    clear hBr
    clear q1
    have q1 : w2.cell? ⟨w.heap.size, 1, none⟩ = some (.int .i64 d) := X2.out.cell 1
    try (go_wp2_with fail)
    refine hK.out _ _ (by exact q1) (fun hHeld => ?_)
    clear hK K
    try simp only [List.getElem_toArray, List.getElem_cons_succ, List.getElem_cons_zero, Act.put, List.setIfInBounds_toArray, List.set_cons_zero, List.set_cons_succ]
    refine wpAnyH_take (i := 8) (v := ?_) rfl (by kernel_rfl) (by kernel_rfl) (by kernel_rfl) (fun _ _ _ h => h) (Or.inl ⟨by rfl, ?_⟩) (by assumption) ?_
    rotate_left
    · (intro wq hSw; (try dsimp only at hSw); (try simp only [List.getElem_toArray, List.getElem_cons_succ, List.getElem_cons_zero]); go_simp); try with_reducible rfl
    try simp only [List.getElem_toArray, List.getElem_cons_succ, List.getElem_cons_zero, Act.put, List.setIfInBounds_toArray, List.set_cons_zero, List.set_cons_succ]
    refine wpAnyH_take (i := 9) (v := ?_) rfl (by kernel_rfl) (by kernel_rfl) (by kernel_rfl) (fun _ _ _ h => h) (Or.inl ⟨by rfl, ?_⟩) (by assumption) ?_
    rotate_left
    · (intro wq hSw; (try dsimp only at hSw); (try simp only [List.getElem_toArray, List.getElem_cons_succ, List.getElem_cons_zero]); go_simp); try with_reducible rfl
    try simp only [List.getElem_toArray, List.getElem_cons_succ, List.getElem_cons_zero, Act.put, List.setIfInBounds_toArray, List.set_cons_zero, List.set_cons_succ]
    refine wpAnyH_done (by kernel_rfl) ?_ _
    go_wp2_with fail
    go_ret
    exact ⟨rfl, U1, V, sa, ra, HZ.out.twin h.out.out_⟩

set_option maxRecDepth 100000 in
set_option maxHeartbeats 8000000 in
theorem act10_repl {w0 : World} {U V : Nat → Prop} {w : World} {a x n s t : Nat} {sa : List DSt} {ra : List RSt} (h : Hid (Twin w0 U V w a x n s t sa ra)) (hn : 0 < n) (hn2 : n ≤ 255) (ht : t < 1000) {KA : Option Addr} {km kc : Nat} {ks : List (List Bool)} (hk : Hid (RdL BoolsR 1 (fun b => b < w0.heap.size) w KA km ks)) (d z off c mask : Int) :
    Calls Try.prog 47 #[.pointer (some ⟨a, 0, none⟩), .pointer (some ⟨x, 0, none⟩), .agg #[.int .i64 6, .int .i64 d, .int .i64 z, .int .i64 off, .int .u8 c, .int .u32 mask, .slice KA km kc]] w fun e w' => e = .returned (.bool true) ∧ Went w0 w' a x n s (t + 1) := by
  have b0 : Below w.heap.size w (w.alloc (.cells #[.int .i64 6, .int .i64 d, .int .i64 z, .int .i64 off, .int .u8 c, .int .u32 mask, .slice KA km kc] 75)) := (Below.refl _ _).alloc (Nat.le_refl _) _
  have X0 := Lib.hid (BoxAt.new w #[.int .i64 6, .int .i64 d, .int .i64 z, .int .i64 off, .int .u8 c, .int .u32 mask, .slice KA km kc] 75)
  obtain ⟨wA, hwA⟩ : ∃ wA, w.alloc (.cells #[.int .i64 6, .int .i64 d, .int .i64 z, .int .i64 off, .int .u8 c, .int .u32 mask, .slice KA km kc] 75) = wA := ⟨_, rfl⟩
  rw [hwA] at b0 X0
  have H0 := Lib.hid (h.out.half.later b0)
  have INV := Lib.hid h.out.inv
  have hla : sa.length = n := INV.out.la
  have hlr : ra.length = n := INV.out.lr
  have nU : ¬ U w.heap.size := fun hu => by have := h.out.da.lt hu; omega
  have nV : ¬ V w.heap.size := fun hu => by have := h.out.dr.lt hu; omega
  have hcA := Lib.hid (INV.out.cache (by omega))
  have hgR := Lib.hid (INV.out.good (by omega))
  have hokA := Lib.hid h.out.da.ok
  have RK := Lib.hid (hk.out.below BoolsR.stable b0)
  have hws : w0.heap.size ≤ w.heap.size := h.out.below.size
  have nUV : ∀ b, b < w0.heap.size → ¬ U b ∧ ¬ V b := fun b hb => ⟨fun hu => by have := h.out.u1 b hu; omega, fun hv => by have := h.out.v1 b hv; omega⟩
  have NUV := Lib.hid nUV
  have q0 : wA.cell? ⟨w.heap.size, 0, none⟩ = some (.int .i64 6) := X0.out.cell 0
  have q1 : wA.cell? ⟨w.heap.size, 1, none⟩ = some (.int .i64 d) := X0.out.cell 1
  have q2 : wA.cell? ⟨w.heap.size, 2, none⟩ = some (.int .i64 z) := X0.out.cell 2
  have q3 : wA.cell? ⟨w.heap.size, 3, none⟩ = some (.int .i64 off) := X0.out.cell 3
  have q4 : wA.cell? ⟨w.heap.size, 4, none⟩ = some (.int .u8 c) := X0.out.cell 4
  have q5 : wA.cell? ⟨w.heap.size, 5, none⟩ = some (.int .u32 mask) := X0.out.cell 5
  have q6 : wA.cell? ⟨w.heap.size, 6, none⟩ = some (.slice KA km kc) := X0.out.cell 6
  clear b0 nUV
  go_enter Try.func47, Try.ntmps47
  clear q2 q3 q4 q5 q6
  by_cases hd : 0 ≤ d ∧ d < n
  · obtain ⟨k, rfl⟩ : ∃ k : Nat, d = k := ⟨d.toNat, by omega⟩
    have hdn : k < n := by omega
    obtain ⟨st, rs, hsa, hra, SM, hsz, hrg⟩ := INV.out.at_ hdn
    have HSM := Lib.hid SM
    have HFT := Lib.hid (show Fit s t rs from ⟨hrg, hsz⟩)
    have HSA := Lib.hid hsa
    have HRA := Lib.hid hra
    have hcst := hcA.out st (List.mem_of_getElem? hsa)
    have hgd := hgR.out rs (List.mem_of_getElem? hra)
    have hok := hokA.out st (List.mem_of_getElem? hsa)
    clear SM hsz hrg hsa hra hd

    go_wp2_with fail
    clear q0
    refine wp_region_held_drew (S := fun w' => w'.cell? ⟨w.heap.size, 1, none⟩ = some (.int .i64 (k : Int))) (by kernel_rfl) (by exact q1) (fun hHeld => ?_)
    refine wpAnyH_take (i := 0) (v := ?_) rfl (by kernel_rfl) (by kernel_rfl) (by kernel_rfl) (fun _ _ _ h => h) (Or.inl ⟨by rfl, ?_⟩) (by assumption) ?_
    rotate_left
    · (intro wq hSw; (try dsimp only at hSw); (try simp only [List.getElem_toArray, List.getElem_cons_succ, List.getElem_cons_zero]); go_simp); try with_reducible rfl
    try simp only [List.getElem_toArray, List.getElem_cons_succ, List.getElem_cons_zero, Act.put, List.setIfInBounds_toArray, List.set_cons_zero, List.set_cons_succ]
    refine wpAnyH_take (i := 1) (v := ?_) rfl (by kernel_rfl) (by kernel_rfl) (by kernel_rfl) (fun _ _ _ h => h) (Or.inl ⟨by rfl, ?_⟩) (by assumption) ?_
    rotate_left
    · (intro wq hSw; (try dsimp only at hSw); (try simp only [List.getElem_toArray, List.getElem_cons_succ, List.getElem_cons_zero]); go_simp); try with_reducible rfl
    try simp only [List.getElem_toArray, List.getElem_cons_succ, List.getElem_cons_zero, Act.put, List.setIfInBounds_toArray, List.set_cons_zero, List.set_cons_succ]
    refine wpAnyH_take (i := 2) (v := ?_) rfl (by kernel_rfl) (by kernel_rfl) (by kernel_rfl) (fun _ _ _ h => h) (Or.inl ⟨by rfl, ?_⟩) (by assumption) ?_
    rotate_left
    · (intro wq hSw; (try dsimp only at hSw); (try simp only [List.getElem_toArray, List.getElem_cons_succ, List.getElem_cons_zero]); go_simp); try with_reducible rfl
    try simp only [List.getElem_toArray, List.getElem_cons_succ, List.getElem_cons_zero, Act.put, List.setIfInBounds_toArray, List.set_cons_zero, List.set_cons_succ]
    refine wpAnyH_take (i := 4) (v := ?_) rfl (by kernel_rfl) (by kernel_rfl) (by kernel_rfl) (fun _ _ _ h => h) (Or.inl ⟨by rfl, ?_⟩) (by assumption) ?_
    rotate_left
    · (intro wq hSw; (try dsimp only at hSw); (try simp only [List.getElem_toArray, List.getElem_cons_succ, List.getElem_cons_zero]); go_simp); try with_reducible rfl
    try simp only [List.getElem_toArray, List.getElem_cons_succ, List.getElem_cons_zero, Act.put, List.setIfInBounds_toArray, List.set_cons_zero, List.set_cons_succ]
    refine wpAnyH_take (i := 5) (v := ?_) rfl (by kernel_rfl) (by kernel_rfl) (by kernel_rfl) (fun _ _ _ h => h) (Or.inl ⟨by rfl, ?_⟩) (by assumption) ?_
    rotate_left
    · (intro wq hSw; (try dsimp only at hSw); (try simp only [List.getElem_toArray, List.getElem_cons_succ, List.getElem_cons_zero]); go_simp); try with_reducible rfl
    try simp only [List.getElem_toArray, List.getElem_cons_succ, List.getElem_cons_zero, Act.put, List.setIfInBounds_toArray, List.set_cons_zero, List.set_cons_succ]
    refine wpAnyH_take (i := 6) (v := ?_) rfl (by kernel_rfl) (by kernel_rfl) (by kernel_rfl) (fun _ _ _ h => h) (Or.inl ⟨by rfl, ?_⟩) (by assumption) ?_
    rotate_left
    · (intro wq hSw; (try dsimp only at hSw); (try simp only [List.getElem_toArray, List.getElem_cons_succ, List.getElem_cons_zero]); go_simp); try with_reducible rfl
    try simp only [List.getElem_toArray, List.getElem_cons_succ, List.getElem_cons_zero, Act.put, List.setIfInBounds_toArray, List.set_cons_zero, List.set_cons_succ]
    refine wpAnyH_ready (rs := [3]) (by kernel_rfl) (by simp) ?_
    refine AllReadyH.cons rfl (fun K hK => ?_) AllReadyH.nil
    try simp only [List.getElem_toArray, List.getElem_cons_succ, List.getElem_cons_zero]
    go_simp
    have hf := arepl_any (Lib.hid (H0.out.later (Below.refl _ _).drew).da) (by omega) (k : Int)
    rw [if_pos (show 0 ≤ (k : Int) ∧ (k : Int) < sa.length by omega), show replA s sa (k : Int) = sa.set k (DSt.new s) by unfold replA; rw [if_pos (by omega), Int.toNat_natCast]] at hf
    refine hf.mono ?_
    rintro e w1 ⟨rfl, u1⟩
    obtain ⟨U1, H1, K1⟩ := (H0.out.later (Below.refl _ _).drew).updA u1
    have H1 := Lib.hid H1
    have X1 := Lib.hid ((X0.out.below (Below.refl _ _).drew).keeps K1 nU)
    clear hf
    clear q1
    have q1 : w1.cell? ⟨w.heap.size, 1, none⟩ = some (.int .i64 (k : Int)) := X1.out.cell 1
    try (go_wp2_with fail)
    refine hK.out _ _ (by exact q1) (fun hHeld => ?_)
    clear hK K
    try simp only [List.getElem_toArray, List.getElem_cons_succ, List.getElem_cons_zero, Act.put, List.setIfInBounds_toArray, List.set_cons_zero, List.set_cons_succ]
    refine wpAnyH_ready (rs := [7]) (by kernel_rfl) (by simp) ?_
    refine AllReadyH.cons rfl (fun K hK => ?_) AllReadyH.nil
    try simp only [List.getElem_toArray, List.getElem_cons_succ, List.getElem_cons_zero]
    go_simp
    obtain ⟨vr, Fr, pr, hBr⟩ := H1.out.dr
    refine (rarepl_in (Lib.hid hBr) k HRA.out hgd).mono ?_
    rintro e w2 ⟨rfl, u2⟩
    obtain ⟨V2, H2, K2⟩ := H1.out.updR u2
    have H2 := Lib.hid H2
    have X2 := Lib.hid (X1.out.keeps K2 nV)
    clear hBr
    clear q1
    have q1 : w2.cell? ⟨w.heap.size, 1, none⟩ = some (.int .i64 (k : Int)) := X2.out.cell 1
    try (go_wp2_with fail)
    refine hK.out _ _ (by exact q1) (fun hHeld => ?_)
    clear hK K
    try simp only [List.getElem_toArray, List.getElem_cons_succ, List.getElem_cons_zero, Act.put, List.setIfInBounds_toArray, List.set_cons_zero, List.set_cons_succ]
    refine wpAnyH_take (i := 8) (v := ?_) rfl (by kernel_rfl) (by kernel_rfl) (by kernel_rfl) (fun _ _ _ h => h) (Or.inl ⟨by rfl, ?_⟩) (by assumption) ?_
    rotate_left
    · (intro wq hSw; (try dsimp only at hSw); (try simp only [List.getElem_toArray, List.getElem_cons_succ, List.getElem_cons_zero]); go_simp); try with_reducible rfl
    try simp only [List.getElem_toArray, List.getElem_cons_succ, List.getElem_cons_zero, Act.put, List.setIfInBounds_toArray, List.set_cons_zero, List.set_cons_succ]
    refine wpAnyH_take (i := 9) (v := ?_) rfl (by kernel_rfl) (by kernel_rfl) (by kernel_rfl) (fun _ _ _ h => h) (Or.inl ⟨by rfl, ?_⟩) (by assumption) ?_
    rotate_left
    · (intro wq hSw; (try dsimp only at hSw); (try simp only [List.getElem_toArray, List.getElem_cons_succ, List.getElem_cons_zero]); go_simp); try with_reducible rfl
    try simp only [List.getElem_toArray, List.getElem_cons_succ, List.getElem_cons_zero, Act.put, List.setIfInBounds_toArray, List.set_cons_zero, List.set_cons_succ]
    refine wpAnyH_done (by kernel_rfl) ?_ _
    go_wp2_with fail
    go_ret
    exact ⟨rfl, U1, V2, _, _, H2.out.twin (INV.out.set (Sim.new s) (Fit.gone _))⟩
  · go_wp2_with fail
    clear q0
    refine wp_region_held_drew (S := fun w' => w'.cell? ⟨w.heap.size, 1, none⟩ = some (.int .i64 d)) (by kernel_rfl) (by exact q1) (fun hHeld => ?_)
    refine wpAnyH_take (i := 0) (v := ?_) rfl (by kernel_rfl) (by kernel_rfl) (by kernel_rfl) (fun _ _ _ h => h) (Or.inl ⟨by rfl, ?_⟩) (by assumption) ?_
    rotate_left
    · (intro wq hSw; (try dsimp only at hSw); (try simp only [List.getElem_toArray, List.getElem_cons_succ, List.getElem_cons_zero]); go_simp); try with_reducible rfl
    try simp only [List.getElem_toArray, List.getElem_cons_succ, List.getElem_cons_zero, Act.put, List.setIfInBounds_toArray, List.set_cons_zero, List.set_cons_succ]
    refine wpAnyH_take (i := 1) (v := ?_) rfl (by kernel_rfl) (by kernel_rfl) (by kernel_rfl) (fun _ _ _ h => h) (Or.inl ⟨by rfl, ?_⟩) (by assumption) ?_
    rotate_left
    · (intro wq hSw; (try dsimp only at hSw); (try simp only [List.getElem_toArray, List.getElem_cons_succ, List.getElem_cons_zero]); go_simp); try with_reducible rfl
    try simp only [List.getElem_toArray, List.getElem_cons_succ, List.getElem_cons_zero, Act.put, List.setIfInBounds_toArray, List.set_cons_zero, List.set_cons_succ]
    refine wpAnyH_take (i := 2) (v := ?_) rfl (by kernel_rfl) (by kernel_rfl) (by kernel_rfl) (fun _ _ _ h => h) (Or.inl ⟨by rfl, ?_⟩) (by assumption) ?_
    rotate_left
    · (intro wq hSw; (try dsimp only at hSw); (try simp only [List.getElem_toArray, List.getElem_cons_succ, List.getElem_cons_zero]); go_simp); try with_reducible rfl
    try simp only [List.getElem_toArray, List.getElem_cons_succ, List.getElem_cons_zero, Act.put, List.setIfInBounds_toArray, List.set_cons_zero, List.set_cons_succ]
    refine wpAnyH_take (i := 4) (v := ?_) rfl (by kernel_rfl) (by kernel_rfl) (by kernel_rfl) (fun _ _ _ h => h) (Or.inl ⟨by rfl, ?_⟩) (by assumption) ?_
    rotate_left
    · (intro wq hSw; (try dsimp only at hSw); (try simp only [List.getElem_toArray, List.getElem_cons_succ, List.getElem_cons_zero]); go_simp); try with_reducible rfl
    try simp only [List.getElem_toArray, List.getElem_cons_succ, List.getElem_cons_zero, Act.put, List.setIfInBounds_toArray, List.set_cons_zero, List.set_cons_succ]
    refine wpAnyH_take (i := 5) (v := ?_) rfl (by kernel_rfl) (by kernel_rfl) (by kernel_rfl) (fun _ _ _ h => h) (Or.inl ⟨by rfl, ?_⟩) (by assumption) ?_
    rotate_left
    · (intro wq hSw; (try dsimp only at hSw); (try simp only [List.getElem_toArray, List.getElem_cons_succ, List.getElem_cons_zero]); go_simp); try with_reducible rfl
    try simp only [List.getElem_toArray, List.getElem_cons_succ, List.getElem_cons_zero, Act.put, List.setIfInBounds_toArray, List.set_cons_zero, List.set_cons_succ]
    refine wpAnyH_take (i := 6) (v := ?_) rfl (by kernel_rfl) (by kernel_rfl) (by kernel_rfl) (fun _ _ _ h => h) (Or.inl ⟨by rfl, ?_⟩) (by assumption) ?_
    rotate_left
    · (intro wq hSw; (try dsimp only at hSw); (try simp only [List.getElem_toArray, List.getElem_cons_succ, List.getElem_cons_zero]); go_simp); try with_reducible rfl
    try simp only [List.getElem_toArray, List.getElem_cons_succ, List.getElem_cons_zero, Act.put, List.setIfInBounds_toArray, List.set_cons_zero, List.set_cons_succ]
    refine wpAnyH_ready (rs := [3]) (by kernel_rfl) (by simp) ?_
    refine AllReadyH.cons rfl (fun K hK => ?_) AllReadyH.nil
    try simp only [List.getElem_toArray, List.getElem_cons_succ, List.getElem_cons_zero]
    go_simp
    have hf := arepl_any (Lib.hid (H0.out.later (Below.refl _ _).drew).da) (by omega) d
    rw [if_neg (show ¬ (0 ≤ d ∧ d < sa.length) by omega), show replA s sa d = sa by unfold replA; rw [if_neg (by omega)]] at hf
    refine hf.mono ?_
    rintro e w1 ⟨rfl, u1⟩
    obtain ⟨U1, H1, K1⟩ := (H0.out.later (Below.refl _ _).drew).updA u1
    have H1 := Lib.hid H1
    have X1 := Lib.hid ((X0.out.below (Below.refl _ _).drew).keeps K1 nU)
    clear hf
    clear q1
    have q1 : w1.cell? ⟨w.heap.size, 1, none⟩ = some (.int .i64 d) := X1.out.cell 1
    try (go_wp2_with fail)
    refine hK.out _ _ (by exact q1) (fun hHeld => ?_)
    clear hK K
    try simp only [List.getElem_toArray, List.getElem_cons_succ, List.getElem_cons_zero, Act.put, List.setIfInBounds_toArray, List.set_cons_zero, List.set_cons_succ]
    refine wpAnyH_ready (rs := [7]) (by kernel_rfl) (by simp) ?_
    refine AllReadyH.cons rfl (fun K hK => ?_) AllReadyH.nil
    try simp only [List.getElem_toArray, List.getElem_cons_succ, List.getElem_cons_zero]
    go_simp
    obtain ⟨vr, Fr, pr, hBr⟩ := H1.out.dr
    refine (rarepl_out (Lib.hid hBr) d (by omega) ()).mono ?_
    rintro e w2 ⟨rfl, t2⟩
    have HZ := Lib.hid (H1.out.later t2)
    have X2 := Lib.hid (X1.out.below t2)
    clear hBr
    clear q1
    have q1 : w2.cell? ⟨w.heap.size, 1, none⟩ = some (.int .i64 d) := X2.out.cell 1
    try (go_wp2_with fail)
    refine hK.out _ _ (by exact q1) (fun hHeld => ?_)
    clear hK K
    try simp only [List.getElem_toArray, List.getElem_cons_succ, List.getElem_cons_zero, Act.put, List.setIfInBounds_toArray, List.set_cons_zero, List.set_cons_succ]
    refine wpAnyH_take (i := 8) (v := ?_) rfl (by kernel_rfl) (by kernel_rfl) (by kernel_rfl) (fun _ _ _ h => h) (Or.inl ⟨by rfl, ?_⟩) (by assumption) ?_
    rotate_left
    · (intro wq hSw; (try dsimp only at hSw); (try simp only [List.getElem_toArray, List.getElem_cons_succ, List.getElem_cons_zero]); go_simp); try with_reducible rfl
    try simp only [List.getElem_toArray, List.getElem_cons_succ, List.getElem_cons_zero, Act.put, List.setIfInBounds_toArray, List.set_cons_zero, List.set_cons_succ]
    refine wpAnyH_take (i := 9) (v := ?_) rfl (by kernel_rfl) (by kernel_rfl) (by kernel_rfl) (fun _ _ _ h => h) (Or.inl ⟨by rfl, ?_⟩) (by assumption) ?_
    rotate_left
    · (intro wq hSw; (try dsimp only at hSw); (try simp only [List.getElem_toArray, List.getElem_cons_succ, List.getElem_cons_zero]); go_simp); try with_reducible rfl
    try simp only [List.getElem_toArray, List.getElem_cons_succ, List.getElem_cons_zero, Act.put, List.setIfInBounds_toArray, List.set_cons_zero, List.set_cons_succ]
    refine wpAnyH_done (by kernel_rfl) ?_ _
    go_wp2_with fail
    go_ret
    exact ⟨rfl, U1, V, sa, ra, HZ.out.twin h.out.out_⟩

set_option maxRecDepth 100000 in
set_option maxHeartbeats 8000000 in
theorem act10_rot {w0 : World} {U V : Nat → Prop} {w : World} {a x n s t : Nat} {sa : List DSt} {ra : List RSt} (h : Hid (Twin w0 U V w a x n s t sa ra)) (hn : 0 < n) (hn2 : n ≤ 255) (ht : t < 1000) {KA : Option Addr} {km kc : Nat} {ks : List (List Bool)} (hk : Hid (RdL BoolsR 1 (fun b => b < w0.heap.size) w KA km ks)) (d z off c mask : Int) :
    Calls Try.prog 47 #[.pointer (some ⟨a, 0, none⟩), .pointer (some ⟨x, 0, none⟩), .agg #[.int .i64 7, .int .i64 d, .int .i64 z, .int .i64 off, .int .u8 c, .int .u32 mask, .slice KA km kc]] w fun e w' => e = .returned (.bool true) ∧ Went w0 w' a x n s (t + 1) := by
  have b0 : Below w.heap.size w (w.alloc (.cells #[.int .i64 7, .int .i64 d, .int .i64 z, .int .i64 off, .int .u8 c, .int .u32 mask, .slice KA km kc] 75)) := (Below.refl _ _).alloc (Nat.le_refl _) _
  have X0 := Lib.hid (BoxAt.new w #[.int .i64 7, .int .i64 d, .int .i64 z, .int .i64 off, .int .u8 c, .int .u32 mask, .slice KA km kc] 75)
  obtain ⟨wA, hwA⟩ : ∃ wA, w.alloc (.cells #[.int .i64 7, .int .i64 d, .int .i64 z, .int .i64 off, .int .u8 c, .int .u32 mask, .slice KA km kc] 75) = wA := ⟨_, rfl⟩
  rw [hwA] at b0 X0
  have H0 := Lib.hid (h.out.half.later b0)
  have INV := Lib.hid h.out.inv
  have hla : sa.length = n := INV.out.la
  have hlr : ra.length = n := INV.out.lr
  have nU : ¬ U w.heap.size := fun hu => by have := h.out.da.lt hu; omega
  have nV : ¬ V w.heap.size := fun hu => by have := h.out.dr.lt hu; omega
  have hcA := Lib.hid (INV.out.cache (by omega))
  have hgR := Lib.hid (INV.out.good (by omega))
  have hokA := Lib.hid h.out.da.ok
  have RK := Lib.hid (hk.out.below BoolsR.stable b0)
  have hws : w0.heap.size ≤ w.heap.size := h.out.below.size
  have nUV : ∀ b, b < w0.heap.size → ¬ U b ∧ ¬ V b := fun b hb => ⟨fun hu => by have := h.out.u1 b hu; omega, fun hv => by have := h.out.v1 b hv; omega⟩
  have NUV := Lib.hid nUV
  have q0 : wA.cell? ⟨w.heap.size, 0, none⟩ = some (.int .i64 7) := X0.out.cell 0
  have q1 : wA.cell? ⟨w.heap.size, 1, none⟩ = some (.int .i64 d) := X0.out.cell 1
  have q2 : wA.cell? ⟨w.heap.size, 2, none⟩ = some (.int .i64 z) := X0.out.cell 2
  have q3 : wA.cell? ⟨w.heap.size, 3, none⟩ = some (.int .i64 off) := X0.out.cell 3
  have q4 : wA.cell? ⟨w.heap.size, 4, none⟩ = some (.int .u8 c) := X0.out.cell 4
  have q5 : wA.cell? ⟨w.heap.size, 5, none⟩ = some (.int .u32 mask) := X0.out.cell 5
  have q6 : wA.cell? ⟨w.heap.size, 6, none⟩ = some (.slice KA km kc) := X0.out.cell 6
  clear b0 nUV
  go_enter Try.func47, Try.ntmps47
  clear q4 q6
  by_cases hd : 0 ≤ d ∧ d < n
  · obtain ⟨k, rfl⟩ : ∃ k : Nat, d = k := ⟨d.toNat, by omega⟩
    have hdn : k < n := by omega
    obtain ⟨st, rs, hsa, hra, SM, hsz, hrg⟩ := INV.out.at_ hdn
    have HSM := Lib.hid SM
    have HFT := Lib.hid (show Fit s t rs from ⟨hrg, hsz⟩)
    have HSA := Lib.hid hsa
    have HRA := Lib.hid hra
    have hcst := hcA.out st (List.mem_of_getElem? hsa)
    have hgd := hgR.out rs (List.mem_of_getElem? hra)
    have hok := hokA.out st (List.mem_of_getElem? hsa)
    clear SM hsz hrg hsa hra hd
    have hC := HSM.out.rotC_eq z off mask
    have HC := Lib.hid hC
    clear hC
    go_wp2_with fail
    clear q0
    refine wp_region_held_drew (S := fun w' => w'.cell? ⟨w.heap.size, 1, none⟩ = some (.int .i64 (k : Int)) ∧ w'.cell? ⟨w.heap.size, 2, none⟩ = some (.int .i64 z) ∧ w'.cell? ⟨w.heap.size, 3, none⟩ = some (.int .i64 off) ∧ w'.cell? ⟨w.heap.size, 5, none⟩ = some (.int .u32 mask)) (by kernel_rfl) (by exact ⟨q1, q2, q3, q5⟩) (fun hHeld => ?_)
    refine wpAnyH_take (i := 0) (v := ?_) rfl (by kernel_rfl) (by kernel_rfl) (by kernel_rfl) (fun _ _ _ h => h) (Or.inl ⟨by rfl, ?_⟩) (by assumption) ?_
    rotate_left
    · (intro wq hSw; (try dsimp only at hSw); (try simp only [List.getElem_toArray, List.getElem_cons_succ, List.getElem_cons_zero]); go_simp); try with_reducible rfl
    try simp only [List.getElem_toArray, List.getElem_cons_succ, List.getElem_cons_zero, Act.put, List.setIfInBounds_toArray, List.set_cons_zero, List.set_cons_succ]
    refine wpAnyH_take (i := 1) (v := ?_) rfl (by kernel_rfl) (by kernel_rfl) (by kernel_rfl) (fun _ _ _ h => h) (Or.inl ⟨by rfl, ?_⟩) (by assumption) ?_
    rotate_left
    · (intro wq hSw; (try dsimp only at hSw); (try simp only [List.getElem_toArray, List.getElem_cons_succ, List.getElem_cons_zero]); go_simp); try with_reducible rfl
    try simp only [List.getElem_toArray, List.getElem_cons_succ, List.getElem_cons_zero, Act.put, List.setIfInBounds_toArray, List.set_cons_zero, List.set_cons_succ]
    refine wpAnyH_take (i := 2) (v := ?_) rfl (by kernel_rfl) (by kernel_rfl) (by kernel_rfl) (fun _ _ _ h => h) (Or.inl ⟨by rfl, ?_⟩) (by assumption) ?_
    rotate_left
    · (intro wq hSw; (try dsimp only at hSw); (try simp only [List.getElem_toArray, List.getElem_cons_succ, List.getElem_cons_zero]); go_simp); try with_reducible rfl
    try simp only [List.getElem_toArray, List.getElem_cons_succ, List.getElem_cons_zero, Act.put, List.setIfInBounds_toArray, List.set_cons_zero, List.set_cons_succ]
    refine wpAnyH_take (i := 3) (v := ?_) rfl (by kernel_rfl) (by kernel_rfl) (by kernel_rfl) (fun _ _ _ h => h) (Or.inl ⟨by rfl, ?_⟩) (by assumption) ?_
    rotate_left
    · (intro wq hSw; (try dsimp only at hSw); (try simp only [List.getElem_toArray, List.getElem_cons_succ, List.getElem_cons_zero]); go_simp); try with_reducible rfl
    try simp only [List.getElem_toArray, List.getElem_cons_succ, List.getElem_cons_zero, Act.put, List.setIfInBounds_toArray, List.set_cons_zero, List.set_cons_succ]
    refine wpAnyH_take (i := 4) (v := ?_) rfl (by kernel_rfl) (by kernel_rfl) (by kernel_rfl) (fun _ _ _ h => h) (Or.inl ⟨by rfl, ?_⟩) (by assumption) ?_
    rotate_left
    · (intro wq hSw; (try dsimp only at hSw); (try simp only [List.getElem_toArray, List.getElem_cons_succ, List.getElem_cons_zero]); go_simp); try with_reducible rfl
    try simp only [List.getElem_toArray, List.getElem_cons_succ, List.getElem_cons_zero, Act.put, List.setIfInBounds_toArray, List.set_cons_zero, List.set_cons_succ]
    refine wpAnyH_take (i := 5) (v := ?_) rfl (by kernel_rfl) (by kernel_rfl) (by kernel_rfl) (fun _ _ _ h => h) (Or.inl ⟨by rfl, ?_⟩) (by assumption) ?_
    rotate_left
    · (intro wq hSw; (try dsimp only at hSw); (try simp only [List.getElem_toArray, List.getElem_cons_succ, List.getElem_cons_zero]); go_simp); try with_reducible rfl
    try simp only [List.getElem_toArray, List.getElem_cons_succ, List.getElem_cons_zero, Act.put, List.setIfInBounds_toArray, List.set_cons_zero, List.set_cons_succ]
    refine wpAnyH_take (i := 6) (v := ?_) rfl (by kernel_rfl) (by kernel_rfl) (by kernel_rfl) (fun _ _ _ h => h) (Or.inl ⟨by rfl, ?_⟩) (by assumption) ?_
    rotate_left
    · (intro wq hSw; (try dsimp only at hSw); (try simp only [List.getElem_toArray, List.getElem_cons_succ, List.getElem_cons_zero]); go_simp); try with_reducible rfl
    try simp only [List.getElem_toArray, List.getElem_cons_succ, List.getElem_cons_zero, Act.put, List.setIfInBounds_toArray, List.set_cons_zero, List.set_cons_succ]
    refine wpAnyH_take (i := 7) (v := ?_) rfl (by kernel_rfl) (by kernel_rfl) (by kernel_rfl) (fun _ _ _ h => h) (Or.inl ⟨by rfl, ?_⟩) (by assumption) ?_
    rotate_left
    · (intro wq hSw; (try dsimp only at hSw); (try simp only [List.getElem_toArray, List.getElem_cons_succ, List.getElem_cons_zero]); go_simp); try with_reducible rfl
    try simp only [List.getElem_toArray, List.getElem_cons_succ, List.getElem_cons_zero, Act.put, List.setIfInBounds_toArray, List.set_cons_zero, List.set_cons_succ]
    refine wpAnyH_take (i := 8) (v := ?_) rfl (by kernel_rfl) (by kernel_rfl) (by kernel_rfl) (fun _ _ _ h => h) (Or.inl ⟨by rfl, ?_⟩) (by assumption) ?_
    rotate_left
    · (intro wq hSw; (try dsimp only at hSw); (try simp only [List.getElem_toArray, List.getElem_cons_succ, List.getElem_cons_zero]); go_simp); try with_reducible rfl
    try simp only [List.getElem_toArray, List.getElem_cons_succ, List.getElem_cons_zero, Act.put, List.setIfInBounds_toArray, List.set_cons_zero, List.set_cons_succ]
    refine wpAnyH_take (i := 10) (v := ?_) rfl (by kernel_rfl) (by kernel_rfl) (by kernel_rfl) (fun _ _ _ h => h) (Or.inl ⟨by rfl, ?_⟩) (by assumption) ?_
    rotate_left
    · (intro wq hSw; (try dsimp only at hSw); (try simp only [List.getElem_toArray, List.getElem_cons_succ, List.getElem_cons_zero]); go_simp); try with_reducible rfl
    try simp only [List.getElem_toArray, List.getElem_cons_succ, List.getElem_cons_zero, Act.put, List.setIfInBounds_toArray, List.set_cons_zero, List.set_cons_succ]
    refine wpAnyH_take (i := 11) (v := ?_) rfl (by kernel_rfl) (by kernel_rfl) (by kernel_rfl) (fun _ _ _ h => h) (Or.inl ⟨by rfl, ?_⟩) (by assumption) ?_
    rotate_left
    · (intro wq hSw; (try dsimp only at hSw); (try simp only [List.getElem_toArray, List.getElem_cons_succ, List.getElem_cons_zero]); go_simp); try with_reducible rfl
    try simp only [List.getElem_toArray, List.getElem_cons_succ, List.getElem_cons_zero, Act.put, List.setIfInBounds_toArray, List.set_cons_zero, List.set_cons_succ]
    refine wpAnyH_take (i := 12) (v := ?_) rfl (by kernel_rfl) (by kernel_rfl) (by kernel_rfl) (fun _ _ _ h => h) (Or.inl ⟨by rfl, ?_⟩) (by assumption) ?_
    rotate_left
    · (intro wq hSw; (try dsimp only at hSw); (try simp only [List.getElem_toArray, List.getElem_cons_succ, List.getElem_cons_zero]); go_simp); try with_reducible rfl
    try simp only [List.getElem_toArray, List.getElem_cons_succ, List.getElem_cons_zero, Act.put, List.setIfInBounds_toArray, List.set_cons_zero, List.set_cons_succ]
    refine wpAnyH_take (i := 13) (v := ?_) rfl (by kernel_rfl) (by kernel_rfl) (by kernel_rfl) (fun _ _ _ h => h) (Or.inl ⟨by rfl, ?_⟩) (by assumption) ?_
    rotate_left
    · (intro wq hSw; (try dsimp only at hSw); (try simp only [List.getElem_toArray, List.getElem_cons_succ, List.getElem_cons_zero]); go_simp); try with_reducible rfl
    try simp only [List.getElem_toArray, List.getElem_cons_succ, List.getElem_cons_zero, Act.put, List.setIfInBounds_toArray, List.set_cons_zero, List.set_cons_succ]
    refine wpAnyH_take (i := 14) (v := ?_) rfl (by kernel_rfl) (by kernel_rfl) (by kernel_rfl) (fun _ _ _ h => h) (Or.inl ⟨by rfl, ?_⟩) (by assumption) ?_
    rotate_left
    · (intro wq hSw; (try dsimp only at hSw); (try simp only [List.getElem_toArray, List.getElem_cons_succ, List.getElem_cons_zero]); go_simp); try with_reducible rfl
    try simp only [List.getElem_toArray, List.getElem_cons_succ, List.getElem_cons_zero, Act.put, List.setIfInBounds_toArray, List.set_cons_zero, List.set_cons_succ]
    refine wpAnyH_take (i := 15) (v := ?_) rfl (by kernel_rfl) (by kernel_rfl) (by kernel_rfl) (fun _ _ _ h => h) (Or.inl ⟨by rfl, ?_⟩) (by assumption) ?_
    rotate_left
    · (intro wq hSw; (try dsimp only at hSw); (try simp only [List.getElem_toArray, List.getElem_cons_succ, List.getElem_cons_zero]); go_simp); try with_reducible rfl
    try simp only [List.getElem_toArray, List.getElem_cons_succ, List.getElem_cons_zero, Act.put, List.setIfInBounds_toArray, List.set_cons_zero, List.set_cons_succ]
    refine wpAnyH_take (i := 16) (v := ?_) rfl (by kernel_rfl) (by kernel_rfl) (by kernel_rfl) (fun _ _ _ h => h) (Or.inl ⟨by rfl, ?_⟩) (by assumption) ?_
    rotate_left
    · (intro wq hSw; (try dsimp only at hSw); (try simp only [List.getElem_toArray, List.getElem_cons_succ, List.getElem_cons_zero]); go_simp); try with_reducible rfl
    try simp only [List.getElem_toArray, List.getElem_cons_succ, List.getElem_cons_zero, Act.put, List.setIfInBounds_toArray, List.set_cons_zero, List.set_cons_succ]
    refine wpAnyH_take (i := 17) (v := ?_) rfl (by kernel_rfl) (by kernel_rfl) (by kernel_rfl) (fun _ _ _ h => h) (Or.inl ⟨by rfl, ?_⟩) (by assumption) ?_
    rotate_left
    · (intro wq hSw; (try dsimp only at hSw); (try simp only [List.getElem_toArray, List.getElem_cons_succ, List.getElem_cons_zero]); go_simp); try with_reducible rfl
    try simp only [List.getElem_toArray, List.getElem_cons_succ, List.getElem_cons_zero, Act.put, List.setIfInBounds_toArray, List.set_cons_zero, List.set_cons_succ]
    refine wpAnyH_take (i := 18) (v := ?_) rfl (by kernel_rfl) (by kernel_rfl) (by kernel_rfl) (fun _ _ _ h => h) (Or.inl ⟨by rfl, ?_⟩) (by assumption) ?_
    rotate_left
    · (intro wq hSw; (try dsimp only at hSw); (try simp only [List.getElem_toArray, List.getElem_cons_succ, List.getElem_cons_zero]); go_simp); try with_reducible rfl
    try simp only [List.getElem_toArray, List.getElem_cons_succ, List.getElem_cons_zero, Act.put, List.setIfInBounds_toArray, List.set_cons_zero, List.set_cons_succ]
    refine wpAnyH_ready (rs := [9]) (by kernel_rfl) (by simp) ?_
    refine AllReadyH.cons rfl (fun K hK => ?_) AllReadyH.nil
    try simp only [List.getElem_toArray, List.getElem_cons_succ, List.getElem_cons_zero]
    go_simp
    obtain ⟨va, Fa, pa, hBa⟩ := (H0.out.later (Below.refl _ _).drew).da
    refine (arot_exact (Lib.hid hBa) k HSA.out z off mask).mono ?_
    rintro e w1 ⟨rfl, u1⟩
    obtain ⟨U1, H1, K1⟩ := (H0.out.later (Below.refl _ _).drew).updA u1
    have H1 := Lib.hid H1
    have X1 := Lib.hid ((X0.out.below (Below.refl _ _).drew).keeps K1 nU)
    clear hBa
    clear q1 q2 q3 q5
    have q1 : w1.cell? ⟨w.heap.size, 1, none⟩ = some (.int .i64 (k : Int)) := X1.out.cell 1
    have q2 : w1.cell? ⟨w.heap.size, 2, none⟩ = some (.int .i64 z) := X1.out.cell 2
    have q3 : w1.cell? ⟨w.heap.size, 3, none⟩ = some (.int .i64 off) := X1.out.cell 3
    have q5 : w1.cell? ⟨w.heap.size, 5, none⟩ = some (.int .u32 mask) := X1.out.cell 5
    rw [HC.out]
    try (go_wp2_with fail)
    refine hK.out _ _ (by exact ⟨q1, q2, q3, q5⟩) (fun hHeld => ?_)
    clear hK K
    try simp only [List.getElem_toArray, List.getElem_cons_succ, List.getElem_cons_zero, Act.put, List.setIfInBounds_toArray, List.set_cons_zero, List.set_cons_succ]
    refine wpAnyH_ready (rs := [19]) (by kernel_rfl) (by simp) ?_
    refine AllReadyH.cons rfl (fun K hK => ?_) AllReadyH.nil
    try simp only [List.getElem_toArray, List.getElem_cons_succ, List.getElem_cons_zero]
    go_simp
    obtain ⟨vr, Fr, pr, hBr⟩ := H1.out.dr
    refine (rarot_in (Lib.hid hBr) k HRA.out hgd z off mask).mono ?_
    rintro e w2 ⟨rfl, u2⟩
    obtain ⟨V2, H2, K2⟩ := H1.out.updR u2
    have H2 := Lib.hid H2
    have X2 := Lib.hid (X1.out.keeps K2 nV)
    clear hBr
    clear q1 q2 q3 q5
    have q1 : w2.cell? ⟨w.heap.size, 1, none⟩ = some (.int .i64 (k : Int)) := X2.out.cell 1
    have q2 : w2.cell? ⟨w.heap.size, 2, none⟩ = some (.int .i64 z) := X2.out.cell 2
    have q3 : w2.cell? ⟨w.heap.size, 3, none⟩ = some (.int .i64 off) := X2.out.cell 3
    have q5 : w2.cell? ⟨w.heap.size, 5, none⟩ = some (.int .u32 mask) := X2.out.cell 5
    try (go_wp2_with fail)
    refine hK.out _ _ (by exact ⟨q1, q2, q3, q5⟩) (fun hHeld => ?_)
    clear hK K
    try simp only [List.getElem_toArray, List.getElem_cons_succ, List.getElem_cons_zero, Act.put, List.setIfInBounds_toArray, List.set_cons_zero, List.set_cons_succ]
    refine wpAnyH_take (i := 20) (v := ?_) rfl (by kernel_rfl) (by kernel_rfl) (by kernel_rfl) (fun _ _ _ h => h) (Or.inl ⟨by rfl, ?_⟩) (by assumption) ?_
    rotate_left
    · (intro wq hSw; (try dsimp only at hSw); (try simp only [List.getElem_toArray, List.getElem_cons_succ, List.getElem_cons_zero]); go_simp); try with_reducible rfl
    try simp only [List.getElem_toArray, List.getElem_cons_succ, List.getElem_cons_zero, Act.put, List.setIfInBounds_toArray, List.set_cons_zero, List.set_cons_succ]
    refine wpAnyH_take (i := 21) (v := ?_) rfl (by kernel_rfl) (by kernel_rfl) (by kernel_rfl) (fun _ _ _ h => h) (Or.inl ⟨by rfl, ?_⟩) (by assumption) ?_
    rotate_left
    · (intro wq hSw; (try dsimp only at hSw); (try simp only [List.getElem_toArray, List.getElem_cons_succ, List.getElem_cons_zero]); go_simp); try with_reducible rfl
    try simp only [List.getElem_toArray, List.getElem_cons_succ, List.getElem_cons_zero, Act.put, List.setIfInBounds_toArray, List.set_cons_zero, List.set_cons_succ]
    refine wpAnyH_done (by kernel_rfl) ?_ _
    go_wp2_with fail
    go_ret
    exact ⟨rfl, U1, V2, _, _, H2.out.twin (INV.out.set (HSM.out.rot hok z off mask) (HFT.out.rot z off mask))⟩
  · go_wp2_with fail
    clear q0
    refine wp_region_held_drew (S := fun w' => w'.cell? ⟨w.heap.size, 1, none⟩ = some (.int .i64 d) ∧ w'.cell? ⟨w.heap.size, 2, none⟩ = some (.int .i64 z) ∧ w'.cell? ⟨w.heap.size, 3, none⟩ = some (.int .i64 off) ∧ w'.cell? ⟨w.heap.size, 5, none⟩ = some (.int .u32 mask)) (by kernel_rfl) (by exact ⟨q1, q2, q3, q5⟩) (fun hHeld => ?_)
    refine wpAnyH_take (i := 0) (v := ?_) rfl (by kernel_rfl) (by kernel_rfl) (by kernel_rfl) (fun _ _ _ h => h) (Or.inl ⟨by rfl, ?_⟩) (by assumption) ?_
    rotate_left
    · (intro wq hSw; (try dsimp only at hSw); (try simp only [List.getElem_toArray, List.getElem_cons_succ, List.getElem_cons_zero]); go_simp); try with_reducible rfl
    try simp only [List.getElem_toArray, List.getElem_cons_succ, List.getElem_cons_zero, Act.put, List.setIfInBounds_toArray, List.set_cons_zero, List.set_cons_succ]
    refine wpAnyH_take (i := 1) (v := ?_) rfl (by kernel_rfl) (by kernel_rfl) (by kernel_rfl) (fun _ _ _ h => h) (Or.inl ⟨by rfl, ?_⟩) (by assumption) ?_
    rotate_left
    · (intro wq hSw; (try dsimp only at hSw); (try simp only [List.getElem_toArray, List.getElem_cons_succ, List.getElem_cons_zero]); go_simp); try with_reducible rfl
    try simp only [List.getElem_toArray, List.getElem_cons_succ, List.getElem_cons_zero, Act.put, List.setIfInBounds_toArray, List.set_cons_zero, List.set_cons_succ]
    refine wpAnyH_take (i := 2) (v := ?_) rfl (by kernel_rfl) (by kernel_rfl) (by kernel_rfl) (fun _ _ _ h => h) (Or.inl ⟨by rfl, ?_⟩) (by assumption) ?_
    rotate_left
    · (intro wq hSw; (try dsimp only at hSw); (try simp only [List.getElem_toArray, List.getElem_cons_succ, List.getElem_cons_zero]); go_simp); try with_reducible rfl
    try simp only [List.getElem_toArray, List.getElem_cons_succ, List.getElem_cons_zero, Act.put, List.setIfInBounds_toArray, List.set_cons_zero, List.set_cons_succ]
    refine wpAnyH_take (i := 3) (v := ?_) rfl (by kernel_rfl) (by kernel_rfl) (by kernel_rfl) (fun _ _ _ h => h) (Or.inl ⟨by rfl, ?_⟩) (by assumption) ?_
    rotate_left
    · (intro wq hSw; (try dsimp only at hSw); (try simp only [List.getElem_toArray, List.getElem_cons_succ, List.getElem_cons_zero]); go_simp); try with_reducible rfl
    try simp only [List.getElem_toArray, List.getElem_cons_succ, List.getElem_cons_zero, Act.put, List.setIfInBounds_toArray, List.set_cons_zero, List.set_cons_succ]
    refine wpAnyH_take (i := 4) (v := ?_) rfl (by kernel_rfl) (by kernel_rfl) (by kernel_rfl) (fun _ _ _ h => h) (Or.inl ⟨by rfl, ?_⟩) (by assumption) ?_
    rotate_left
    · (intro wq hSw; (try dsimp only at hSw); (try simp only [List.getElem_toArray, List.getElem_cons_succ, List.getElem_cons_zero]); go_simp); try with_reducible rfl
    try simp only [List.getElem_toArray, List.getElem_cons_succ, List.getElem_cons_zero, Act.put, List.setIfInBounds_toArray, List.set_cons_zero, List.set_cons_succ]
    refine wpAnyH_take (i := 5) (v := ?_) rfl (by kernel_rfl) (by kernel_rfl) (by kernel_rfl) (fun _ _ _ h => h) (Or.inl ⟨by rfl, ?_⟩) (by assumption) ?_
    rotate_left
    · (intro wq hSw; (try dsimp only at hSw); (try simp only [List.getElem_toArray, List.getElem_cons_succ, List.getElem_cons_zero]); go_simp); try with_reducible rfl
    try simp only [List.getElem_toArray, List.getElem_cons_succ, List.getElem_cons_zero, Act.put, List.setIfInBounds_toArray, List.set_cons_zero, List.set_cons_succ]
    refine wpAnyH_take (i := 6) (v := ?_) rfl (by kernel_rfl) (by kernel_rfl) (by kernel_rfl) (fun _ _ _ h => h) (Or.inl ⟨by rfl, ?_⟩) (by assumption) ?_
    rotate_left
    · (intro wq hSw; (try dsimp only at hSw); (try simp only [List.getElem_toArray, List.getElem_cons_succ, List.getElem_cons_zero]); go_simp); try with_reducible rfl
    try simp only [List.getElem_toArray, List.getElem_cons_succ, List.getElem_cons_zero, Act.put, List.setIfInBounds_toArray, List.set_cons_zero, List.set_cons_succ]
    refine wpAnyH_take (i := 7) (v := ?_) rfl (by kernel_rfl) (by kernel_rfl) (by kernel_rfl) (fun _ _ _ h => h) (Or.inl ⟨by rfl, ?_⟩) (by assumption) ?_
    rotate_left
    · (intro wq hSw; (try dsimp only at hSw); (try simp only [List.getElem_toArray, List.getElem_cons_succ, List.getElem_cons_zero]); go_simp); try with_reducible rfl
    try simp only [List.getElem_toArray, List.getElem_cons_succ, List.getElem_cons_zero, Act.put, List.setIfInBounds_toArray, List.set_cons_zero, List.set_cons_succ]
    refine wpAnyH_take (i := 8) (v := ?_) rfl (by kernel_rfl) (by kernel_rfl) (by kernel_rfl) (fun _ _ _ h => h) (Or.inl ⟨by rfl, ?_⟩) (by assumption) ?_
    rotate_left
    · (intro wq hSw; (try dsimp only at hSw); (try simp only [List.getElem_toArray, List.getElem_cons_succ, List.getElem_cons_zero]); go_simp); try with_reducible rfl
    try simp only [List.getElem_toArray, List.getElem_cons_succ, List.getElem_cons_zero, Act.put, List.setIfInBounds_toArray, List.set_cons_zero, List.set_cons_succ]
    refine wpAnyH_take (i := 10) (v := ?_) rfl (by kernel_rfl) (by kernel_rfl) (by kernel_rfl) (fun _ _ _ h => h) (Or.inl ⟨by rfl, ?_⟩) (by assumption) ?_
    rotate_left
    · (intro wq hSw; (try dsimp only at hSw); (try simp only [List.getElem_toArray, List.getElem_cons_succ, List.getElem_cons_zero]); go_simp); try with_reducible rfl
    try simp only [List.getElem_toArray, List.getElem_cons_succ, List.getElem_cons_zero, Act.put, List.setIfInBounds_toArray, List.set_cons_zero, List.set_cons_succ]
    refine wpAnyH_take (i := 11) (v := ?_) rfl (by kernel_rfl) (by kernel_rfl) (by kernel_rfl) (fun _ _ _ h => h) (Or.inl ⟨by rfl, ?_⟩) (by assumption) ?_
    rotate_left
    · (intro wq hSw; (try dsimp only at hSw); (try simp only [List.getElem_toArray, List.getElem_cons_succ, List.getElem_cons_zero]); go_simp); try with_reducible rfl
    try simp only [List.getElem_toArray, List.getElem_cons_succ, List.getElem_cons_zero, Act.put, List.setIfInBounds_toArray, List.set_cons_zero, List.set_cons_succ]
    refine wpAnyH_take (i := 12) (v := ?_) rfl (by kernel_rfl) (by kernel_rfl) (by kernel_rfl) (fun _ _ _ h => h) (Or.inl ⟨by rfl, ?_⟩) (by assumption) ?_
    rotate_left
    · (intro wq hSw; (try dsimp only at hSw); (try simp only [List.getElem_toArray, List.getElem_cons_succ, List.getElem_cons_zero]); go_simp); try with_reducible rfl
    try simp only [List.getElem_toArray, List.getElem_cons_succ, List.getElem_cons_zero, Act.put, List.setIfInBounds_toArray, List.set_cons_zero, List.set_cons_succ]
    refine wpAnyH_take (i := 13) (v := ?_) rfl (by kernel_rfl) (by kernel_rfl) (by kernel_rfl) (fun _ _ _ h => h) (Or.inl ⟨by rfl, ?_⟩) (by assumption) ?_
    rotate_left
    · (intro wq hSw; (try dsimp only at hSw); (try simp only [List.getElem_toArray, List.getElem_cons_succ, List.getElem_cons_zero]); go_simp); try with_reducible rfl
    try simp only [List.getElem_toArray, List.getElem_cons_succ, List.getElem_cons_zero, Act.put, List.setIfInBounds_toArray, List.set_cons_zero, List.set_cons_succ]
    refine wpAnyH_take (i := 14) (v := ?_) rfl (by kernel_rfl) (by kernel_rfl) (by kernel_rfl) (fun _ _ _ h => h) (Or.inl ⟨by rfl, ?_⟩) (by assumption) ?_
    rotate_left
    · (intro wq hSw; (try dsimp only at hSw); (try simp only [List.getElem_toArray, List.getElem_cons_succ, List.getElem_cons_zero]); go_simp); try with_reducible rfl
    try simp only [List.getElem_toArray, List.getElem_cons_succ, List.getElem_cons_zero, Act.put, List.setIfInBounds_toArray, List.set_cons_zero, List.set_cons_succ]
    refine wpAnyH_take (i := 15) (v := ?_) rfl (by kernel_rfl) (by kernel_rfl) (by kernel_rfl) (fun _ _ _ h => h) (Or.inl ⟨by rfl, ?_⟩) (by assumption) ?_
    rotate_left
    · (intro wq hSw; (try dsimp only at hSw); (try simp only [List.getElem_toArray, List.getElem_cons_succ, List.getElem_cons_zero]); go_simp); try with_reducible rfl
    try simp only [List.getElem_toArray, List.getElem_cons_succ, List.getElem_cons_zero, Act.put, List.setIfInBounds_toArray, List.set_cons_zero, List.set_cons_succ]
    refine wpAnyH_take (i := 16) (v := ?_) rfl (by kernel_rfl) (by kernel_rfl) (by kernel_rfl) (fun _ _ _ h => h) (Or.inl ⟨by rfl, ?_⟩) (by assumption) ?_
    rotate_left
    · (intro wq hSw; (try dsimp only at hSw); (try simp only [List.getElem_toArray, List.getElem_cons_succ, List.getElem_cons_zero]); go_simp); try with_reducible rfl
    try simp only [List.getElem_toArray, List.getElem_cons_succ, List.getElem_cons_zero, Act.put, List.setIfInBounds_toArray, List.set_cons_zero, List.set_cons_succ]
    refine wpAnyH_take (i := 17) (v := ?_) rfl (by kernel_rfl) (by kernel_rfl) (by kernel_rfl) (fun _ _ _ h => h) (Or.inl ⟨by rfl, ?_⟩) (by assumption) ?_
    rotate_left
    · (intro wq hSw; (try dsimp only at hSw); (try simp only [List.getElem_toArray, List.getElem_cons_succ, List.getElem_cons_zero]); go_simp); try with_reducible rfl
    try simp only [List.getElem_toArray, List.getElem_cons_succ, List.getElem_cons_zero, Act.put, List.setIfInBounds_toArray, List.set_cons_zero, List.set_cons_succ]
    refine wpAnyH_take (i := 18) (v := ?_) rfl (by kernel_rfl) (by kernel_rfl) (by kernel_rfl) (fun _ _ _ h => h) (Or.inl ⟨by rfl, ?_⟩) (by assumption) ?_
    rotate_left
    · (intro wq hSw; (try dsimp only at hSw); (try simp only [List.getElem_toArray, List.getElem_cons_succ, List.getElem_cons_zero]); go_simp); try with_reducible rfl
    try simp only [List.getElem_toArray, List.getElem_cons_succ, List.getElem_cons_zero, Act.put, List.setIfInBounds_toArray, List.set_cons_zero, List.set_cons_succ]
    refine wpAnyH_ready (rs := [9]) (by kernel_rfl) (by simp) ?_
    refine AllReadyH.cons rfl (fun K hK => ?_) AllReadyH.nil
    try simp only [List.getElem_toArray, List.getElem_cons_succ, List.getElem_cons_zero]
    go_simp
    obtain ⟨va, Fa, pa, hBa⟩ := (H0.out.later (Below.refl _ _).drew).da
    refine (arot_out (Lib.hid hBa) (by omega) d (by omega) z off mask).mono ?_
    rintro e w1 ⟨rfl, t1⟩
    have H1 := Lib.hid ((H0.out.later (Below.refl _ _).drew).later t1)
    have X1 := Lib.hid ((X0.out.below (Below.refl _ _).drew).below t1)
    clear hBa
    clear q1 q2 q3 q5
    have q1 : w1.cell? ⟨w.heap.size, 1, none⟩ = some (.int .i64 d) := X1.out.cell 1
    have q2 : w1.cell? ⟨w.heap.size, 2, none⟩ = some (.int .i64 z) := X1.out.cell 2
    have q3 : w1.cell? ⟨w.heap.size, 3, none⟩ = some (.int .i64 off) := X1.out.cell 3
    have q5 : w1.cell? ⟨w.heap.size, 5, none⟩ = some (.int .u32 mask) := X1.out.cell 5
    try (go_wp2_with fail)
    refine hK.out _ _ (by exact ⟨q1, q2, q3, q5⟩) (fun hHeld => ?_)
    clear hK K
    try simp only [List.getElem_toArray, List.getElem_cons_succ, List.getElem_cons_zero, Act.put, List.setIfInBounds_toArray, List.set_cons_zero, List.set_cons_succ]
    refine wpAnyH_ready (rs := [19]) (by kernel_rfl) (by simp) ?_
    refine AllReadyH.cons rfl (fun K hK => ?_) AllReadyH.nil
    try simp only [List.getElem_toArray, List.getElem_cons_succ, List.getElem_cons_zero]
    go_simp
    obtain ⟨vr, Fr, pr, hBr⟩ := H1.out.dr
    refine (rarot_out (Lib.hid hBr) d (by omega) z off mask).mono ?_
    rintro e w2 ⟨rfl, t2⟩
    have HZ := Lib.hid (H1.out.later t2)
    have X2 := Lib.hid (X1.out.below t2)
    clear hBr
    clear q1 q2 q3 q5
    have q1 : w2.cell? ⟨w.heap.size, 1, none⟩ = some (.int .i64 d) := X2.out.cell 1
    have q2 : w2.cell? ⟨w.heap.size, 2, none⟩ = some (.int .i64 z) := X2.out.cell 2
    have q3 : w2.cell? ⟨w.heap.size, 3, none⟩ = some (.int .i64 off) := X2.out.cell 3
    have q5 : w2.cell? ⟨w.heap.size, 5, none⟩ = some (.int .u32 mask) := X2.out.cell 5
    try (go_wp2_with fail)
    refine hK.out _ _ (by exact ⟨q1, q2, q3, q5⟩) (fun hHeld => ?_)
    clear hK K
    try simp only [List.getElem_toArray, List.getElem_cons_succ, List.getElem_cons_zero, Act.put, List.setIfInBounds_toArray, List.set_cons_zero, List.set_cons_succ]
    refine wpAnyH_take (i := 20) (v := ?_) rfl (by kernel_rfl) (by kernel_rfl) (by kernel_rfl) (fun _ _ _ h => h) (Or.inl ⟨by rfl, ?_⟩) (by assumption) ?_
    rotate_left
    · (intro wq hSw; (try dsimp only at hSw); (try simp only [List.getElem_toArray, List.getElem_cons_succ, List.getElem_cons_zero]); go_simp); try with_reducible rfl
    try simp only [List.getElem_toArray, List.getElem_cons_succ, List.getElem_cons_zero, Act.put, List.setIfInBounds_toArray, List.set_cons_zero, List.set_cons_succ]
    refine wpAnyH_take (i := 21) (v := ?_) rfl (by kernel_rfl) (by kernel_rfl) (by kernel_rfl) (fun _ _ _ h => h) (Or.inl ⟨by rfl, ?_⟩) (by assumption) ?_
    rotate_left
    · (intro wq hSw; (try dsimp only at hSw); (try simp only [List.getElem_toArray, List.getElem_cons_succ, List.getElem_cons_zero]); go_simp); try with_reducible rfl
    try simp only [List.getElem_toArray, List.getElem_cons_succ, List.getElem_cons_zero, Act.put, List.setIfInBounds_toArray, List.set_cons_zero, List.set_cons_succ]
    refine wpAnyH_done (by kernel_rfl) ?_ _
    go_wp2_with fail
    go_ret
    exact ⟨rfl, U, V, sa, ra, HZ.out.twin h.out.out_⟩

set_option maxRecDepth 100000 in
set_option maxHeartbeats 8000000 in
theorem act10_write0 {w0 : World} {U V : Nat → Prop} {w : World} {a x n s t : Nat} {sa : List DSt} {ra : List RSt} (h : Hid (Twin w0 U V w a x n s t sa ra)) (hn : 0 < n) (hn2 : n ≤ 255) (ht : t < 1000) {KA : Option Addr} {km kc : Nat} {ks : List (List Bool)} (hk : Hid (RdL BoolsR 1 (fun b => b < w0.heap.size) w KA km ks)) (d z off c mask : Int) :
    Calls Try.prog 47 #[.pointer (some ⟨a, 0, none⟩), .pointer (some ⟨x, 0, none⟩), .agg #[.int .i64 0, .int .i64 d, .int .i64 z, .int .i64 off, .int .u8 c, .int .u32 mask, .slice KA km kc]] w fun e w' => e = .returned (.bool true) ∧ Went w0 w' a x n s (t + 1) := by
  have b0 : Below w.heap.size w (w.alloc (.cells #[.int .i64 0, .int .i64 d, .int .i64 z, .int .i64 off, .int .u8 c, .int .u32 mask, .slice KA km kc] 75)) := (Below.refl _ _).alloc (Nat.le_refl _) _
  have X0 := Lib.hid (BoxAt.new w #[.int .i64 0, .int .i64 d, .int .i64 z, .int .i64 off, .int .u8 c, .int .u32 mask, .slice KA km kc] 75)
  obtain ⟨wA, hwA⟩ : ∃ wA, w.alloc (.cells #[.int .i64 0, .int .i64 d, .int .i64 z, .int .i64 off, .int .u8 c, .int .u32 mask, .slice KA km kc] 75) = wA := ⟨_, rfl⟩
  rw [hwA] at b0 X0
  have H0 := Lib.hid (h.out.half.later b0)
  have INV := Lib.hid h.out.inv
  have hla : sa.length = n := INV.out.la
  have hlr : ra.length = n := INV.out.lr
  have nU : ¬ U w.heap.size := fun hu => by have := h.out.da.lt hu; omega
  have nV : ¬ V w.heap.size := fun hu => by have := h.out.dr.lt hu; omega
  have hcA := Lib.hid (INV.out.cache (by omega))
  have hgR := Lib.hid (INV.out.good (by omega))
  have hokA := Lib.hid h.out.da.ok
  have RK := Lib.hid (hk.out.below BoolsR.stable b0)
  have hws : w0.heap.size ≤ w.heap.size := h.out.below.size
  have nUV : ∀ b, b < w0.heap.size → ¬ U b ∧ ¬ V b := fun b hb => ⟨fun hu => by have := h.out.u1 b hu; omega, fun hv => by have := h.out.v1 b hv; omega⟩
  have NUV := Lib.hid nUV
  have q0 : wA.cell? ⟨w.heap.size, 0, none⟩ = some (.int .i64 0) := X0.out.cell 0
  have q1 : wA.cell? ⟨w.heap.size, 1, none⟩ = some (.int .i64 d) := X0.out.cell 1
  have q2 : wA.cell? ⟨w.heap.size, 2, none⟩ = some (.int .i64 z) := X0.out.cell 2
  have q3 : wA.cell? ⟨w.heap.size, 3, none⟩ = some (.int .i64 off) := X0.out.cell 3
  have q4 : wA.cell? ⟨w.heap.size, 4, none⟩ = some (.int .u8 c) := X0.out.cell 4
  have q5 : wA.cell? ⟨w.heap.size, 5, none⟩ = some (.int .u32 mask) := X0.out.cell 5
  have q6 : wA.cell? ⟨w.heap.size, 6, none⟩ = some (.slice KA km kc) := X0.out.cell 6
  clear b0 nUV
  go_enter Try.func47, Try.ntmps47
  clear q3 q5 q6
  by_cases hd : 0 ≤ d ∧ d < n
  · obtain ⟨k, rfl⟩ : ∃ k : Nat, d = k := ⟨d.toNat, by omega⟩
    have hdn : k < n := by omega
    obtain ⟨st, rs, hsa, hra, SM, hsz, hrg⟩ := INV.out.at_ hdn
    have HSM := Lib.hid SM
    have HFT := Lib.hid (show Fit s t rs from ⟨hrg, hsz⟩)
    have HSA := Lib.hid hsa
    have HRA := Lib.hid hra
    have hcst := hcA.out st (List.mem_of_getElem? hsa)
    have hgd := hgR.out rs (List.mem_of_getElem? hra)
    have hok := hokA.out st (List.mem_of_getElem? hsa)
    clear SM hsz hrg hsa hra hd
    have HW := Lib.hid (show writeE st.dead s z (rep c).length = writeE rs.gone s z (rep c).length by rw [HSM.out.dead])
    go_wp2_with fail
    clear q0
    refine wp_region_held_drew (S := fun w' => w'.cell? ⟨w.heap.size, 1, none⟩ = some (.int .i64 (k : Int)) ∧ w'.cell? ⟨w.heap.size, 2, none⟩ = some (.int .i64 z) ∧ w'.cell? ⟨w.heap.size, 4, none⟩ = some (.int .u8 c)) (by kernel_rfl) (by exact ⟨q1, q2, q4⟩) (fun hHeld => ?_)
    refine wpAnyH_take (i := 0) (v := ?_) rfl (by kernel_rfl) (by kernel_rfl) (by kernel_rfl) (fun _ _ _ h => h) (Or.inl ⟨by rfl, ?_⟩) (by assumption) ?_
    rotate_left
    · (intro wq hSw; (try dsimp only at hSw); (try simp only [List.getElem_toArray, List.getElem_cons_succ, List.getElem_cons_zero]); go_simp); try with_reducible rfl
    try simp only [List.getElem_toArray, List.getElem_cons_succ, List.getElem_cons_zero, Act.put, List.setIfInBounds_toArray, List.set_cons_zero, List.set_cons_succ]
    refine wpAnyH_take (i := 1) (v := ?_) rfl (by kernel_rfl) (by kernel_rfl) (by kernel_rfl) (fun _ _ _ h => h) (Or.inl ⟨by rfl, ?_⟩) (by assumption) ?_
    rotate_left
    · (intro wq hSw; (try dsimp only at hSw); (try simp only [List.getElem_toArray, List.getElem_cons_succ, List.getElem_cons_zero]); go_simp); try with_reducible rfl
    try simp only [List.getElem_toArray, List.getElem_cons_succ, List.getElem_cons_zero, Act.put, List.setIfInBounds_toArray, List.set_cons_zero, List.set_cons_succ]
    refine wpAnyH_take (i := 2) (v := ?_) rfl (by kernel_rfl) (by kernel_rfl) (by kernel_rfl) (fun _ _ _ h => h) (Or.inl ⟨by rfl, ?_⟩) (by assumption) ?_
    rotate_left
    · (intro wq hSw; (try dsimp only at hSw); (try simp only [List.getElem_toArray, List.getElem_cons_succ, List.getElem_cons_zero]); go_simp); try with_reducible rfl
    try simp only [List.getElem_toArray, List.getElem_cons_succ, List.getElem_cons_zero, Act.put, List.setIfInBounds_toArray, List.set_cons_zero, List.set_cons_succ]
    refine wpAnyH_take (i := 3) (v := ?_) rfl (by kernel_rfl) (by kernel_rfl) (by kernel_rfl) (fun _ _ _ h => h) (Or.inl ⟨by rfl, ?_⟩) (by assumption) ?_
    rotate_left
    · (intro wq hSw; (try dsimp only at hSw); (try simp only [List.getElem_toArray, List.getElem_cons_succ, List.getElem_cons_zero]); go_simp); try with_reducible rfl
    try simp only [List.getElem_toArray, List.getElem_cons_succ, List.getElem_cons_zero, Act.put, List.setIfInBounds_toArray, List.set_cons_zero, List.set_cons_succ]
    refine wpAnyH_take (i := 4) (v := ?_) rfl (by kernel_rfl) (by kernel_rfl) (by kernel_rfl) (fun _ _ _ h => h) (Or.inl ⟨by rfl, ?_⟩) (by assumption) ?_
    rotate_left
    · (intro wq hSw; (try dsimp only at hSw); (try simp only [List.getElem_toArray, List.getElem_cons_succ, List.getElem_cons_zero]); go_simp); try with_reducible rfl
    try simp only [List.getElem_toArray, List.getElem_cons_succ, List.getElem_cons_zero, Act.put, List.setIfInBounds_toArray, List.set_cons_zero, List.set_cons_succ]
    refine wpAnyH_take (i := 5) (v := ?_) rfl (by kernel_rfl) (by kernel_rfl) (by kernel_rfl) (fun _ _ _ h => h) (Or.inl ⟨by rfl, ?_⟩) (by assumption) ?_
    rotate_left
    · (intro wq hSw; (try dsimp only at hSw); (try simp only [List.getElem_toArray, List.getElem_cons_succ, List.getElem_cons_zero]); go_simp); try with_reducible rfl
    try simp only [List.getElem_toArray, List.getElem_cons_succ, List.getElem_cons_zero, Act.put, List.setIfInBounds_toArray, List.set_cons_zero, List.set_cons_succ]
    refine wpAnyH_take (i := 6) (v := ?_) rfl (by kernel_rfl) (by kernel_rfl) (by kernel_rfl) (fun _ _ _ h => h) (Or.inl ⟨by rfl, ?_⟩) (by assumption) ?_
    rotate_left
    · (intro wq hSw; (try dsimp only at hSw); (try simp only [List.getElem_toArray, List.getElem_cons_succ, List.getElem_cons_zero]); go_simp); try with_reducible rfl
    try simp only [List.getElem_toArray, List.getElem_cons_succ, List.getElem_cons_zero, Act.put, List.setIfInBounds_toArray, List.set_cons_zero, List.set_cons_succ]
    refine wpAnyH_take (i := 9) (v := ?_) rfl (by kernel_rfl) (by kernel_rfl) (by kernel_rfl) (fun _ _ _ h => h) (Or.inl ⟨by rfl, ?_⟩) (by assumption) ?_
    rotate_left
    · (intro wq hSw; (try dsimp only at hSw); (try simp only [List.getElem_toArray, List.getElem_cons_succ, List.getElem_cons_zero]); go_simp); try with_reducible rfl
    try simp only [List.getElem_toArray, List.getElem_cons_succ, List.getElem_cons_zero, Act.put, List.setIfInBounds_toArray, List.set_cons_zero, List.set_cons_succ]
    refine wpAnyH_take (i := 10) (v := ?_) rfl (by kernel_rfl) (by kernel_rfl) (by kernel_rfl) (fun _ _ _ h => h) (Or.inl ⟨by rfl, ?_⟩) (by assumption) ?_
    rotate_left
    · (intro wq hSw; (try dsimp only at hSw); (try simp only [List.getElem_toArray, List.getElem_cons_succ, List.getElem_cons_zero]); go_simp); try with_reducible rfl
    try simp only [List.getElem_toArray, List.getElem_cons_succ, List.getElem_cons_zero, Act.put, List.setIfInBounds_toArray, List.set_cons_zero, List.set_cons_succ]
    refine wpAnyH_take (i := 11) (v := ?_) rfl (by kernel_rfl) (by kernel_rfl) (by kernel_rfl) (fun _ _ _ h => h) (Or.inl ⟨by rfl, ?_⟩) (by assumption) ?_
    rotate_left
    · (intro wq hSw; (try dsimp only at hSw); (try simp only [List.getElem_toArray, List.getElem_cons_succ, List.getElem_cons_zero]); go_simp); try with_reducible rfl
    try simp only [List.getElem_toArray, List.getElem_cons_succ, List.getElem_cons_zero, Act.put, List.setIfInBounds_toArray, List.set_cons_zero, List.set_cons_succ]
    refine wpAnyH_take (i := 12) (v := ?_) rfl (by kernel_rfl) (by kernel_rfl) (by kernel_rfl) (fun _ _ _ h => h) (Or.inl ⟨by rfl, ?_⟩) (by assumption) ?_
    rotate_left
    · (intro wq hSw; (try dsimp only at hSw); (try simp only [List.getElem_toArray, List.getElem_cons_succ, List.getElem_cons_zero]); go_simp); try with_reducible rfl
    try simp only [List.getElem_toArray, List.getElem_cons_succ, List.getElem_cons_zero, Act.put, List.setIfInBounds_toArray, List.set_cons_zero, List.set_cons_succ]
    refine wpAnyH_take (i := 13) (v := ?_) rfl (by kernel_rfl) (by kernel_rfl) (by kernel_rfl) (fun _ _ _ h => h) (Or.inl ⟨by rfl, ?_⟩) (by assumption) ?_
    rotate_left
    · (intro wq hSw; (try dsimp only at hSw); (try simp only [List.getElem_toArray, List.getElem_cons_succ, List.getElem_cons_zero]); go_simp); try with_reducible rfl
    try simp only [List.getElem_toArray, List.getElem_cons_succ, List.getElem_cons_zero, Act.put, List.setIfInBounds_toArray, List.set_cons_zero, List.set_cons_succ]
    refine wpAnyH_take (i := 14) (v := ?_) rfl (by kernel_rfl) (by kernel_rfl) (by kernel_rfl) (fun _ _ _ h => h) (Or.inl ⟨by rfl, ?_⟩) (by assumption) ?_
    rotate_left
    · (intro wq hSw; (try dsimp only at hSw); (try simp only [List.getElem_toArray, List.getElem_cons_succ, List.getElem_cons_zero]); go_simp); try with_reducible rfl
    try simp only [List.getElem_toArray, List.getElem_cons_succ, List.getElem_cons_zero, Act.put, List.setIfInBounds_toArray, List.set_cons_zero, List.set_cons_succ]
    refine wpAnyH_take (i := 15) (v := ?_) rfl (by kernel_rfl) (by kernel_rfl) (by kernel_rfl) (fun _ _ _ h => h) (Or.inl ⟨by rfl, ?_⟩) (by assumption) ?_
    rotate_left
    · (intro wq hSw; (try dsimp only at hSw); (try simp only [List.getElem_toArray, List.getElem_cons_succ, List.getElem_cons_zero]); go_simp); try with_reducible rfl
    try simp only [List.getElem_toArray, List.getElem_cons_succ, List.getElem_cons_zero, Act.put, List.setIfInBounds_toArray, List.set_cons_zero, List.set_cons_succ]
    refine wpAnyH_ready (rs := [7]) (by kernel_rfl) (by simp) ?_
    refine AllReadyH.cons rfl (fun K hK => ?_) AllReadyH.nil
    try simp only [List.getElem_toArray, List.getElem_cons_succ, List.getElem_cons_zero]
    go_simp
    refine (full_box c _).mono ?_
    rintro e w5 ⟨b5, rfl, l5, Q5, t5⟩
    have H5 := Lib.hid ((H0.out.later (Below.refl _ _).drew).later t5)
    have X5 := Lib.hid ((X0.out.below (Below.refl _ _).drew).below t5)
    have Q5 := Lib.hid Q5
    clear q1 q2 q4
    have q1 : w5.cell? ⟨w.heap.size, 1, none⟩ = some (.int .i64 (k : Int)) := X5.out.cell 1
    have q2 : w5.cell? ⟨w.heap.size, 2, none⟩ = some (.int .i64 z) := X5.out.cell 2
    have q4 : w5.cell? ⟨w.heap.size, 4, none⟩ = some (.int .u8 c) := X5.out.cell 4
    try (go_wp2_with fail)
    refine hK.out _ _ (by exact ⟨q1, q2, q4⟩) (fun hHeld => ?_)
    clear hK K
    try simp only [List.getElem_toArray, List.getElem_cons_succ, List.getElem_cons_zero, Act.put, List.setIfInBounds_toArray, List.set_cons_zero, List.set_cons_succ]
    refine wpAnyH_ready (rs := [8]) (by kernel_rfl) (by simp) ?_
    refine AllReadyH.cons rfl (fun K hK => ?_) AllReadyH.nil
    try simp only [List.getElem_toArray, List.getElem_cons_succ, List.getElem_cons_zero]
    go_simp
    obtain ⟨va, Fa, pa, hBa⟩ := H5.out.da
    refine (awrite_in (Lib.hid hBa) k HSA.out z (S := (· = b5)) (Lib.hid (Q5.out.bytes (S := (· = b5)) rfl)) (by rintro b rfl hu; have h1 := H0.out.da.lt hu; have h2 := l5; simp only [World.size_drew] at h2; omega) hcst).mono ?_
    rintro e w1 ⟨rfl, u1⟩
    obtain ⟨U1, H1, K1⟩ := H5.out.updA u1
    have H1 := Lib.hid H1
    have X1 := Lib.hid (X5.out.keeps K1 nU)
    clear hBa
    clear q1 q2 q4
    have q1 : w1.cell? ⟨w.heap.size, 1, none⟩ = some (.int .i64 (k : Int)) := X1.out.cell 1
    have q2 : w1.cell? ⟨w.heap.size, 2, none⟩ = some (.int .i64 z) := X1.out.cell 2
    have q4 : w1.cell? ⟨w.heap.size, 4, none⟩ = some (.int .u8 c) := X1.out.cell 4
    rw [HW.out]
    try (go_wp2_with fail)
    refine hK.out _ _ (by exact ⟨q1, q2, q4⟩) (fun hHeld => ?_)
    clear hK K
    try simp only [List.getElem_toArray, List.getElem_cons_succ, List.getElem_cons_zero, Act.put, List.setIfInBounds_toArray, List.set_cons_zero, List.set_cons_succ]
    refine wpAnyH_ready (rs := [16]) (by kernel_rfl) (by simp) ?_
    refine AllReadyH.cons rfl (fun K hK => ?_) AllReadyH.nil
    try simp only [List.getElem_toArray, List.getElem_cons_succ, List.getElem_cons_zero]
    go_simp
    refine (full_box c _).mono ?_
    rintro e w6 ⟨b6, rfl, l6, Q6, t6⟩
    have H6 := Lib.hid (H1.out.later t6)
    have X6 := Lib.hid (X1.out.below t6)
    have Q6 := Lib.hid Q6
    clear q1 q2 q4
    have q1 : w6.cell? ⟨w.heap.size, 1, none⟩ = some (.int .i64 (k : Int)) := X6.out.cell 1
    have q2 : w6.cell? ⟨w.heap.size, 2, none⟩ = some (.int .i64 z) := X6.out.cell 2
    have q4 : w6.cell? ⟨w.heap.size, 4, none⟩ = some (.int .u8 c) := X6.out.cell 4
    try (go_wp2_with fail)
    refine hK.out _ _ (by exact ⟨q1, q2, q4⟩) (fun hHeld => ?_)
    clear hK K
    try simp only [List.getElem_toArray, List.getElem_cons_succ, List.getElem_cons_zero, Act.put, List.setIfInBounds_toArray, List.set_cons_zero, List.set_cons_succ]
    refine wpAnyH_ready (rs := [17]) (by kernel_rfl) (by simp) ?_
    refine AllReadyH.cons rfl (fun K hK => ?_) AllReadyH.nil
    try simp only [List.getElem_toArray, List.getElem_cons_succ, List.getElem_cons_zero]
    go_simp
    obtain ⟨vr, Fr, pr, hBr⟩ := H6.out.dr
    refine (rawrite_in (Lib.hid hBr) k HRA.out hgd z (S := (· = b6)) (Lib.hid (Q6.out.bytes (S := (· = b6)) rfl))).mono ?_
    rintro e w2 ⟨rfl, u2⟩
    obtain ⟨V2, H2, K2⟩ := H6.out.updR u2
    have H2 := Lib.hid H2
    have X2 := Lib.hid (X6.out.keeps K2 nV)
    clear hBr
    clear q1 q2 q4
    have q1 : w2.cell? ⟨w.heap.size, 1, none⟩ = some (.int .i64 (k : Int)) := X2.out.cell 1
    have q2 : w2.cell? ⟨w.heap.size, 2, none⟩ = some (.int .i64 z) := X2.out.cell 2
    have q4 : w2.cell? ⟨w.heap.size, 4, none⟩ = some (.int .u8 c) := X2.out.cell 4
    try (go_wp2_with fail)
    refine hK.out _ _ (by exact ⟨q1, q2, q4⟩) (fun hHeld => ?_)
    clear hK K
    try simp only [List.getElem_toArray, List.getElem_cons_succ, List.getElem_cons_zero, Act.put, List.setIfInBounds_toArray, List.set_cons_zero, List.set_cons_succ]
    refine wpAnyH_take (i := 18) (v := ?_) rfl (by kernel_rfl) (by kernel_rfl) (by kernel_rfl) (fun _ _ _ h => h) (Or.inl ⟨by rfl, ?_⟩) (by assumption) ?_
    rotate_left
    · (intro wq hSw; (try dsimp only at hSw); (try simp only [List.getElem_toArray, List.getElem_cons_succ, List.getElem_cons_zero]); go_simp); try with_reducible rfl
    try simp only [List.getElem_toArray, List.getElem_cons_succ, List.getElem_cons_zero, Act.put, List.setIfInBounds_toArray, List.set_cons_zero, List.set_cons_succ]
    refine wpAnyH_take (i := 19) (v := ?_) rfl (by kernel_rfl) (by kernel_rfl) (by kernel_rfl) (fun _ _ _ h => h) (Or.inl ⟨by rfl, ?_⟩) (by assumption) ?_
    rotate_left
    · (intro wq hSw; (try dsimp only at hSw); (try simp only [List.getElem_toArray, List.getElem_cons_succ, List.getElem_cons_zero]); go_simp); try with_reducible rfl
    try simp only [List.getElem_toArray, List.getElem_cons_succ, List.getElem_cons_zero, Act.put, List.setIfInBounds_toArray, List.set_cons_zero, List.set_cons_succ]
    refine wpAnyH_done (by kernel_rfl) ?_ _
    go_wp2_with fail
    go_ret
    exact ⟨rfl, U1, V2, _, _, H2.out.twin (INV.out.set (HSM.out.write z (rep c)) (HFT.out.write z (rep c)))⟩
  · go_wp2_with fail
    clear q0
    refine wp_region_held_drew (S := fun w' => w'.cell? ⟨w.heap.size, 1, none⟩ = some (.int .i64 d) ∧ w'.cell? ⟨w.heap.size, 2, none⟩ = some (.int .i64 z) ∧ w'.cell? ⟨w.heap.size, 4, none⟩ = some (.int .u8 c)) (by kernel_rfl) (by exact ⟨q1, q2, q4⟩) (fun hHeld => ?_)
    refine wpAnyH_take (i := 0) (v := ?_) rfl (by kernel_rfl) (by kernel_rfl) (by kernel_rfl) (fun _ _ _ h => h) (Or.inl ⟨by rfl, ?_⟩) (by assumption) ?_
    rotate_left
    · (intro wq hSw; (try dsimp only at hSw); (try simp only [List.getElem_toArray, List.getElem_cons_succ, List.getElem_cons_zero]); go_simp); try with_reducible rfl
    try simp only [List.getElem_toArray, List.getElem_cons_succ, List.getElem_cons_zero, Act.put, List.setIfInBounds_toArray, List.set_cons_zero, List.set_cons_succ]
    refine wpAnyH_take (i := 1) (v := ?_) rfl (by kernel_rfl) (by kernel_rfl) (by kernel_rfl) (fun _ _ _ h => h) (Or.inl ⟨by rfl, ?_⟩) (by assumption) ?_
    rotate_left
    · (intro wq hSw; (try dsimp only at hSw); (try simp only [List.getElem_toArray, List.getElem_cons_succ, List.getElem_cons_zero]); go_simp); try with_reducible rfl
    try simp only [List.getElem_toArray, List.getElem_cons_succ, List.getElem_cons_zero, Act.put, List.setIfInBounds_toArray, List.set_cons_zero, List.set_cons_succ]
    refine wpAnyH_take (i := 2) (v := ?_) rfl (by kernel_rfl) (by kernel_rfl) (by kernel_rfl) (fun _ _ _ h => h) (Or.inl ⟨by rfl, ?_⟩) (by assumption) ?_
    rotate_left
    · (intro wq hSw; (try dsimp only at hSw); (try simp only [List.getElem_toArray, List.getElem_cons_succ, List.getElem_cons_zero]); go_simp); try with_reducible rfl
    try simp only [List.getElem_toArray, List.getElem_cons_succ, List.getElem_cons_zero, Act.put, List.setIfInBounds_toArray, List.set_cons_zero, List.set_cons_succ]
    refine wpAnyH_take (i := 3) (v := ?_) rfl (by kernel_rfl) (by kernel_rfl) (by kernel_rfl) (fun _ _ _ h => h) (Or.inl ⟨by rfl, ?_⟩) (by assumption) ?_
    rotate_left
    · (intro wq hSw; (try dsimp only at hSw); (try simp only [List.getElem_toArray, List.getElem_cons_succ, List.getElem_cons_zero]); go_simp); try with_reducible rfl
    try simp only [List.getElem_toArray, List.getElem_cons_succ, List.getElem_cons_zero, Act.put, List.setIfInBounds_toArray, List.set_cons_zero, List.set_cons_succ]
    refine wpAnyH_take (i := 4) (v := ?_) rfl (by kernel_rfl) (by kernel_rfl) (by kernel_rfl) (fun _ _ _ h => h) (Or.inl ⟨by rfl, ?_⟩) (by assumption) ?_
    rotate_left
    · (intro wq hSw; (try dsimp only at hSw); (try simp only [List.getElem_toArray, List.getElem_cons_succ, List.getElem_cons_zero]); go_simp); try with_reducible rfl
    try simp only [List.getElem_toArray, List.getElem_cons_succ, List.getElem_cons_zero, Act.put, List.setIfInBounds_toArray, List.set_cons_zero, List.set_cons_succ]
    refine wpAnyH_take (i := 5) (v := ?_) rfl (by kernel_rfl) (by kernel_rfl) (by kernel_rfl) (fun _ _ _ h => h) (Or.inl ⟨by rfl, ?_⟩) (by assumption) ?_
    rotate_left
    · (intro wq hSw; (try dsimp only at hSw); (try simp only [List.getElem_toArray, List.getElem_cons_succ, List.getElem_cons_zero]); go_simp); try with_reducible rfl
    try simp only [List.getElem_toArray, List.getElem_cons_succ, List.getElem_cons_zero, Act.put, List.setIfInBounds_toArray, List.set_cons_zero, List.set_cons_succ]
    refine wpAnyH_take (i := 6) (v := ?_) rfl (by kernel_rfl) (by kernel_rfl) (by kernel_rfl) (fun _ _ _ h => h) (Or.inl ⟨by rfl, ?_⟩) (by assumption) ?_
    rotate_left
    · (intro wq hSw; (try dsimp only at hSw); (try simp only [List.getElem_toArray, List.getElem_cons_succ, List.getElem_cons_zero]); go_simp); try with_reducible rfl
    try simp only [List.getElem_toArray, List.getElem_cons_succ, List.getElem_cons_zero, Act.put, List.setIfInBounds_toArray, List.set_cons_zero, List.set_cons_succ]
    refine wpAnyH_take (i := 9) (v := ?_) rfl (by kernel_rfl) (by kernel_rfl) (by kernel_rfl) (fun _ _ _ h => h) (Or.inl ⟨by rfl, ?_⟩) (by assumption) ?_
    rotate_left
    · (intro wq hSw; (try dsimp only at hSw); (try simp only [List.getElem_toArray, List.getElem_cons_succ, List.getElem_cons_zero]); go_simp); try with_reducible rfl
    try simp only [List.getElem_toArray, List.getElem_cons_succ, List.getElem_cons_zero, Act.put, List.setIfInBounds_toArray, List.set_cons_zero, List.set_cons_succ]
    refine wpAnyH_take (i := 10) (v := ?_) rfl (by kernel_rfl) (by kernel_rfl) (by kernel_rfl) (fun _ _ _ h => h) (Or.inl ⟨by rfl, ?_⟩) (by assumption) ?_
    rotate_left
    · (intro wq hSw; (try dsimp only at hSw); (try simp only [List.getElem_toArray, List.getElem_cons_succ, List.getElem_cons_zero]); go_simp); try with_reducible rfl
    try simp only [List.getElem_toArray, List.getElem_cons_succ, List.getElem_cons_zero, Act.put, List.setIfInBounds_toArray, List.set_cons_zero, List.set_cons_succ]
    refine wpAnyH_take (i := 11) (v := ?_) rfl (by kernel_rfl) (by kernel_rfl) (by kernel_rfl) (fun _ _ _ h => h) (Or.inl ⟨by rfl, ?_⟩) (by assumption) ?_
    rotate_left
    · (intro wq hSw; (try dsimp only at hSw); (try simp only [List.getElem_toArray, List.getElem_cons_succ, List.getElem_cons_zero]); go_simp); try with_reducible rfl
    try simp only [List.getElem_toArray, List.getElem_cons_succ, List.getElem_cons_zero, Act.put, List.setIfInBounds_toArray, List.set_cons_zero, List.set_cons_succ]
    refine wpAnyH_take (i := 12) (v := ?_) rfl (by kernel_rfl) (by kernel_rfl) (by kernel_rfl) (fun _ _ _ h => h) (Or.inl ⟨by rfl, ?_⟩) (by assumption) ?_
    rotate_left
    · (intro wq hSw; (try dsimp only at hSw); (try simp only [List.getElem_toArray, List.getElem_cons_succ, List.getElem_cons_zero]); go_simp); try with_reducible rfl
    try simp only [List.getElem_toArray, List.getElem_cons_succ, List.getElem_cons_zero, Act.put, List.setIfInBounds_toArray, List.set_cons_zero, List.set_cons_succ]
    refine wpAnyH_take (i := 13) (v := ?_) rfl (by kernel_rfl) (by kernel_rfl) (by kernel_rfl) (fun _ _ _ h => h) (Or.inl ⟨by rfl, ?_⟩) (by assumption) ?_
    rotate_left
    · (intro wq hSw; (try dsimp only at hSw); (try simp only [List.getElem_toArray, List.getElem_cons_succ, List.getElem_cons_zero]); go_simp); try with_reducible rfl
    try simp only [List.getElem_toArray, List.getElem_cons_succ, List.getElem_cons_zero, Act.put, List.setIfInBounds_toArray, List.set_cons_zero, List.set_cons_succ]
    refine wpAnyH_take (i := 14) (v := ?_) rfl (by kernel_rfl) (by kernel_rfl) (by kernel_rfl) (fun _ _ _ h => h) (Or.inl ⟨by rfl, ?_⟩) (by assumption) ?_
    rotate_left
    · (intro wq hSw; (try dsimp only at hSw); (try simp only [List.getElem_toArray, List.getElem_cons_succ, List.getElem_cons_zero]); go_simp); try with_reducible rfl
    try simp only [List.getElem_toArray, List.getElem_cons_succ, List.getElem_cons_zero, Act.put, List.setIfInBounds_toArray, List.set_cons_zero, List.set_cons_succ]
    refine wpAnyH_take (i := 15) (v := ?_) rfl (by kernel_rfl) (by kernel_rfl) (by kernel_rfl) (fun _ _ _ h => h) (Or.inl ⟨by rfl, ?_⟩) (by assumption) ?_
    rotate_left
    · (intro wq hSw; (try dsimp only at hSw); (try simp only [List.getElem_toArray, List.getElem_cons_succ, List.getElem_cons_zero]); go_simp); try with_reducible rfl
    try simp only [List.getElem_toArray, List.getElem_cons_succ, List.getElem_cons_zero, Act.put, List.setIfInBounds_toArray, List.set_cons_zero, List.set_cons_succ]
    refine wpAnyH_ready (rs := [7]) (by kernel_rfl) (by simp) ?_
    refine AllReadyH.cons rfl (fun K hK => ?_) AllReadyH.nil
    try simp only [List.getElem_toArray, List.getElem_cons_succ, List.getElem_cons_zero]
    go_simp
    refine (full_box c _).mono ?_
    rintro e w5 ⟨b5, rfl, l5, Q5, t5⟩
    have H5 := Lib.hid ((H0.out.later (Below.refl _ _).drew).later t5)
    have X5 := Lib.hid ((X0.out.below (Below.refl _ _).drew).below t5)
    have Q5 := Lib.hid Q5
    clear q1 q2 q4
    have q1 : w5.cell? ⟨w.heap.size, 1, none⟩ = some (.int .i64 d) := X5.out.cell 1
    have q2 : w5.cell? ⟨w.heap.size, 2, none⟩ = some (.int .i64 z) := X5.out.cell 2
    have q4 : w5.cell? ⟨w.heap.size, 4, none⟩ = some (.int .u8 c) := X5.out.cell 4
    try (go_wp2_with fail)
    refine hK.out _ _ (by exact ⟨q1, q2, q4⟩) (fun hHeld => ?_)
    clear hK K
    try simp only [List.getElem_toArray, List.getElem_cons_succ, List.getElem_cons_zero, Act.put, List.setIfInBounds_toArray, List.set_cons_zero, List.set_cons_succ]
    refine wpAnyH_ready (rs := [8]) (by kernel_rfl) (by simp) ?_
    refine AllReadyH.cons rfl (fun K hK => ?_) AllReadyH.nil
    try simp only [List.getElem_toArray, List.getElem_cons_succ, List.getElem_cons_zero]
    go_simp
    obtain ⟨va, Fa, pa, hBa⟩ := H5.out.da
    refine (awrite_out (Lib.hid hBa) (by omega) d (by omega) z _).mono ?_
    rintro e w1 ⟨rfl, t1⟩
    have H1 := Lib.hid (H5.out.later t1)
    have X1 := Lib.hid (X5.out.below t1)
    clear hBa
    clear q1 q2 q4
    have q1 : w1.cell? ⟨w.heap.size, 1, none⟩ = some (.int .i64 d) := X1.out.cell 1
    have q2 : w1.cell? ⟨w.heap.size, 2, none⟩ = some (.int .i64 z) := X1.out.cell 2
    have q4 : w1.cell? ⟨w.heap.size, 4, none⟩ = some (.int .u8 c) := X1.out.cell 4
    try (go_wp2_with fail)
    refine hK.out _ _ (by exact ⟨q1, q2, q4⟩) (fun hHeld => ?_)
    clear hK K
    try simp only [List.getElem_toArray, List.getElem_cons_succ, List.getElem_cons_zero, Act.put, List.setIfInBounds_toArray, List.set_cons_zero, List.set_cons_succ]
    refine wpAnyH_ready (rs := [16]) (by kernel_rfl) (by simp) ?_
    refine AllReadyH.cons rfl (fun K hK => ?_) AllReadyH.nil
    try simp only [List.getElem_toArray, List.getElem_cons_succ, List.getElem_cons_zero]
    go_simp
    refine (full_box c _).mono ?_
    rintro e w6 ⟨b6, rfl, l6, Q6, t6⟩
    have H6 := Lib.hid (H1.out.later t6)
    have X6 := Lib.hid (X1.out.below t6)
    have Q6 := Lib.hid Q6
    clear q1 q2 q4
    have q1 : w6.cell? ⟨w.heap.size, 1, none⟩ = some (.int .i64 d) := X6.out.cell 1
    have q2 : w6.cell? ⟨w.heap.size, 2, none⟩ = some (.int .i64 z) := X6.out.cell 2
    have q4 : w6.cell? ⟨w.heap.size, 4, none⟩ = some (.int .u8 c) := X6.out.cell 4
    try (go_wp2_with fail)
    refine hK.out _ _ (by exact ⟨q1, q2, q4⟩) (fun hHeld => ?_)
    clear hK K
    try simp only [List.getElem_toArray, List.getElem_cons_succ, List.getElem_cons_zero, Act.put, List.setIfInBounds_toArray, List.set_cons_zero, List.set_cons_succ]
    refine wpAnyH_ready (rs := [17]) (by kernel_rfl) (by simp) ?_
    refine AllReadyH.cons rfl (fun K hK => ?_) AllReadyH.nil
    try simp only [List.getElem_toArray, List.getElem_cons_succ, List.getElem_cons_zero]
    go_simp
    obtain ⟨vr, Fr, pr, hBr⟩ := H6.out.dr
    refine (rawrite_out (Lib.hid hBr) d (by omega) z _ _ _).mono ?_
    rintro e w2 ⟨rfl, t2⟩
    have HZ := Lib.hid (H6.out.later t2)
    have X2 := Lib.hid (X6.out.below t2)
    clear hBr
    clear q1 q2 q4
    have q1 : w2.cell? ⟨w.heap.size, 1, none⟩ = some (.int .i64 d) := X2.out.cell 1
    have q2 : w2.cell? ⟨w.heap.size, 2, none⟩ = some (.int .i64 z) := X2.out.cell 2
    have q4 : w2.cell? ⟨w.heap.size, 4, none⟩ = some (.int .u8 c) := X2.out.cell 4
    try (go_wp2_with fail)
    refine hK.out _ _ (by exact ⟨q1, q2, q4⟩) (fun hHeld => ?_)
    clear hK K
    try simp only [List.getElem_toArray, List.getElem_cons_succ, List.getElem_cons_zero, Act.put, List.setIfInBounds_toArray, List.set_cons_zero, List.set_cons_succ]
    refine wpAnyH_take (i := 18) (v := ?_) rfl (by kernel_rfl) (by kernel_rfl) (by kernel_rfl) (fun _ _ _ h => h) (Or.inl ⟨by rfl, ?_⟩) (by assumption) ?_
    rotate_left
    · (intro wq hSw; (try dsimp only at hSw); (try simp only [List.getElem_toArray, List.getElem_cons_succ, List.getElem_cons_zero]); go_simp); try with_reducible rfl
    try simp only [List.getElem_toArray, List.getElem_cons_succ, List.getElem_cons_zero, Act.put, List.setIfInBounds_toArray, List.set_cons_zero, List.set_cons_succ]
    refine wpAnyH_take (i := 19) (v := ?_) rfl (by kernel_rfl) (by kernel_rfl) (by kernel_rfl) (fun _ _ _ h => h) (Or.inl ⟨by rfl, ?_⟩) (by assumption) ?_
    rotate_left
    · (intro wq hSw; (try dsimp only at hSw); (try simp only [List.getElem_toArray, List.getElem_cons_succ, List.getElem_cons_zero]); go_simp); try with_reducible rfl
    try simp only [List.getElem_toArray, List.getElem_cons_succ, List.getElem_cons_zero, Act.put, List.setIfInBounds_toArray, List.set_cons_zero, List.set_cons_succ]
    refine wpAnyH_done (by kernel_rfl) ?_ _
    go_wp2_with fail
    go_ret
    exact ⟨rfl, U, V, sa, ra, HZ.out.twin h.out.out_⟩

set_option maxRecDepth 100000 in
set_option maxHeartbeats 8000000 in
theorem act10_write1 {w0 : World} {U V : Nat → Prop} {w : World} {a x n s t : Nat} {sa : List DSt} {ra : List RSt} (h : Hid (Twin w0 U V w a x n s t sa ra)) (hn : 0 < n) (hn2 : n ≤ 255) (ht : t < 1000) {KA : Option Addr} {km kc : Nat} {ks : List (List Bool)} (hk : Hid (RdL BoolsR 1 (fun b => b < w0.heap.size) w KA km ks)) (d z off c mask : Int) :
    Calls Try.prog 47 #[.pointer (some ⟨a, 0, none⟩), .pointer (some ⟨x, 0, none⟩), .agg #[.int .i64 1, .int .i64 d, .int .i64 z, .int .i64 off, .int .u8 c, .int .u32 mask, .slice KA km kc]] w fun e w' => e = .returned (.bool true) ∧ Went w0 w' a x n s (t + 1) := by
  have b0 : Below w.heap.size w (w.alloc (.cells #[.int .i64 1, .int .i64 d, .int .i64 z, .int .i64 off, .int .u8 c, .int .u32 mask, .slice KA km kc] 75)) := (Below.refl _ _).alloc (Nat.le_refl _) _
  have X0 := Lib.hid (BoxAt.new w #[.int .i64 1, .int .i64 d, .int .i64 z, .int .i64 off, .int .u8 c, .int .u32 mask, .slice KA km kc] 75)
  obtain ⟨wA, hwA⟩ : ∃ wA, w.alloc (.cells #[.int .i64 1, .int .i64 d, .int .i64 z, .int .i64 off, .int .u8 c, .int .u32 mask, .slice KA km kc] 75) = wA := ⟨_, rfl⟩
  rw [hwA] at b0 X0
  have H0 := Lib.hid (h.out.half.later b0)
  have INV := Lib.hid h.out.inv
  have hla : sa.length = n := INV.out.la
  have hlr : ra.length = n := INV.out.lr
  have nU : ¬ U w.heap.size := fun hu => by have := h.out.da.lt hu; omega
  have nV : ¬ V w.heap.size := fun hu => by have := h.out.dr.lt hu; omega
  have hcA := Lib.hid (INV.out.cache (by omega))
  have hgR := Lib.hid (INV.out.good (by omega))
  have hokA := Lib.hid h.out.da.ok
  have RK := Lib.hid (hk.out.below BoolsR.stable b0)
  have hws : w0.heap.size ≤ w.heap.size := h.out.below.size
  have nUV : ∀ b, b < w0.heap.size → ¬ U b ∧ ¬ V b := fun b hb => ⟨fun hu => by have := h.out.u1 b hu; omega, fun hv => by have := h.out.v1 b hv; omega⟩
  have NUV := Lib.hid nUV
  have q0 : wA.cell? ⟨w.heap.size, 0, none⟩ = some (.int .i64 1) := X0.out.cell 0
  have q1 : wA.cell? ⟨w.heap.size, 1, none⟩ = some (.int .i64 d) := X0.out.cell 1
  have q2 : wA.cell? ⟨w.heap.size, 2, none⟩ = some (.int .i64 z) := X0.out.cell 2
  have q3 : wA.cell? ⟨w.heap.size, 3, none⟩ = some (.int .i64 off) := X0.out.cell 3
  have q4 : wA.cell? ⟨w.heap.size, 4, none⟩ = some (.int .u8 c) := X0.out.cell 4
  have q5 : wA.cell? ⟨w.heap.size, 5, none⟩ = some (.int .u32 mask) := X0.out.cell 5
  have q6 : wA.cell? ⟨w.heap.size, 6, none⟩ = some (.slice KA km kc) := X0.out.cell 6
  clear b0 nUV
  go_enter Try.func47, Try.ntmps47
  clear q3 q5 q6
  by_cases hd : 0 ≤ d ∧ d < n
  · obtain ⟨k, rfl⟩ : ∃ k : Nat, d = k := ⟨d.toNat, by omega⟩
    have hdn : k < n := by omega
    obtain ⟨st, rs, hsa, hra, SM, hsz, hrg⟩ := INV.out.at_ hdn
    have HSM := Lib.hid SM
    have HFT := Lib.hid (show Fit s t rs from ⟨hrg, hsz⟩)
    have HSA := Lib.hid hsa
    have HRA := Lib.hid hra
    have hcst := hcA.out st (List.mem_of_getElem? hsa)
    have hgd := hgR.out rs (List.mem_of_getElem? hra)
    have hok := hokA.out st (List.mem_of_getElem? hsa)
    clear SM hsz hrg hsa hra hd
    have HW := Lib.hid (show writeE st.dead s z (rep c).length = writeE rs.gone s z (rep c).length by rw [HSM.out.dead])
    go_wp2_with fail
    clear q0
    refine wp_region_held_drew (S := fun w' => w'.cell? ⟨w.heap.size, 1, none⟩ = some (.int .i64 (k : Int)) ∧ w'.cell? ⟨w.heap.size, 2, none⟩ = some (.int .i64 z) ∧ w'.cell? ⟨w.heap.size, 4, none⟩ = some (.int .u8 c)) (by kernel_rfl) (by exact ⟨q1, q2, q4⟩) (fun hHeld => ?_)
    refine wpAnyH_take (i := 0) (v := ?_) rfl (by kernel_rfl) (by kernel_rfl) (by kernel_rfl) (fun _ _ _ h => h) (Or.inl ⟨by rfl, ?_⟩) (by assumption) ?_
    rotate_left
    · (intro wq hSw; (try dsimp only at hSw); (try simp only [List.getElem_toArray, List.getElem_cons_succ, List.getElem_cons_zero]); go_simp); try with_reducible rfl
    try simp only [List.getElem_toArray, List.getElem_cons_succ, List.getElem_cons_zero, Act.put, List.setIfInBounds_toArray, List.set_cons_zero, List.set_cons_succ]
    refine wpAnyH_take (i := 1) (v := ?_) rfl (by kernel_rfl) (by kernel_rfl) (by kernel_rfl) (fun _ _ _ h => h) (Or.inl ⟨by rfl, ?_⟩) (by assumption) ?_
    rotate_left
    · (intro wq hSw; (try dsimp only at hSw); (try simp only [List.getElem_toArray, List.getElem_cons_succ, List.getElem_cons_zero]); go_simp); try with_reducible rfl
    try simp only [List.getElem_toArray, List.getElem_cons_succ, List.getElem_cons_zero, Act.put, List.setIfInBounds_toArray, List.set_cons_zero, List.set_cons_succ]
    refine wpAnyH_take (i := 2) (v := ?_) rfl (by kernel_rfl) (by kernel_rfl) (by kernel_rfl) (fun _ _ _ h => h) (Or.inl ⟨by rfl, ?_⟩) (by assumption) ?_
    rotate_left
    · (intro wq hSw; (try dsimp only at hSw); (try simp only [List.getElem_toArray, List.getElem_cons_succ, List.getElem_cons_zero]); go_simp); try with_reducible rfl
    try simp only [List.getElem_toArray, List.getElem_cons_succ, List.getElem_cons_zero, Act.put, List.setIfInBounds_toArray, List.set_cons_zero, List.set_cons_succ]
    refine wpAnyH_take (i := 3) (v := ?_) rfl (by kernel_rfl) (by kernel_rfl) (by kernel_rfl) (fun _ _ _ h => h) (Or.inl ⟨by rfl, ?_⟩) (by assumption) ?_
    rotate_left
    · (intro wq hSw; (try dsimp only at hSw); (try simp only [List.getElem_toArray, List.getElem_cons_succ, List.getElem_cons_zero]); go_simp); try with_reducible rfl
    try simp only [List.getElem_toArray, List.getElem_cons_succ, List.getElem_cons_zero, Act.put, List.setIfInBounds_toArray, List.set_cons_zero, List.set_cons_succ]
    refine wpAnyH_take (i := 4) (v := ?_) rfl (by kernel_rfl) (by kernel_rfl) (by kernel_rfl) (fun _ _ _ h => h) (Or.inl ⟨by rfl, ?_⟩) (by assumption) ?_
    rotate_left
    · (intro wq hSw; (try dsimp only at hSw); (try simp only [List.getElem_toArray, List.getElem_cons_succ, List.getElem_cons_zero]); go_simp); try with_reducible rfl
    try simp only [List.getElem_toArray, List.getElem_cons_succ, List.getElem_cons_zero, Act.put, List.setIfInBounds_toArray, List.set_cons_zero, List.set_cons_succ]
    refine wpAnyH_take (i := 5) (v := ?_) rfl (by kernel_rfl) (by kernel_rfl) (by kernel_rfl) (fun _ _ _ h => h) (Or.inl ⟨by rfl, ?_⟩) (by assumption) ?_
    rotate_left
    · (intro wq hSw; (try dsimp only at hSw); (try simp only [List.getElem_toArray, List.getElem_cons_succ, List.getElem_cons_zero]); go_simp); try with_reducible rfl
    try simp only [List.getElem_toArray, List.getElem_cons_succ, List.getElem_cons_zero, Act.put, List.setIfInBounds_toArray, List.set_cons_zero, List.set_cons_succ]
    refine wpAnyH_take (i := 6) (v := ?_) rfl (by kernel_rfl) (by kernel_rfl) (by kernel_rfl) (fun _ _ _ h => h) (Or.inl ⟨by rfl, ?_⟩) (by assumption) ?_
    rotate_left
    · (intro wq hSw; (try dsimp only at hSw); (try simp only [List.getElem_toArray, List.getElem_cons_succ, List.getElem_cons_zero]); go_simp); try with_reducible rfl
    try simp only [List.getElem_toArray, List.getElem_cons_succ, List.getElem_cons_zero, Act.put, List.setIfInBounds_toArray, List.set_cons_zero, List.set_cons_succ]
    refine wpAnyH_take (i := 9) (v := ?_) rfl (by kernel_rfl) (by kernel_rfl) (by kernel_rfl) (fun _ _ _ h => h) (Or.inl ⟨by rfl, ?_⟩) (by assumption) ?_
    rotate_left
    · (intro wq hSw; (try dsimp only at hSw); (try simp only [List.getElem_toArray, List.getElem_cons_succ, List.getElem_cons_zero]); go_simp); try with_reducible rfl
    try simp only [List.getElem_toArray, List.getElem_cons_succ, List.getElem_cons_zero, Act.put, List.setIfInBounds_toArray, List.set_cons_zero, List.set_cons_succ]
    refine wpAnyH_take (i := 10) (v := ?_) rfl (by kernel_rfl) (by kernel_rfl) (by kernel_rfl) (fun _ _ _ h => h) (Or.inl ⟨by rfl, ?_⟩) (by assumption) ?_
    rotate_left
    · (intro wq hSw; (try dsimp only at hSw); (try simp only [List.getElem_toArray, List.getElem_cons_succ, List.getElem_cons_zero]); go_simp); try with_reducible rfl
    try simp only [List.getElem_toArray, List.getElem_cons_succ, List.getElem_cons_zero, Act.put, List.setIfInBounds_toArray, List.set_cons_zero, List.set_cons_succ]
    refine wpAnyH_take (i := 11) (v := ?_) rfl (by kernel_rfl) (by kernel_rfl) (by kernel_rfl) (fun _ _ _ h => h) (Or.inl ⟨by rfl, ?_⟩) (by assumption) ?_
    rotate_left
    · (intro wq hSw; (try dsimp only at hSw); (try simp only [List.getElem_toArray, List.getElem_cons_succ, List.getElem_cons_zero]); go_simp); try with_reducible rfl
    try simp only [List.getElem_toArray, List.getElem_cons_succ, List.getElem_cons_zero, Act.put, List.setIfInBounds_toArray, List.set_cons_zero, List.set_cons_succ]
    refine wpAnyH_take (i := 12) (v := ?_) rfl (by kernel_rfl) (by kernel_rfl) (by kernel_rfl) (fun _ _ _ h => h) (Or.inl ⟨by rfl, ?_⟩) (by assumption) ?_
    rotate_left
    · (intro wq hSw; (try dsimp only at hSw); (try simp only [List.getElem_toArray, List.getElem_cons_succ, List.getElem_cons_zero]); go_simp); try with_reducible rfl
    try simp only [List.getElem_toArray, List.getElem_cons_succ, List.getElem_cons_zero, Act.put, List.setIfInBounds_toArray, List.set_cons_zero, List.set_cons_succ]
    refine wpAnyH_take (i := 13) (v := ?_) rfl (by kernel_rfl) (by kernel_rfl) (by kernel_rfl) (fun _ _ _ h => h) (Or.inl ⟨by rfl, ?_⟩) (by assumption) ?_
    rotate_left
    · (intro wq hSw; (try dsimp only at hSw); (try simp only [List.getElem_toArray, List.getElem_cons_succ, List.getElem_cons_zero]); go_simp); try with_reducible rfl
    try simp only [List.getElem_toArray, List.getElem_cons_succ, List.getElem_cons_zero, Act.put, List.setIfInBounds_toArray, List.set_cons_zero, List.set_cons_succ]
    refine wpAnyH_take (i := 14) (v := ?_) rfl (by kernel_rfl) (by kernel_rfl) (by kernel_rfl) (fun _ _ _ h => h) (Or.inl ⟨by rfl, ?_⟩) (by assumption) ?_
    rotate_left
    · (intro wq hSw; (try dsimp only at hSw); (try simp only [List.getElem_toArray, List.getElem_cons_succ, List.getElem_cons_zero]); go_simp); try with_reducible rfl
    try simp only [List.getElem_toArray, List.getElem_cons_succ, List.getElem_cons_zero, Act.put, List.setIfInBounds_toArray, List.set_cons_zero, List.set_cons_succ]
    refine wpAnyH_take (i := 15) (v := ?_) rfl (by kernel_rfl) (by kernel_rfl) (by kernel_rfl) (fun _ _ _ h => h) (Or.inl ⟨by rfl, ?_⟩) (by assumption) ?_
    rotate_left
    · (intro wq hSw; (try dsimp only at hSw); (try simp only [List.getElem_toArray, List.getElem_cons_succ, List.getElem_cons_zero]); go_simp); try with_reducible rfl
    try simp only [List.getElem_toArray, List.getElem_cons_succ, List.getElem_cons_zero, Act.put, List.setIfInBounds_toArray, List.set_cons_zero, List.set_cons_succ]
    refine wpAnyH_ready (rs := [7]) (by kernel_rfl) (by simp) ?_
    refine AllReadyH.cons rfl (fun K hK => ?_) AllReadyH.nil
    try simp only [List.getElem_toArray, List.getElem_cons_succ, List.getElem_cons_zero]
    go_simp
    refine (full_box c _).mono ?_
    rintro e w5 ⟨b5, rfl, l5, Q5, t5⟩
    have H5 := Lib.hid ((H0.out.later (Below.refl _ _).drew).later t5)
    have X5 := Lib.hid ((X0.out.below (Below.refl _ _).drew).below t5)
    have Q5 := Lib.hid Q5
    clear q1 q2 q4
    have q1 : w5.cell? ⟨w.heap.size, 1, none⟩ = some (.int .i64 (k : Int)) := X5.out.cell 1
    have q2 : w5.cell? ⟨w.heap.size, 2, none⟩ = some (.int .i64 z) := X5.out.cell 2
    have q4 : w5.cell? ⟨w.heap.size, 4, none⟩ = some (.int .u8 c) := X5.out.cell 4
    try (go_wp2_with fail)
    refine hK.out _ _ (by exact ⟨q1, q2, q4⟩) (fun hHeld => ?_)
    clear hK K
    try simp only [List.getElem_toArray, List.getElem_cons_succ, List.getElem_cons_zero, Act.put, List.setIfInBounds_toArray, List.set_cons_zero, List.set_cons_succ]
    refine wpAnyH_ready (rs := [8]) (by kernel_rfl) (by simp) ?_
    refine AllReadyH.cons rfl (fun K hK => ?_) AllReadyH.nil
    try simp only [List.getElem_toArray, List.getElem_cons_succ, List.getElem_cons_zero]
    go_simp
    obtain ⟨va, Fa, pa, hBa⟩ := H5.out.da
    refine (awrite_in (Lib.hid hBa) k HSA.out z (S := (· = b5)) (Lib.hid (Q5.out.bytes (S := (· = b5)) rfl)) (by rintro b rfl hu; have h1 := H0.out.da.lt hu; have h2 := l5; simp only [World.size_drew] at h2; omega) hcst).mono ?_
    rintro e w1 ⟨rfl, u1⟩
    obtain ⟨U1, H1, K1⟩ := H5.out.updA u1
    have H1 := Lib.hid H1
    have X1 := Lib.hid (X5.out.keeps K1 nU)
    clear hBa
    clear q1 q2 q4
    have q1 : w1.cell? ⟨w.heap.size, 1, none⟩ = some (.int .i64 (k : Int)) := X1.out.cell 1
    have q2 : w1.cell? ⟨w.heap.size, 2, none⟩ = some (.int .i64 z) := X1.out.cell 2
    have q4 : w1.cell? ⟨w.heap.size, 4, none⟩ = some (.int .u8 c) := X1.out.cell 4
    rw [HW.out]
    try (go_wp2_with fail)
    refine hK.out _ _ (by exact ⟨q1, q2, q4⟩) (fun hHeld => ?_)
    clear hK K
    try simp only [List.getElem_toArray, List.getElem_cons_succ, List.getElem_cons_zero, Act.put, List.setIfInBounds_toArray, List.set_cons_zero, List.set_cons_succ]
    refine wpAnyH_ready (rs := [16]) (by kernel_rfl) (by simp) ?_
    refine AllReadyH.cons rfl (fun K hK => ?_) AllReadyH.nil
    try simp only [List.getElem_toArray, List.getElem_cons_succ, List.getElem_cons_zero]
    go_simp
    refine (full_box c _).mono ?_
    rintro e w6 ⟨b6, rfl, l6, Q6, t6⟩
    have H6 := Lib.hid (H1.out.later t6)
    have X6 := Lib.hid (X1.out.below t6)
    have Q6 := Lib.hid Q6
    clear q1 q2 q4
    have q1 : w6.cell? ⟨w.heap.size, 1, none⟩ = some (.int .i64 (k : Int)) := X6.out.cell 1
    have q2 : w6.cell? ⟨w.heap.size, 2, none⟩ = some (.int .i64 z) := X6.out.cell 2
    have q4 : w6.cell? ⟨w.heap.size, 4, none⟩ = some (.int .u8 c) := X6.out.cell 4
    try (go_wp2_with fail)
    refine hK.out _ _ (by exact ⟨q1, q2, q4⟩) (fun hHeld => ?_)
    clear hK K
    try simp only [List.getElem_toArray, List.getElem_cons_succ, List.getElem_cons_zero, Act.put, List.setIfInBounds_toArray, List.set_cons_zero, List.set_cons_succ]
    refine wpAnyH_ready (rs := [17]) (by kernel_rfl) (by simp) ?_
    refine AllReadyH.cons rfl (fun K hK => ?_) AllReadyH.nil
    try simp only [List.getElem_toArray, List.getElem_cons_succ, List.getElem_cons_zero]
    go_simp
    obtain ⟨vr, Fr, pr, hBr⟩ := H6.out.dr
    refine (rawrite_in (Lib.hid hBr) k HRA.out hgd z (S := (· = b6)) (Lib.hid (Q6.out.bytes (S := (· = b6)) rfl))).mono ?_
    rintro e w2 ⟨rfl, u2⟩
    obtain ⟨V2, H2, K2⟩ := H6.out.updR u2
    have H2 := Lib.hid H2
    have X2 := Lib.hid (X6.out.keeps K2 nV)
    clear hBr
    clear q1 q2 q4
    have q1 : w2.cell? ⟨w.heap.size, 1, none⟩ = some (.int .i64 (k : Int)) := X2.out.cell 1
    have q2 : w2.cell? ⟨w.heap.size, 2, none⟩ = some (.int .i64 z) := X2.out.cell 2
    have q4 : w2.cell? ⟨w.heap.size, 4, none⟩ = some (.int .u8 c) := X2.out.cell 4
    try (go_wp2_with fail)
    refine hK.out _ _ (by exact ⟨q1, q2, q4⟩) (fun hHeld => ?_)
    clear hK K
    try simp only [List.getElem_toArray, List.getElem_cons_succ, List.getElem_cons_zero, Act.put, List.setIfInBounds_toArray, List.set_cons_zero, List.set_cons_succ]
    refine wpAnyH_take (i := 18) (v := ?_) rfl (by kernel_rfl) (by kernel_rfl) (by kernel_rfl) (fun _ _ _ h => h) (Or.inl ⟨by rfl, ?_⟩) (by assumption) ?_
    rotate_left
    · (intro wq hSw; (try dsimp only at hSw); (try simp only [List.getElem_toArray, List.getElem_cons_succ, List.getElem_cons_zero]); go_simp); try with_reducible rfl
    try simp only [List.getElem_toArray, List.getElem_cons_succ, List.getElem_cons_zero, Act.put, List.setIfInBounds_toArray, List.set_cons_zero, List.set_cons_succ]
    refine wpAnyH_take (i := 19) (v := ?_) rfl (by kernel_rfl) (by kernel_rfl) (by kernel_rfl) (fun _ _ _ h => h) (Or.inl ⟨by rfl, ?_⟩) (by assumption) ?_
    rotate_left
    · (intro wq hSw; (try dsimp only at hSw); (try simp only [List.getElem_toArray, List.getElem_cons_succ, List.getElem_cons_zero]); go_simp); try with_reducible rfl
    try simp only [List.getElem_toArray, List.getElem_cons_succ, List.getElem_cons_zero, Act.put, List.setIfInBounds_toArray, List.set_cons_zero, List.set_cons_succ]
    refine wpAnyH_done (by kernel_rfl) ?_ _
    go_wp2_with fail
    go_ret
    exact ⟨rfl, U1, V2, _, _, H2.out.twin (INV.out.set (HSM.out.write z (rep c)) (HFT.out.write z (rep c)))⟩
  · go_wp2_with fail
    clear q0
    refine wp_region_held_drew (S := fun w' => w'.cell? ⟨w.heap.size, 1, none⟩ = some (.int .i64 d) ∧ w'.cell? ⟨w.heap.size, 2, none⟩ = some (.int .i64 z) ∧ w'.cell? ⟨w.heap.size, 4, none⟩ = some (.int .u8 c)) (by kernel_rfl) (by exact ⟨q1, q2, q4⟩) (fun hHeld => ?_)
    refine wpAnyH_take (i := 0) (v := ?_) rfl (by kernel_rfl) (by kernel_rfl) (by kernel_rfl) (fun _ _ _ h => h) (Or.inl ⟨by rfl, ?_⟩) (by assumption) ?_
    rotate_left
    · (intro wq hSw; (try dsimp only at hSw); (try simp only [List.getElem_toArray, List.getElem_cons_succ, List.getElem_cons_zero]); go_simp); try with_reducible rfl
    try simp only [List.getElem_toArray, List.getElem_cons_succ, List.getElem_cons_zero, Act.put, List.setIfInBounds_toArray, List.set_cons_zero, List.set_cons_succ]
    refine wpAnyH_take (i := 1) (v := ?_) rfl (by kernel_rfl) (by kernel_rfl) (by kernel_rfl) (fun _ _ _ h => h) (Or.inl ⟨by rfl, ?_⟩) (by assumption) ?_
    rotate_left
    · (intro wq hSw; (try dsimp only at hSw); (try simp only [List.getElem_toArray, List.getElem_cons_succ, List.getElem_cons_zero]); go_simp); try with_reducible rfl
    try simp only [List.getElem_toArray, List.getElem_cons_succ, List.getElem_cons_zero, Act.put, List.setIfInBounds_toArray, List.set_cons_zero, List.set_cons_succ]
    refine wpAnyH_take (i := 2) (v := ?_) rfl (by kernel_rfl) (by kernel_rfl) (by kernel_rfl) (fun _ _ _ h => h) (Or.inl ⟨by rfl, ?_⟩) (by assumption) ?_
    rotate_left
    · (intro wq hSw; (try dsimp only at hSw); (try simp only [List.getElem_toArray, List.getElem_cons_succ, List.getElem_cons_zero]); go_simp); try with_reducible rfl
    try simp only [List.getElem_toArray, List.getElem_cons_succ, List.getElem_cons_zero, Act.put, List.setIfInBounds_toArray, List.set_cons_zero, List.set_cons_succ]
    refine wpAnyH_take (i := 3) (v := ?_) rfl (by kernel_rfl) (by kernel_rfl) (by kernel_rfl) (fun _ _ _ h => h) (Or.inl ⟨by rfl, ?_⟩) (by assumption) ?_
    rotate_left
    · (intro wq hSw; (try dsimp only at hSw); (try simp only [List.getElem_toArray, List.getElem_cons_succ, List.getElem_cons_zero]); go_simp); try with_reducible rfl
    try simp only [List.getElem_toArray, List.getElem_cons_succ, List.getElem_cons_zero, Act.put, List.setIfInBounds_toArray, List.set_cons_zero, List.set_cons_succ]
    refine wpAnyH_take (i := 4) (v := ?_) rfl (by kernel_rfl) (by kernel_rfl) (by kernel_rfl) (fun _ _ _ h => h) (Or.inl ⟨by rfl, ?_⟩) (by assumption) ?_
    rotate_left
    · (intro wq hSw; (try dsimp only at hSw); (try simp only [List.getElem_toArray, List.getElem_cons_succ, List.getElem_cons_zero]); go_simp); try with_reducible rfl
    try simp only [List.getElem_toArray, List.getElem_cons_succ, List.getElem_cons_zero, Act.put, List.setIfInBounds_toArray, List.set_cons_zero, List.set_cons_succ]
    refine wpAnyH_take (i := 5) (v := ?_) rfl (by kernel_rfl) (by kernel_rfl) (by kernel_rfl) (fun _ _ _ h => h) (Or.inl ⟨by rfl, ?_⟩) (by assumption) ?_
    rotate_left
    · (intro wq hSw; (try dsimp only at hSw); (try simp only [List.getElem_toArray, List.getElem_cons_succ, List.getElem_cons_zero]); go_simp); try with_reducible rfl
    try simp only [List.getElem_toArray, List.getElem_cons_succ, List.getElem_cons_zero, Act.put, List.setIfInBounds_toArray, List.set_cons_zero, List.set_cons_succ]
    refine wpAnyH_take (i := 6) (v := ?_) rfl (by kernel_rfl) (by kernel_rfl) (by kernel_rfl) (fun _ _ _ h => h) (Or.inl ⟨by rfl, ?_⟩) (by assumption) ?_
    rotate_left
    · (intro wq hSw; (try dsimp only at hSw); (try simp only [List.getElem_toArray, List.getElem_cons_succ, List.getElem_cons_zero]); go_simp); try with_reducible rfl
    try simp only [List.getElem_toArray, List.getElem_cons_succ, List.getElem_cons_zero, Act.put, List.setIfInBounds_toArray, List.set_cons_zero, List.set_cons_succ]
    refine wpAnyH_take (i := 9) (v := ?_) rfl (by kernel_rfl) (by kernel_rfl) (by kernel_rfl) (fun _ _ _ h => h) (Or.inl ⟨by rfl, ?_⟩) (by assumption) ?_
    rotate_left
    · (intro wq hSw; (try dsimp only at hSw); (try simp only [List.getElem_toArray, List.getElem_cons_succ, List.getElem_cons_zero]); go_simp); try with_reducible rfl
    try simp only [List.getElem_toArray, List.getElem_cons_succ, List.getElem_cons_zero, Act.put, List.setIfInBounds_toArray, List.set_cons_zero, List.set_cons_succ]
    refine wpAnyH_take (i := 10) (v := ?_) rfl (by kernel_rfl) (by kernel_rfl) (by kernel_rfl) (fun _ _ _ h => h) (Or.inl ⟨by rfl, ?_⟩) (by assumption) ?_
    rotate_left
    · (intro wq hSw; (try dsimp only at hSw); (try simp only [List.getElem_toArray, List.getElem_cons_succ, List.getElem_cons_zero]); go_simp); try with_reducible rfl
    try simp only [List.getElem_toArray, List.getElem_cons_succ, List.getElem_cons_zero, Act.put, List.setIfInBounds_toArray, List.set_cons_zero, List.set_cons_succ]
    refine wpAnyH_take (i := 11) (v := ?_) rfl (by kernel_rfl) (by kernel_rfl) (by kernel_rfl) (fun _ _ _ h => h) (Or.inl ⟨by rfl, ?_⟩) (by assumption) ?_
    rotate_left
    · (intro wq hSw; (try dsimp only at hSw); (try simp only [List.getElem_toArray, List.getElem_cons_succ, List.getElem_cons_zero]); go_simp); try with_reducible rfl
    try simp only [List.getElem_toArray, List.getElem_cons_succ, List.getElem_cons_zero, Act.put, List.setIfInBounds_toArray, List.set_cons_zero, List.set_cons_succ]
    refine wpAnyH_take (i := 12) (v := ?_) rfl (by kernel_rfl) (by kernel_rfl) (by kernel_rfl) (fun _ _ _ h => h) (Or.inl ⟨by rfl, ?_⟩) (by assumption) ?_
    rotate_left
    · (intro wq hSw; (try dsimp only at hSw); (try simp only [List.getElem_toArray, List.getElem_cons_succ, List.getElem_cons_zero]); go_simp); try with_reducible rfl
    try simp only [List.getElem_toArray, List.getElem_cons_succ, List.getElem_cons_zero, Act.put, List.setIfInBounds_toArray, List.set_cons_zero, List.set_cons_succ]
    refine wpAnyH_take (i := 13) (v := ?_) rfl (by kernel_rfl) (by kernel_rfl) (by kernel_rfl) (fun _ _ _ h => h) (Or.inl ⟨by rfl, ?_⟩) (by assumption) ?_
    rotate_left
    · (intro wq hSw; (try dsimp only at hSw); (try simp only [List.getElem_toArray, List.getElem_cons_succ, List.getElem_cons_zero]); go_simp); try with_reducible rfl
    try simp only [List.getElem_toArray, List.getElem_cons_succ, List.getElem_cons_zero, Act.put, List.setIfInBounds_toArray, List.set_cons_zero, List.set_cons_succ]
    refine wpAnyH_take (i := 14) (v := ?_) rfl (by kernel_rfl) (by kernel_rfl) (by kernel_rfl) (fun _ _ _ h => h) (Or.inl ⟨by rfl, ?_⟩) (by assumption) ?_
    rotate_left
    · (intro wq hSw; (try dsimp only at hSw); (try simp only [List.getElem_toArray, List.getElem_cons_succ, List.getElem_cons_zero]); go_simp); try with_reducible rfl
    try simp only [List.getElem_toArray, List.getElem_cons_succ, List.getElem_cons_zero, Act.put, List.setIfInBounds_toArray, List.set_cons_zero, List.set_cons_succ]
    refine wpAnyH_take (i := 15) (v := ?_) rfl (by kernel_rfl) (by kernel_rfl) (by kernel_rfl) (fun _ _ _ h => h) (Or.inl ⟨by rfl, ?_⟩) (by assumption) ?_
    rotate_left
    · (intro wq hSw; (try dsimp only at hSw); (try simp only [List.getElem_toArray, List.getElem_cons_succ, List.getElem_cons_zero]); go_simp); try with_reducible rfl
    try simp only [List.getElem_toArray, List.getElem_cons_succ, List.getElem_cons_zero, Act.put, List.setIfInBounds_toArray, List.set_cons_zero, List.set_cons_succ]
    refine wpAnyH_ready (rs := [7]) (by kernel_rfl) (by simp) ?_
    refine AllReadyH.cons rfl (fun K hK => ?_) AllReadyH.nil
    try simp only [List.getElem_toArray, List.getElem_cons_succ, List.getElem_cons_zero]
    go_simp
    refine (full_box c _).mono ?_
    rintro e w5 ⟨b5, rfl, l5, Q5, t5⟩
    have H5 := Lib.hid ((H0.out.later (Below.refl _ _).drew).later t5)
    have X5 := Lib.hid ((X0.out.below (Below.refl _ _).drew).below t5)
    have Q5 := Lib.hid Q5
    clear q1 q2 q4
    have q1 : w5.cell? ⟨w.heap.size, 1, none⟩ = some (.int .i64 d) := X5.out.cell 1
    have q2 : w5.cell? ⟨w.heap.size, 2, none⟩ = some (.int .i64 z) := X5.out.cell 2
    have q4 : w5.cell? ⟨w.heap.size, 4, none⟩ = some (.int .u8 c) := X5.out.cell 4
    try (go_wp2_with fail)
    refine hK.out _ _ (by exact ⟨q1, q2, q4⟩) (fun hHeld => ?_)
    clear hK K
    try simp only [List.getElem_toArray, List.getElem_cons_succ, List.getElem_cons_zero, Act.put, List.setIfInBounds_toArray, List.set_cons_zero, List.set_cons_succ]
    refine wpAnyH_ready (rs := [8]) (by kernel_rfl) (by simp) ?_
    refine AllReadyH.cons rfl (fun K hK => ?_) AllReadyH.nil
    try simp only [List.getElem_toArray, List.getElem_cons_succ, List.getElem_cons_zero]
    go_simp
    obtain ⟨va, Fa, pa, hBa⟩ := H5.out.da
    refine (awrite_out (Lib.hid hBa) (by omega) d (by omega) z _).mono ?_
    rintro e w1 ⟨rfl, t1⟩
    have H1 := Lib.hid (H5.out.later t1)
    have X1 := Lib.hid (X5.out.below t1)
    clear hBa
    clear q1 q2 q4
    have q1 : w1.cell? ⟨w.heap.size, 1, none⟩ = some (.int .i64 d) := X1.out.cell 1
    have q2 : w1.cell? ⟨w.heap.size, 2, none⟩ = some (.int .i64 z) := X1.out.cell 2
    have q4 : w1.cell? ⟨w.heap.size, 4, none⟩ = some (.int .u8 c) := X1.out.cell 4
    try (go_wp2_with fail)
    refine hK.out _ _ (by exact ⟨q1, q2, q4⟩) (fun hHeld => ?_)
    clear hK K
    try simp only [List.getElem_toArray, List.getElem_cons_succ, List.getElem_cons_zero, Act.put, List.setIfInBounds_toArray, List.set_cons_zero, List.set_cons_succ]
    refine wpAnyH_ready (rs := [16]) (by kernel_rfl) (by simp) ?_
    refine AllReadyH.cons rfl (fun K hK => ?_) AllReadyH.nil
    try simp only [List.getElem_toArray, List.getElem_cons_succ, List.getElem_cons_zero]
    go_simp
    refine (full_box c _).mono ?_
    rintro e w6 ⟨b6, rfl, l6, Q6, t6⟩
    have H6 := Lib.hid (H1.out.later t6)
    have X6 := Lib.hid (X1.out.below t6)
    have Q6 := Lib.hid Q6
    clear q1 q2 q4
    have q1 : w6.cell? ⟨w.heap.size, 1, none⟩ = some (.int .i64 d) := X6.out.cell 1
    have q2 : w6.cell? ⟨w.heap.size, 2, none⟩ = some (.int .i64 z) := X6.out.cell 2
    have q4 : w6.cell? ⟨w.heap.size, 4, none⟩ = some (.int .u8 c) := X6.out.cell 4
    try (go_wp2_with fail)
    refine hK.out _ _ (by exact ⟨q1, q2, q4⟩) (fun hHeld => ?_)
    clear hK K
    try simp only [List.getElem_toArray, List.getElem_cons_succ, List.getElem_cons_zero, Act.put, List.setIfInBounds_toArray, List.set_cons_zero, List.set_cons_succ]
    refine wpAnyH_ready (rs := [17]) (by kernel_rfl) (by simp) ?_
    refine AllReadyH.cons rfl (fun K hK => ?_) AllReadyH.nil
    try simp only [List.getElem_toArray, List.getElem_cons_succ, List.getElem_cons_zero]
    go_simp
    obtain ⟨vr, Fr, pr, hBr⟩ := H6.out.dr
    refine (rawrite_out (Lib.hid hBr) d (by omega) z _ _ _).mono ?_
    rintro e w2 ⟨rfl, t2⟩
    have HZ := Lib.hid (H6.out.later t2)
    have X2 := Lib.hid (X6.out.below t2)
    clear hBr
    clear q1 q2 q4
    have q1 : w2.cell? ⟨w.heap.size, 1, none⟩ = some (.int .i64 d) := X2.out.cell 1
    have q2 : w2.cell? ⟨w.heap.size, 2, none⟩ = some (.int .i64 z) := X2.out.cell 2
    have q4 : w2.cell? ⟨w.heap.size, 4, none⟩ = some (.int .u8 c) := X2.out.cell 4
    try (go_wp2_with fail)
    refine hK.out _ _ (by exact ⟨q1, q2, q4⟩) (fun hHeld => ?_)
    clear hK K
    try simp only [List.getElem_toArray, List.getElem_cons_succ, List.getElem_cons_zero, Act.put, List.setIfInBounds_toArray, List.set_cons_zero, List.set_cons_succ]
    refine wpAnyH_take (i := 18) (v := ?_) rfl (by kernel_rfl) (by kernel_rfl) (by kernel_rfl) (fun _ _ _ h => h) (Or.inl ⟨by rfl, ?_⟩) (by assumption) ?_
    rotate_left
    · (intro wq hSw; (try dsimp only at hSw); (try simp only [List.getElem_toArray, List.getElem_cons_succ, List.getElem_cons_zero]); go_simp); try with_reducible rfl
    try simp only [List.getElem_toArray, List.getElem_cons_succ, List.getElem_cons_zero, Act.put, List.setIfInBounds_toArray, List.set_cons_zero, List.set_cons_succ]
    refine wpAnyH_take (i := 19) (v := ?_) rfl (by kernel_rfl) (by kernel_rfl) (by kernel_rfl) (fun _ _ _ h => h) (Or.inl ⟨by rfl, ?_⟩) (by assumption) ?_
    rotate_left
    · (intro wq hSw; (try dsimp only at hSw); (try simp only [List.getElem_toArray, List.getElem_cons_succ, List.getElem_cons_zero]); go_simp); try with_reducible rfl
    try simp only [List.getElem_toArray, List.getElem_cons_succ, List.getElem_cons_zero, Act.put, List.setIfInBounds_toArray, List.set_cons_zero, List.set_cons_succ]
    refine wpAnyH_done (by kernel_rfl) ?_ _
    go_wp2_with fail
    go_ret
    exact ⟨rfl, U, V, sa, ra, HZ.out.twin h.out.out_⟩

set_option maxRecDepth 100000 in
set_option maxHeartbeats 8000000 in
theorem act10_write2 {w0 : World} {U V : Nat → Prop} {w : World} {a x n s t : Nat} {sa : List DSt} {ra : List RSt} (h : Hid (Twin w0 U V w a x n s t sa ra)) (hn : 0 < n) (hn2 : n ≤ 255) (ht : t < 1000) {KA : Option Addr} {km kc : Nat} {ks : List (List Bool)} (hk : Hid (RdL BoolsR 1 (fun b => b < w0.heap.size) w KA km ks)) (d z off c mask : Int) :
    Calls Try.prog 47 #[.pointer (some ⟨a, 0, none⟩), .pointer (some ⟨x, 0, none⟩), .agg #[.int .i64 2, .int .i64 d, .int .i64 z, .int .i64 off, .int .u8 c, .int .u32 mask, .slice KA km kc]] w fun e w' => e = .returned (.bool true) ∧ Went w0 w' a x n s (t + 1) := by
  have b0 : Below w.heap.size w (w.alloc (.cells #[.int .i64 2, .int .i64 d, .int .i64 z, .int .i64 off, .int .u8 c, .int .u32 mask, .slice KA km kc] 75)) := (Below.refl _ _).alloc (Nat.le_refl _) _
  have X0 := Lib.hid (BoxAt.new w #[.int .i64 2, .int .i64 d, .int .i64 z, .int .i64 off, .int .u8 c, .int .u32 mask, .slice KA km kc] 75)
  obtain ⟨wA, hwA⟩ : ∃ wA, w.alloc (.cells #[.int .i64 2, .int .i64 d, .int .i64 z, .int .i64 off, .int .u8 c, .int .u32 mask, .slice KA km kc] 75) = wA := ⟨_, rfl⟩
  rw [hwA] at b0 X0
  have H0 := Lib.hid (h.out.half.later b0)
  have INV := Lib.hid h.out.inv
  have hla : sa.length = n := INV.out.la
  have hlr : ra.length = n := INV.out.lr
  have nU : ¬ U w.heap.size := fun hu => by have := h.out.da.lt hu; omega
  have nV : ¬ V w.heap.size := fun hu => by have := h.out.dr.lt hu; omega
  have hcA := Lib.hid (INV.out.cache (by omega))
  have hgR := Lib.hid (INV.out.good (by omega))
  have hokA := Lib.hid h.out.da.ok
  have RK := Lib.hid (hk.out.below BoolsR.stable b0)
  have hws : w0.heap.size ≤ w.heap.size := h.out.below.size
  have nUV : ∀ b, b < w0.heap.size → ¬ U b ∧ ¬ V b := fun b hb => ⟨fun hu => by have := h.out.u1 b hu; omega, fun hv => by have := h.out.v1 b hv; omega⟩
  have NUV := Lib.hid nUV
  have q0 : wA.cell? ⟨w.heap.size, 0, none⟩ = some (.int .i64 2) := X0.out.cell 0
  have q1 : wA.cell? ⟨w.heap.size, 1, none⟩ = some (.int .i64 d) := X0.out.cell 1
  have q2 : wA.cell? ⟨w.heap.size, 2, none⟩ = some (.int .i64 z) := X0.out.cell 2
  have q3 : wA.cell? ⟨w.heap.size, 3, none⟩ = some (.int .i64 off) := X0.out.cell 3
  have q4 : wA.cell? ⟨w.heap.size, 4, none⟩ = some (.int .u8 c) := X0.out.cell 4
  have q5 : wA.cell? ⟨w.heap.size, 5, none⟩ = some (.int .u32 mask) := X0.out.cell 5
  have q6 : wA.cell? ⟨w.heap.size, 6, none⟩ = some (.slice KA km kc) := X0.out.cell 6
  clear b0 nUV
  go_enter Try.func47, Try.ntmps47
  clear q3 q5 q6
  by_cases hd : 0 ≤ d ∧ d < n
  · obtain ⟨k, rfl⟩ : ∃ k : Nat, d = k := ⟨d.toNat, by omega⟩
    have hdn : k < n := by omega
    obtain ⟨st, rs, hsa, hra, SM, hsz, hrg⟩ := INV.out.at_ hdn
    have HSM := Lib.hid SM
    have HFT := Lib.hid (show Fit s t rs from ⟨hrg, hsz⟩)
    have HSA := Lib.hid hsa
    have HRA := Lib.hid hra
    have hcst := hcA.out st (List.mem_of_getElem? hsa)
    have hgd := hgR.out rs (List.mem_of_getElem? hra)
    have hok := hokA.out st (List.mem_of_getElem? hsa)
    clear SM hsz hrg hsa hra hd
    have HW := Lib.hid (show writeE st.dead s z (rep c).length = writeE rs.gone s z (rep c).length by rw [HSM.out.dead])
    go_wp2_with fail
    clear q0
    refine wp_region_held_drew (S := fun w' => w'.cell? ⟨w.heap.size, 1, none⟩ = some (.int .i64 (k : Int)) ∧ w'.cell? ⟨w.heap.size, 2, none⟩ = some (.int .i64 z) ∧ w'.cell? ⟨w.heap.size, 4, none⟩ = some (.int .u8 c)) (by kernel_rfl) (by exact ⟨q1, q2, q4⟩) (fun hHeld => ?_)
    refine wpAnyH_take (i := 0) (v := ?_) rfl (by kernel_rfl) (by kernel_rfl) (by kernel_rfl) (fun _ _ _ h => h) (Or.inl ⟨by rfl, ?_⟩) (by assumption) ?_
    rotate_left
    · (intro wq hSw; (try dsimp only at hSw); (try simp only [List.getElem_toArray, List.getElem_cons_succ, List.getElem_cons_zero]); go_simp); try with_reducible rfl
    try simp only [List.getElem_toArray, List.getElem_cons_succ, List.getElem_cons_zero, Act.put, List.setIfInBounds_toArray, List.set_cons_zero, List.set_cons_succ]
    refine wpAnyH_take (i := 1) (v := ?_) rfl (by kernel_rfl) (by kernel_rfl) (by kernel_rfl) (fun _ _ _ h => h) (Or.inl ⟨by rfl, ?_⟩) (by assumption) ?_
    rotate_left
    · (intro wq hSw; (try dsimp only at hSw); (try simp only [List.getElem_toArray, List.getElem_cons_succ, List.getElem_cons_zero]); go_simp); try with_reducible rfl
    try simp only [List.getElem_toArray, List.getElem_cons_succ, List.getElem_cons_zero, Act.put, List.setIfInBounds_toArray, List.set_cons_zero, List.set_cons_succ]
    refine wpAnyH_take (i := 2) (v := ?_) rfl (by kernel_rfl) (by kernel_rfl) (by kernel_rfl) (fun _ _ _ h => h) (Or.inl ⟨by rfl, ?_⟩) (by assumption) ?_
    rotate_left
    · (intro wq hSw; (try dsimp only at hSw); (try simp only [List.getElem_toArray, List.getElem_cons_succ, List.getElem_cons_zero]); go_simp); try with_reducible rfl
    try simp only [List.getElem_toArray, List.getElem_cons_succ, List.getElem_cons_zero, Act.put, List.setIfInBounds_toArray, List.set_cons_zero, List.set_cons_succ]
    refine wpAnyH_take (i := 3) (v := ?_) rfl (by kernel_rfl) (by kernel_rfl) (by kernel_rfl) (fun _ _ _ h => h) (Or.inl ⟨by rfl, ?_⟩) (by assumption) ?_
    rotate_left
    · (intro wq hSw; (try dsimp only at hSw); (try simp only [List.getElem_toArray, List.getElem_cons_succ, List.getElem_cons_zero]); go_simp); try with_reducible rfl
    try simp only [List.getElem_toArray, List.getElem_cons_succ, List.getElem_cons_zero, Act.put, List.setIfInBounds_toArray, List.set_cons_zero, List.set_cons_succ]
    refine wpAnyH_take (i := 4) (v := ?_) rfl (by kernel_rfl) (by kernel_rfl) (by kernel_rfl) (fun _ _ _ h => h) (Or.inl ⟨by rfl, ?_⟩) (by assumption) ?_
    rotate_left
    · (intro wq hSw; (try dsimp only at hSw); (try simp only [List.getElem_toArray, List.getElem_cons_succ, List.getElem_cons_zero]); go_simp); try with_reducible rfl
    try simp only [List.getElem_toArray, List.getElem_cons_succ, List.getElem_cons_zero, Act.put, List.setIfInBounds_toArray, List.set_cons_zero, List.set_cons_succ]
    refine wpAnyH_take (i := 5) (v := ?_) rfl (by kernel_rfl) (by kernel_rfl) (by kernel_rfl) (fun _ _ _ h => h) (Or.inl ⟨by rfl, ?_⟩) (by assumption) ?_
    rotate_left
    · (intro wq hSw; (try dsimp only at hSw); (try simp only [List.getElem_toArray, List.getElem_cons_succ, List.getElem_cons_zero]); go_simp); try with_reducible rfl
    try simp only [List.getElem_toArray, List.getElem_cons_succ, List.getElem_cons_zero, Act.put, List.setIfInBounds_toArray, List.set_cons_zero, List.set_cons_succ]
    refine wpAnyH_take (i := 6) (v := ?_) rfl (by kernel_rfl) (by kernel_rfl) (by kernel_rfl) (fun _ _ _ h => h) (Or.inl ⟨by rfl, ?_⟩) (by assumption) ?_
    rotate_left
    · (intro wq hSw; (try dsimp only at hSw); (try simp only [List.getElem_toArray, List.getElem_cons_succ, List.getElem_cons_zero]); go_simp); try with_reducible rfl
    try simp only [List.getElem_toArray, List.getElem_cons_succ, List.getElem_cons_zero, Act.put, List.setIfInBounds_toArray, List.set_cons_zero, List.set_cons_succ]
    refine wpAnyH_take (i := 9) (v := ?_) rfl (by kernel_rfl) (by kernel_rfl) (by kernel_rfl) (fun _ _ _ h => h) (Or.inl ⟨by rfl, ?_⟩) (by assumption) ?_
    rotate_left
    · (intro wq hSw; (try dsimp only at hSw); (try simp only [List.getElem_toArray, List.getElem_cons_succ, List.getElem_cons_zero]); go_simp); try with_reducible rfl
    try simp only [List.getElem_toArray, List.getElem_cons_succ, List.getElem_cons_zero, Act.put, List.setIfInBounds_toArray, List.set_cons_zero, List.set_cons_succ]
    refine wpAnyH_take (i := 10) (v := ?_) rfl (by kernel_rfl) (by kernel_rfl) (by kernel_rfl) (fun _ _ _ h => h) (Or.inl ⟨by rfl, ?_⟩) (by assumption) ?_
    rotate_left
    · (intro wq hSw; (try dsimp only at hSw); (try simp only [List.getElem_toArray, List.getElem_cons_succ, List.getElem_cons_zero]); go_simp); try with_reducible rfl
    try simp only [List.getElem_toArray, List.getElem_cons_succ, List.getElem_cons_zero, Act.put, List.setIfInBounds_toArray, List.set_cons_zero, List.set_cons_succ]
    refine wpAnyH_take (i := 11) (v := ?_) rfl (by kernel_rfl) (by kernel_rfl) (by kernel_rfl) (fun _ _ _ h => h) (Or.inl ⟨by rfl, ?_⟩) (by assumption) ?_
    rotate_left
    · (intro wq hSw; (try dsimp only at hSw); (try simp only [List.getElem_toArray, List.getElem_cons_succ, List.getElem_cons_zero]); go_simp); try with_reducible rfl
    try simp only [List.getElem_toArray, List.getElem_cons_succ, List.getElem_cons_zero, Act.put, List.setIfInBounds_toArray, List.set_cons_zero, List.set_cons_succ]
    refine wpAnyH_take (i := 12) (v := ?_) rfl (by kernel_rfl) (by kernel_rfl) (by kernel_rfl) (fun _ _ _ h => h) (Or.inl ⟨by rfl, ?_⟩) (by assumption) ?_
    rotate_left
    · (intro wq hSw; (try dsimp only at hSw); (try simp only [List.getElem_toArray, List.getElem_cons_succ, List.getElem_cons_zero]); go_simp); try with_reducible rfl
    try simp only [List.getElem_toArray, List.getElem_cons_succ, List.getElem_cons_zero, Act.put, List.setIfInBounds_toArray, List.set_cons_zero, List.set_cons_succ]
    refine wpAnyH_take (i := 13) (v := ?_) rfl (by kernel_rfl) (by kernel_rfl) (by kernel_rfl) (fun _ _ _ h => h) (Or.inl ⟨by rfl, ?_⟩) (by assumption) ?_
    rotate_left
    · (intro wq hSw; (try dsimp only at hSw); (try simp only [List.getElem_toArray, List.getElem_cons_succ, List.getElem_cons_zero]); go_simp); try with_reducible rfl
    try simp only [List.getElem_toArray, List.getElem_cons_succ, List.getElem_cons_zero, Act.put, List.setIfInBounds_toArray, List.set_cons_zero, List.set_cons_succ]
    refine wpAnyH_take (i := 14) (v := ?_) rfl (by kernel_rfl) (by kernel_rfl) (by kernel_rfl) (fun _ _ _ h => h) (Or.inl ⟨by rfl, ?_⟩) (by assumption) ?_
    rotate_left
    · (intro wq hSw; (try dsimp only at hSw); (try simp only [List.getElem_toArray, List.getElem_cons_succ, List.getElem_cons_zero]); go_simp); try with_reducible rfl
    try simp only [List.getElem_toArray, List.getElem_cons_succ, List.getElem_cons_zero, Act.put, List.setIfInBounds_toArray, List.set_cons_zero, List.set_cons_succ]
    refine wpAnyH_take (i := 15) (v := ?_) rfl (by kernel_rfl) (by kernel_rfl) (by kernel_rfl) (fun _ _ _ h => h) (Or.inl ⟨by rfl, ?_⟩) (by assumption) ?_
    rotate_left
    · (intro wq hSw; (try dsimp only at hSw); (try simp only [List.getElem_toArray, List.getElem_cons_succ, List.getElem_cons_zero]); go_simp); try with_reducible rfl
    try simp only [List.getElem_toArray, List.getElem_cons_succ, List.getElem_cons_zero, Act.put, List.setIfInBounds_toArray, List.set_cons_zero, List.set_cons_succ]
    refine wpAnyH_ready (rs := [7]) (by kernel_rfl) (by simp) ?_
    refine AllReadyH.cons rfl (fun K hK => ?_) AllReadyH.nil
    try simp only [List.getElem_toArray, List.getElem_cons_succ, List.getElem_cons_zero]
    go_simp
    refine (full_box c _).mono ?_
    rintro e w5 ⟨b5, rfl, l5, Q5, t5⟩
    have H5 := Lib.hid ((H0.out.later (Below.refl _ _).drew).later t5)
    have X5 := Lib.hid ((X0.out.below (Below.refl _ _).drew).below t5)
    have Q5 := Lib.hid Q5
    clear q1 q2 q4
    have q1 : w5.cell? ⟨w.heap.size, 1, none⟩ = some (.int .i64 (k : Int)) := X5.out.cell 1
    have q2 : w5.cell? ⟨w.heap.size, 2, none⟩ = some (.int .i64 z) := X5.out.cell 2
    have q4 : w5.cell? ⟨w.heap.size, 4, none⟩ = some (.int .u8 c) := X5.out.cell 4
    try (go_wp2_with fail)
    refine hK.out _ _ (by exact ⟨q1, q2, q4⟩) (fun hHeld => ?_)
    clear hK K
    try simp only [List.getElem_toArray, List.getElem_cons_succ, List.getElem_cons_zero, Act.put, List.setIfInBounds_toArray, List.set_cons_zero, List.set_cons_succ]
    refine wpAnyH_ready (rs := [8]) (by kernel_rfl) (by simp) ?_
    refine AllReadyH.cons rfl (fun K hK => ?_) AllReadyH.nil
    try simp only [List.getElem_toArray, List.getElem_cons_succ, List.getElem_cons_zero]
    go_simp
    obtain ⟨va, Fa, pa, hBa⟩ := H5.out.da
    refine (awrite_in (Lib.hid hBa) k HSA.out z (S := (· = b5)) (Lib.hid (Q5.out.bytes (S := (· = b5)) rfl)) (by rintro b rfl hu; have h1 := H0.out.da.lt hu; have h2 := l5; simp only [World.size_drew] at h2; omega) hcst).mono ?_
    rintro e w1 ⟨rfl, u1⟩
    obtain ⟨U1, H1, K1⟩ := H5.out.updA u1
    have H1 := Lib.hid H1
    have X1 := Lib.hid (X5.out.keeps K1 nU)
    clear hBa
    clear q1 q2 q4
    have q1 : w1.cell? ⟨w.heap.size, 1, none⟩ = some (.int .i64 (k : Int)) := X1.out.cell 1
    have q2 : w1.cell? ⟨w.heap.size, 2, none⟩ = some (.int .i64 z) := X1.out.cell 2
    have q4 : w1.cell? ⟨w.heap.size, 4, none⟩ = some (.int .u8 c) := X1.out.cell 4
    rw [HW.out]
    try (go_wp2_with fail)
    refine hK.out _ _ (by exact ⟨q1, q2, q4⟩) (fun hHeld => ?_)
    clear hK K
    try simp only [List.getElem_toArray, List.getElem_cons_succ, List.getElem_cons_zero, Act.put, List.setIfInBounds_toArray, List.set_cons_zero, List.set_cons_succ]
    refine wpAnyH_ready (rs := [16]) (by kernel_rfl) (by simp) ?_
    refine AllReadyH.cons rfl (fun K hK => ?_) AllReadyH.nil
    try simp only [List.getElem_toArray, List.getElem_cons_succ, List.getElem_cons_zero]
    go_simp
    refine (full_box c _).mono ?_
    rintro e w6 ⟨b6, rfl, l6, Q6, t6⟩
    have H6 := Lib.hid (H1.out.later t6)
    have X6 := Lib.hid (X1.out.below t6)
    have Q6 := Lib.hid Q6
    clear q1 q2 q4
    have q1 : w6.cell? ⟨w.heap.size, 1, none⟩ = some (.int .i64 (k : Int)) := X6.out.cell 1
    have q2 : w6.cell? ⟨w.heap.size, 2, none⟩ = some (.int .i64 z) := X6.out.cell 2
    have q4 : w6.cell? ⟨w.heap.size, 4, none⟩ = some (.int .u8 c) := X6.out.cell 4
    try (go_wp2_with fail)
    refine hK.out _ _ (by exact ⟨q1, q2, q4⟩) (fun hHeld => ?_)
    clear hK K
    try simp only [List.getElem_toArray, List.getElem_cons_succ, List.getElem_cons_zero, Act.put, List.setIfInBounds_toArray, List.set_cons_zero, List.set_cons_succ]
    refine wpAnyH_ready (rs := [17]) (by kernel_rfl) (by simp) ?_
    refine AllReadyH.cons rfl (fun K hK => ?_) AllReadyH.nil
    try simp only [List.getElem_toArray, List.getElem_cons_succ, List.getElem_cons_zero]
    go_simp
    obtain ⟨vr, Fr, pr, hBr⟩ := H6.out.dr
    refine (rawrite_in (Lib.hid hBr) k HRA.out hgd z (S := (· = b6)) (Lib.hid (Q6.out.bytes (S := (· = b6)) rfl))).mono ?_
    rintro e w2 ⟨rfl, u2⟩
    obtain ⟨V2, H2, K2⟩ := H6.out.updR u2
    have H2 := Lib.hid H2
    have X2 := Lib.hid (X6.out.keeps K2 nV)
    clear hBr
    clear q1 q2 q4
    have q1 : w2.cell? ⟨w.heap.size, 1, none⟩ = some (.int .i64 (k : Int)) := X2.out.cell 1
    have q2 : w2.cell? ⟨w.heap.size, 2, none⟩ = some (.int .i64 z) := X2.out.cell 2
    have q4 : w2.cell? ⟨w.heap.size, 4, none⟩ = some (.int .u8 c) := X2.out.cell 4
    try (go_wp2_with fail)
    refine hK.out _ _ (by exact ⟨q1, q2, q4⟩) (fun hHeld => ?_)
    clear hK K
    try simp only [List.getElem_toArray, List.getElem_cons_succ, List.getElem_cons_zero, Act.put, List.setIfInBounds_toArray, List.set_cons_zero, List.set_cons_succ]
    refine wpAnyH_take (i := 18) (v := ?_) rfl (by kernel_rfl) (by kernel_rfl) (by kernel_rfl) (fun _ _ _ h => h) (Or.inl ⟨by rfl, ?_⟩) (by assumption) ?_
    rotate_left
    · (intro wq hSw; (try dsimp only at hSw); (try simp only [List.getElem_toArray, List.getElem_cons_succ, List.getElem_cons_zero]); go_simp); try with_reducible rfl
    try simp only [List.getElem_toArray, List.getElem_cons_succ, List.getElem_cons_zero, Act.put, List.setIfInBounds_toArray, List.set_cons_zero, List.set_cons_succ]
    refine wpAnyH_take (i := 19) (v := ?_) rfl (by kernel_rfl) (by kernel_rfl) (by kernel_rfl) (fun _ _ _ h => h) (Or.inl ⟨by rfl, ?_⟩) (by assumption) ?_
    rotate_left
    · (intro wq hSw; (try dsimp only at hSw); (try simp only [List.getElem_toArray, List.getElem_cons_succ, List.getElem_cons_zero]); go_simp); try with_reducible rfl
    try simp only [List.getElem_toArray, List.getElem_cons_succ, List.getElem_cons_zero, Act.put, List.setIfInBounds_toArray, List.set_cons_zero, List.set_cons_succ]
    refine wpAnyH_done (by kernel_rfl) ?_ _
    go_wp2_with fail
    go_ret
    exact ⟨rfl, U1, V2, _, _, H2.out.twin (INV.out.set (HSM.out.write z (rep c)) (HFT.out.write z (rep c)))⟩
  · go_wp2_with fail
    clear q0
    refine wp_region_held_drew (S := fun w' => w'.cell? ⟨w.heap.size, 1, none⟩ = some (.int .i64 d) ∧ w'.cell? ⟨w.heap.size, 2, none⟩ = some (.int .i64 z) ∧ w'.cell? ⟨w.heap.size, 4, none⟩ = some (.int .u8 c)) (by kernel_rfl) (by exact ⟨q1, q2, q4⟩) (fun hHeld => ?_)
    refine wpAnyH_take (i := 0) (v := ?_) rfl (by kernel_rfl) (by kernel_rfl) (by kernel_rfl) (fun _ _ _ h => h) (Or.inl ⟨by rfl, ?_⟩) (by assumption) ?_
    rotate_left
    · (intro wq hSw; (try dsimp only at hSw); (try simp only [List.getElem_toArray, List.getElem_cons_succ, List.getElem_cons_zero]); go_simp); try with_reducible rfl
    try simp only [List.getElem_toArray, List.getElem_cons_succ, List.getElem_cons_zero, Act.put, List.setIfInBounds_toArray, List.set_cons_zero, List.set_cons_succ]
    refine wpAnyH_take (i := 1) (v := ?_) rfl (by kernel_rfl) (by kernel_rfl) (by kernel_rfl) (fun _ _ _ h => h) (Or.inl ⟨by rfl, ?_⟩) (by assumption) ?_
    rotate_left
    · (intro wq hSw; (try dsimp only at hSw); (try simp only [List.getElem_toArray, List.getElem_cons_succ, List.getElem_cons_zero]); go_simp); try with_reducible rfl
    try simp only [List.getElem_toArray, List.getElem_cons_succ, List.getElem_cons_zero, Act.put, List.setIfInBounds_toArray, List.set_cons_zero, List.set_cons_succ]
    refine wpAnyH_take (i := 2) (v := ?_) rfl (by kernel_rfl) (by kernel_rfl) (by kernel_rfl) (fun _ _ _ h => h) (Or.inl ⟨by rfl, ?_⟩) (by assumption) ?_
    rotate_left
    · (intro wq hSw; (try dsimp only at hSw); (try simp only [List.getElem_toArray, List.getElem_cons_succ, List.getElem_cons_zero]); go_simp); try with_reducible rfl
    try simp only [List.getElem_toArray, List.getElem_cons_succ, List.getElem_cons_zero, Act.put, List.setIfInBounds_toArray, List.set_cons_zero, List.set_cons_succ]
    refine wpAnyH_take (i := 3) (v := ?_) rfl (by kernel_rfl) (by kernel_rfl) (by kernel_rfl) (fun _ _ _ h => h) (Or.inl ⟨by rfl, ?_⟩) (by assumption) ?_
    rotate_left
    · (intro wq hSw; (try dsimp only at hSw); (try simp only [List.getElem_toArray, List.getElem_cons_succ, List.getElem_cons_zero]); go_simp); try with_reducible rfl
    try simp only [List.getElem_toArray, List.getElem_cons_succ, List.getElem_cons_zero, Act.put, List.setIfInBounds_toArray, List.set_cons_zero, List.set_cons_succ]
    refine wpAnyH_take (i := 4) (v := ?_) rfl (by kernel_rfl) (by kernel_rfl) (by kernel_rfl) (fun _ _ _ h => h) (Or.inl ⟨by rfl, ?_⟩) (by assumption) ?_
    rotate_left
    · (intro wq hSw; (try dsimp only at hSw); (try simp only [List.getElem_toArray, List.getElem_cons_succ, List.getElem_cons_zero]); go_simp); try with_reducible rfl
    try simp only [List.getElem_toArray, List.getElem_cons_succ, List.getElem_cons_zero, Act.put, List.setIfInBounds_toArray, List.set_cons_zero, List.set_cons_succ]
    refine wpAnyH_take (i := 5) (v := ?_) rfl (by kernel_rfl) (by kernel_rfl) (by kernel_rfl) (fun _ _ _ h => h) (Or.inl ⟨by rfl, ?_⟩) (by assumption) ?_
    rotate_left
    · (intro wq hSw; (try dsimp only at hSw); (try simp only [List.getElem_toArray, List.getElem_cons_succ, List.getElem_cons_zero]); go_simp); try with_reducible rfl
    try simp only [List.getElem_toArray, List.getElem_cons_succ, List.getElem_cons_zero, Act.put, List.setIfInBounds_toArray, List.set_cons_zero, List.set_cons_succ]
    refine wpAnyH_take (i := 6) (v := ?_) rfl (by kernel_rfl) (by kernel_rfl) (by kernel_rfl) (fun _ _ _ h => h) (Or.inl ⟨by rfl, ?_⟩) (by assumption) ?_
    rotate_left
    · (intro wq hSw; (try dsimp only at hSw); (try simp only [List.getElem_toArray, List.getElem_cons_succ, List.getElem_cons_zero]); go_simp); try with_reducible rfl
    try simp only [List.getElem_toArray, List.getElem_cons_succ, List.getElem_cons_zero, Act.put, List.setIfInBounds_toArray, List.set_cons_zero, List.set_cons_succ]
    refine wpAnyH_take (i := 9) (v := ?_) rfl (by kernel_rfl) (by kernel_rfl) (by kernel_rfl) (fun _ _ _ h => h) (Or.inl ⟨by rfl, ?_⟩) (by assumption) ?_
    rotate_left
    · (intro wq hSw; (try dsimp only at hSw); (try simp only [List.getElem_toArray, List.getElem_cons_succ, List.getElem_cons_zero]); go_simp); try with_reducible rfl
    try simp only [List.getElem_toArray, List.getElem_cons_succ, List.getElem_cons_zero, Act.put, List.setIfInBounds_toArray, List.set_cons_zero, List.set_cons_succ]
    refine wpAnyH_take (i := 10) (v := ?_) rfl (by kernel_rfl) (by kernel_rfl) (by kernel_rfl) (fun _ _ _ h => h) (Or.inl ⟨by rfl, ?_⟩) (by assumption) ?_
    rotate_left
    · (intro wq hSw; (try dsimp only at hSw); (try simp only [List.getElem_toArray, List.getElem_cons_succ, List.getElem_cons_zero]); go_simp); try with_reducible rfl
    try simp only [List.getElem_toArray, List.getElem_cons_succ, List.getElem_cons_zero, Act.put, List.setIfInBounds_toArray, List.set_cons_zero, List.set_cons_succ]
    refine wpAnyH_take (i := 11) (v := ?_) rfl (by kernel_rfl) (by kernel_rfl) (by kernel_rfl) (fun _ _ _ h => h) (Or.inl ⟨by rfl, ?_⟩) (by assumption) ?_
    rotate_left
    · (intro wq hSw; (try dsimp only at hSw); (try simp only [List.getElem_toArray, List.getElem_cons_succ, List.getElem_cons_zero]); go_simp); try with_reducible rfl
    try simp only [List.getElem_toArray, List.getElem_cons_succ, List.getElem_cons_zero, Act.put, List.setIfInBounds_toArray, List.set_cons_zero, List.set_cons_succ]
    refine wpAnyH_take (i := 12) (v := ?_) rfl (by kernel_rfl) (by kernel_rfl) (by kernel_rfl) (fun _ _ _ h => h) (Or.inl ⟨by rfl, ?_⟩) (by assumption) ?_
    rotate_left
    · (intro wq hSw; (try dsimp only at hSw); (try simp only [List.getElem_toArray, List.getElem_cons_succ, List.getElem_cons_zero]); go_simp); try with_reducible rfl
    try simp only [List.getElem_toArray, List.getElem_cons_succ, List.getElem_cons_zero, Act.put, List.setIfInBounds_toArray, List.set_cons_zero, List.set_cons_succ]
    refine wpAnyH_take (i := 13) (v := ?_) rfl (by kernel_rfl) (by kernel_rfl) (by kernel_rfl) (fun _ _ _ h => h) (Or.inl ⟨by rfl, ?_⟩) (by assumption) ?_
    rotate_left
    · (intro wq hSw; (try dsimp only at hSw); (try simp only [List.getElem_toArray, List.getElem_cons_succ, List.getElem_cons_zero]); go_simp); try with_reducible rfl
    try simp only [List.getElem_toArray, List.getElem_cons_succ, List.getElem_cons_zero, Act.put, List.setIfInBounds_toArray, List.set_cons_zero, List.set_cons_succ]
    refine wpAnyH_take (i := 14) (v := ?_) rfl (by kernel_rfl) (by kernel_rfl) (by kernel_rfl) (fun _ _ _ h => h) (Or.inl ⟨by rfl, ?_⟩) (by assumption) ?_
    rotate_left
    · (intro wq hSw; (try dsimp only at hSw); (try simp only [List.getElem_toArray, List.getElem_cons_succ, List.getElem_cons_zero]); go_simp); try with_reducible rfl
    try simp only [List.getElem_toArray, List.getElem_cons_succ, List.getElem_cons_zero, Act.put, List.setIfInBounds_toArray, List.set_cons_zero, List.set_cons_succ]
    refine wpAnyH_take (i := 15) (v := ?_) rfl (by kernel_rfl) (by kernel_rfl) (by kernel_rfl) (fun _ _ _ h => h) (Or.inl ⟨by rfl, ?_⟩) (by assumption) ?_
    rotate_left
    · (intro wq hSw; (try dsimp only at hSw); (try simp only [List.getElem_toArray, List.getElem_cons_succ, List.getElem_cons_zero]); go_simp); try with_reducible rfl
    try simp only [List.getElem_toArray, List.getElem_cons_succ, List.getElem_cons_zero, Act.put, List.setIfInBounds_toArray, List.set_cons_zero, List.set_cons_succ]
    refine wpAnyH_ready (rs := [7]) (by kernel_rfl) (by simp) ?_
    refine AllReadyH.cons rfl (fun K hK => ?_) AllReadyH.nil
    try simp only [List.getElem_toArray, List.getElem_cons_succ, List.getElem_cons_zero]
    go_simp
    refine (full_box c _).mono ?_
    rintro e w5 ⟨b5, rfl, l5, Q5, t5⟩
    have H5 := Lib.hid ((H0.out.later (Below.refl _ _).drew).later t5)
    have X5 := Lib.hid ((X0.out.below (Below.refl _ _).drew).below t5)
    have Q5 := Lib.hid Q5
    clear q1 q2 q4
    have q1 : w5.cell? ⟨w.heap.size, 1, none⟩ = some (.int .i64 d) := X5.out.cell 1
    have q2 : w5.cell? ⟨w.heap.size, 2, none⟩ = some (.int .i64 z) := X5.out.cell 2
    have q4 : w5.cell? ⟨w.heap.size, 4, none⟩ = some (.int .u8 c) := X5.out.cell 4
    try (go_wp2_with fail)
    refine hK.out _ _ (by exact ⟨q1, q2, q4⟩) (fun hHeld => ?_)
    clear hK K
    try simp only [List.getElem_toArray, List.getElem_cons_succ, List.getElem_cons_zero, Act.put, List.setIfInBounds_toArray, List.set_cons_zero, List.set_cons_succ]
    refine wpAnyH_ready (rs := [8]) (by kernel_rfl) (by simp) ?_
    refine AllReadyH.cons rfl (fun K hK => ?_) AllReadyH.nil
    try simp only [List.getElem_toArray, List.getElem_cons_succ, List.getElem_cons_zero]
    go_simp
    obtain ⟨va, Fa, pa, hBa⟩ := H5.out.da
    refine (awrite_out (Lib.hid hBa) (by omega) d (by omega) z _).mono ?_
    rintro e w1 ⟨rfl, t1⟩
    have H1 := Lib.hid (H5.out.later t1)
    have X1 := Lib.hid (X5.out.below t1)
    clear hBa
    clear q1 q2 q4
    have q1 : w1.cell? ⟨w.heap.size, 1, none⟩ = some (.int .i64 d) := X1.out.cell 1
    have q2 : w1.cell? ⟨w.heap.size, 2, none⟩ = some (.int .i64 z) := X1.out.cell 2
    have q4 : w1.cell? ⟨w.heap.size, 4, none⟩ = some (.int .u8 c) := X1.out.cell 4
    try (go_wp2_with fail)
    refine hK.out _ _ (by exact ⟨q1, q2, q4⟩) (fun hHeld => ?_)
    clear hK K
    try simp only [List.getElem_toArray, List.getElem_cons_succ, List.getElem_cons_zero, Act.put, List.setIfInBounds_toArray, List.set_cons_zero, List.set_cons_succ]
    refine wpAnyH_ready (rs := [16]) (by kernel_rfl) (by simp) ?_
    refine AllReadyH.cons rfl (fun K hK => ?_) AllReadyH.nil
    try simp only [List.getElem_toArray, List.getElem_cons_succ, List.getElem_cons_zero]
    go_simp
    refine (full_box c _).mono ?_
    rintro e w6 ⟨b6, rfl, l6, Q6, t6⟩
    have H6 := Lib.hid (H1.out.later t6)
    have X6 := Lib.hid (X1.out.below t6)
    have Q6 := Lib.hid Q6
    clear q1 q2 q4
    have q1 : w6.cell? ⟨w.heap.size, 1, none⟩ = some (.int .i64 d) := X6.out.cell 1
    have q2 : w6.cell? ⟨w.heap.size, 2, none⟩ = some (.int .i64 z) := X6.out.cell 2
    have q4 : w6.cell? ⟨w.heap.size, 4, none⟩ = some (.int .u8 c) := X6.out.cell 4
    try (go_wp2_with fail)
    refine hK.out _ _ (by exact ⟨q1, q2, q4⟩) (fun hHeld => ?_)
    clear hK K
    try simp only [List.getElem_toArray, List.getElem_cons_succ, List.getElem_cons_zero, Act.put, List.setIfInBounds_toArray, List.set_cons_zero, List.set_cons_succ]
    refine wpAnyH_ready (rs := [17]) (by kernel_rfl) (by simp) ?_
    refine AllReadyH.cons rfl (fun K hK => ?_) AllReadyH.nil
    try simp only [List.getElem_toArray, List.getElem_cons_succ, List.getElem_cons_zero]
    go_simp
    obtain ⟨vr, Fr, pr, hBr⟩ := H6.out.dr
    refine (rawrite_out (Lib.hid hBr) d (by omega) z _ _ _).mono ?_
    rintro e w2 ⟨rfl, t2⟩
    have HZ := Lib.hid (H6.out.later t2)
    have X2 := Lib.hid (X6.out.below t2)
    clear hBr
    clear q1 q2 q4
    have q1 : w2.cell? ⟨w.heap.size, 1, none⟩ = some (.int .i64 d) := X2.out.cell 1
    have q2 : w2.cell? ⟨w.heap.size, 2, none⟩ = some (.int .i64 z) := X2.out.cell 2
    have q4 : w2.cell? ⟨w.heap.size, 4, none⟩ = some (.int .u8 c) := X2.out.cell 4
    try (go_wp2_with fail)
    refine hK.out _ _ (by exact ⟨q1, q2, q4⟩) (fun hHeld => ?_)
    clear hK K
    try simp only [List.getElem_toArray, List.getElem_cons_succ, List.getElem_cons_zero, Act.put, List.setIfInBounds_toArray, List.set_cons_zero, List.set_cons_succ]
    refine wpAnyH_take (i := 18) (v := ?_) rfl (by kernel_rfl) (by kernel_rfl) (by kernel_rfl) (fun _ _ _ h => h) (Or.inl ⟨by rfl, ?_⟩) (by assumption) ?_
    rotate_left
    · (intro wq hSw; (try dsimp only at hSw); (try simp only [List.getElem_toArray, List.getElem_cons_succ, List.getElem_cons_zero]); go_simp); try with_reducible rfl
    try simp only [List.getElem_toArray, List.getElem_cons_succ, List.getElem_cons_zero, Act.put, List.setIfInBounds_toArray, List.set_cons_zero, List.set_cons_succ]
    refine wpAnyH_take (i := 19) (v := ?_) rfl (by kernel_rfl) (by kernel_rfl) (by kernel_rfl) (fun _ _ _ h => h) (Or.inl ⟨by rfl, ?_⟩) (by assumption) ?_
    rotate_left
    · (intro wq hSw; (try dsimp only at hSw); (try simp only [List.getElem_toArray, List.getElem_cons_succ, List.getElem_cons_zero]); go_simp); try with_reducible rfl
    try simp only [List.getElem_toArray, List.getElem_cons_succ, List.getElem_cons_zero, Act.put, List.setIfInBounds_toArray, List.set_cons_zero, List.set_cons_succ]
    refine wpAnyH_done (by kernel_rfl) ?_ _
    go_wp2_with fail
    go_ret
    exact ⟨rfl, U, V, sa, ra, HZ.out.twin h.out.out_⟩

set_option maxRecDepth 100000 in
set_option maxHeartbeats 8000000 in
theorem act10_put {w0 : World} {U V : Nat → Prop} {w : World} {a x n s t : Nat} {sa : List DSt} {ra : List RSt} (h : Hid (Twin w0 U V w a x n s t sa ra)) (hn : 0 < n) (hn2 : n ≤ 255) (ht : t < 1000) {KA : Option Addr} {km kc : Nat} {ks : List (List Bool)} (hk : Hid (RdL BoolsR 1 (fun b => b < w0.heap.size) w KA km ks)) (d z off c mask : Int) :
    Calls Try.prog 47 #[.pointer (some ⟨a, 0, none⟩), .pointer (some ⟨x, 0, none⟩), .agg #[.int .i64 9, .int .i64 d, .int .i64 z, .int .i64 off, .int .u8 c, .int .u32 mask, .slice KA km kc]] w fun e w' => e = .returned (.bool true) ∧ Went w0 w' a x n s (t + 1) := by
  have b0 : Below w.heap.size w (w.alloc (.cells #[.int .i64 9, .int .i64 d, .int .i64 z, .int .i64 off, .int .u8 c, .int .u32 mask, .slice KA km kc] 75)) := (Below.refl _ _).alloc (Nat.le_refl _) _
  have X0 := Lib.hid (BoxAt.new w #[.int .i64 9, .int .i64 d, .int .i64 z, .int .i64 off, .int .u8 c, .int .u32 mask, .slice KA km kc] 75)
  obtain ⟨wA, hwA⟩ : ∃ wA, w.alloc (.cells #[.int .i64 9, .int .i64 d, .int .i64 z, .int .i64 off, .int .u8 c, .int .u32 mask, .slice KA km kc] 75) = wA := ⟨_, rfl⟩
  rw [hwA] at b0 X0
  have H0 := Lib.hid (h.out.half.later b0)
  have INV := Lib.hid h.out.inv
  have hla : sa.length = n := INV.out.la
  have hlr : ra.length = n := INV.out.lr
  have nU : ¬ U w.heap.size := fun hu => by have := h.out.da.lt hu; omega
  have nV : ¬ V w.heap.size := fun hu => by have := h.out.dr.lt hu; omega
  have hcA := Lib.hid (INV.out.cache (by omega))
  have hgR := Lib.hid (INV.out.good (by omega))
  have hokA := Lib.hid h.out.da.ok
  have RK := Lib.hid (hk.out.below BoolsR.stable b0)
  have hws : w0.heap.size ≤ w.heap.size := h.out.below.size
  have nUV : ∀ b, b < w0.heap.size → ¬ U b ∧ ¬ V b := fun b hb => ⟨fun hu => by have := h.out.u1 b hu; omega, fun hv => by have := h.out.v1 b hv; omega⟩
  have NUV := Lib.hid nUV
  have q0 : wA.cell? ⟨w.heap.size, 0, none⟩ = some (.int .i64 9) := X0.out.cell 0
  have q1 : wA.cell? ⟨w.heap.size, 1, none⟩ = some (.int .i64 d) := X0.out.cell 1
  have q2 : wA.cell? ⟨w.heap.size, 2, none⟩ = some (.int .i64 z) := X0.out.cell 2
  have q3 : wA.cell? ⟨w.heap.size, 3, none⟩ = some (.int .i64 off) := X0.out.cell 3
  have q4 : wA.cell? ⟨w.heap.size, 4, none⟩ = some (.int .u8 c) := X0.out.cell 4
  have q5 : wA.cell? ⟨w.heap.size, 5, none⟩ = some (.int .u32 mask) := X0.out.cell 5
  have q6 : wA.cell? ⟨w.heap.size, 6, none⟩ = some (.slice KA km kc) := X0.out.cell 6
  clear b0 nUV
  go_enter Try.func47, Try.ntmps47
  clear q1 q5 q6
  obtain ⟨qn, hqn⟩ : ∃ q : Nat, min off 20 = q ∨ (min off 20 < 0 ∧ q = 0) := ⟨(min off 20).toNat, by omega⟩
  have HPE := Lib.hid (congrArg cnt (INV.out.put_eq z (rowsL c qn)))
  go_wp2_with fail
  clear q0
  refine wp_region_held_drew (S := fun w' => w'.cell? ⟨w.heap.size, 2, none⟩ = some (.int .i64 z) ∧ w'.cell? ⟨w.heap.size, 3, none⟩ = some (.int .i64 off) ∧ w'.cell? ⟨w.heap.size, 4, none⟩ = some (.int .u8 c)) (by kernel_rfl) (by exact ⟨q2, q3, q4⟩) (fun hHeld => ?_)
  refine wpAnyH_take (i := 0) (v := ?_) rfl (by kernel_rfl) (by kernel_rfl) (by kernel_rfl) (fun _ _ _ h => h) (Or.inl ⟨by rfl, ?_⟩) (by assumption) ?_
  rotate_left
  · (intro wq hSw; (try dsimp only at hSw); (try simp only [List.getElem_toArray, List.getElem_cons_succ, List.getElem_cons_zero]); go_simp); try with_reducible rfl
  try simp only [List.getElem_toArray, List.getElem_cons_succ, List.getElem_cons_zero, Act.put, List.setIfInBounds_toArray, List.set_cons_zero, List.set_cons_succ]
  refine wpAnyH_take (i := 1) (v := ?_) rfl (by kernel_rfl) (by kernel_rfl) (by kernel_rfl) (fun _ _ _ h => h) (Or.inl ⟨by rfl, ?_⟩) (by assumption) ?_
  rotate_left
  · (intro wq hSw; (try dsimp only at hSw); (try simp only [List.getElem_toArray, List.getElem_cons_succ, List.getElem_cons_zero]); go_simp); try with_reducible rfl
  try simp only [List.getElem_toArray, List.getElem_cons_succ, List.getElem_cons_zero, Act.put, List.setIfInBounds_toArray, List.set_cons_zero, List.set_cons_succ]
  refine wpAnyH_take (i := 2) (v := ?_) rfl (by kernel_rfl) (by kernel_rfl) (by kernel_rfl) (fun _ _ _ h => h) (Or.inl ⟨by rfl, ?_⟩) (by assumption) ?_
  rotate_left
  · (intro wq hSw; (try dsimp only at hSw); (try simp only [List.getElem_toArray, List.getElem_cons_succ, List.getElem_cons_zero]); go_simp); try with_reducible rfl
  try simp only [List.getElem_toArray, List.getElem_cons_succ, List.getElem_cons_zero, Act.put, List.setIfInBounds_toArray, List.set_cons_zero, List.set_cons_succ]
  refine wpAnyH_take (i := 3) (v := ?_) rfl (by kernel_rfl) (by kernel_rfl) (by kernel_rfl) (fun _ _ _ h => h) (Or.inl ⟨by rfl, ?_⟩) (by assumption) ?_
  rotate_left
  · (intro wq hSw; (try dsimp only at hSw); (try simp only [List.getElem_toArray, List.getElem_cons_succ, List.getElem_cons_zero]); go_simp); try with_reducible rfl
  try simp only [List.getElem_toArray, List.getElem_cons_succ, List.getElem_cons_zero, Act.put, List.setIfInBounds_toArray, List.set_cons_zero, List.set_cons_succ]
  refine wpAnyH_take (i := 4) (v := ?_) rfl (by kernel_rfl) (by kernel_rfl) (by kernel_rfl) (fun _ _ _ h => h) (Or.inl ⟨by rfl, ?_⟩) (by assumption) ?_
  rotate_left
  · (intro wq hSw; (try dsimp only at hSw); (try simp only [List.getElem_toArray, List.getElem_cons_succ, List.getElem_cons_zero]); go_simp); try with_reducible rfl
  try simp only [List.getElem_toArray, List.getElem_cons_succ, List.getElem_cons_zero, Act.put, List.setIfInBounds_toArray, List.set_cons_zero, List.set_cons_succ]
  refine wpAnyH_take (i := 5) (v := ?_) rfl (by kernel_rfl) (by kernel_rfl) (by kernel_rfl) (fun _ _ _ h => h) (Or.inl ⟨by rfl, ?_⟩) (by assumption) ?_
  rotate_left
  · (intro wq hSw; (try dsimp only at hSw); (try simp only [List.getElem_toArray, List.getElem_cons_succ, List.getElem_cons_zero]); go_simp); try with_reducible rfl
  try simp only [List.getElem_toArray, List.getElem_cons_succ, List.getElem_cons_zero, Act.put, List.setIfInBounds_toArray, List.set_cons_zero, List.set_cons_succ]
  refine wpAnyH_take (i := 6) (v := ?_) rfl (by kernel_rfl) (by kernel_rfl) (by kernel_rfl) (fun _ _ _ h => h) (Or.inl ⟨by rfl, ?_⟩) (by assumption) ?_
  rotate_left
  · (intro wq hSw; (try dsimp only at hSw); (try simp only [List.getElem_toArray, List.getElem_cons_succ, List.getElem_cons_zero]); go_simp); try with_reducible rfl
  try simp only [List.getElem_toArray, List.getElem_cons_succ, List.getElem_cons_zero, Act.put, List.setIfInBounds_toArray, List.set_cons_zero, List.set_cons_succ]
  refine wpAnyH_take (i := 9) (v := ?_) rfl (by kernel_rfl) (by kernel_rfl) (by kernel_rfl) (fun _ _ _ h => h) (Or.inl ⟨by rfl, ?_⟩) (by assumption) ?_
  rotate_left
  · (intro wq hSw; (try dsimp only at hSw); (try simp only [List.getElem_toArray, List.getElem_cons_succ, List.getElem_cons_zero]); go_simp); try with_reducible rfl
  try simp only [List.getElem_toArray, List.getElem_cons_succ, List.getElem_cons_zero, Act.put, List.setIfInBounds_toArray, List.set_cons_zero, List.set_cons_succ]
  refine wpAnyH_take (i := 10) (v := ?_) rfl (by kernel_rfl) (by kernel_rfl) (by kernel_rfl) (fun _ _ _ h => h) (Or.inl ⟨by rfl, ?_⟩) (by assumption) ?_
  rotate_left
  · (intro wq hSw; (try dsimp only at hSw); (try simp only [List.getElem_toArray, List.getElem_cons_succ, List.getElem_cons_zero]); go_simp); try with_reducible rfl
  try simp only [List.getElem_toArray, List.getElem_cons_succ, List.getElem_cons_zero, Act.put, List.setIfInBounds_toArray, List.set_cons_zero, List.set_cons_succ]
  refine wpAnyH_take (i := 11) (v := ?_) rfl (by kernel_rfl) (by kernel_rfl) (by kernel_rfl) (fun _ _ _ h => h) (Or.inl ⟨by rfl, ?_⟩) (by assumption) ?_
  rotate_left
  · (intro wq hSw; (try dsimp only at hSw); (try simp only [List.getElem_toArray, List.getElem_cons_succ, List.getElem_cons_zero]); go_simp); try with_reducible rfl
  try simp only [List.getElem_toArray, List.getElem_cons_succ, List.getElem_cons_zero, Act.put, List.setIfInBounds_toArray, List.set_cons_zero, List.set_cons_succ]
  refine wpAnyH_take (i := 12) (v := ?_) rfl (by kernel_rfl) (by kernel_rfl) (by kernel_rfl) (fun _ _ _ h => h) (Or.inl ⟨by rfl, ?_⟩) (by assumption) ?_
  rotate_left
  · (intro wq hSw; (try dsimp only at hSw); (try simp only [List.getElem_toArray, List.getElem_cons_succ, List.getElem_cons_zero]); go_simp); try with_reducible rfl
  try simp only [List.getElem_toArray, List.getElem_cons_succ, List.getElem_cons_zero, Act.put, List.setIfInBounds_toArray, List.set_cons_zero, List.set_cons_succ]
  refine wpAnyH_take (i := 13) (v := ?_) rfl (by kernel_rfl) (by kernel_rfl) (by kernel_rfl) (fun _ _ _ h => h) (Or.inl ⟨by rfl, ?_⟩) (by assumption) ?_
  rotate_left
  · (intro wq hSw; (try dsimp only at hSw); (try simp only [List.getElem_toArray, List.getElem_cons_succ, List.getElem_cons_zero]); go_simp); try with_reducible rfl
  try simp only [List.getElem_toArray, List.getElem_cons_succ, List.getElem_cons_zero, Act.put, List.setIfInBounds_toArray, List.set_cons_zero, List.set_cons_succ]
  refine wpAnyH_take (i := 14) (v := ?_) rfl (by kernel_rfl) (by kernel_rfl) (by kernel_rfl) (fun _ _ _ h => h) (Or.inl ⟨by rfl, ?_⟩) (by assumption) ?_
  rotate_left
  · (intro wq hSw; (try dsimp only at hSw); (try simp only [List.getElem_toArray, List.getElem_cons_succ, List.getElem_cons_zero]); go_simp); try with_reducible rfl
  try simp only [List.getElem_toArray, List.getElem_cons_succ, List.getElem_cons_zero, Act.put, List.setIfInBounds_toArray, List.set_cons_zero, List.set_cons_succ]
  refine wpAnyH_take (i := 15) (v := ?_) rfl (by kernel_rfl) (by kernel_rfl) (by kernel_rfl) (fun _ _ _ h => h) (Or.inl ⟨by rfl, ?_⟩) (by assumption) ?_
  rotate_left
  · (intro wq hSw; (try dsimp only at hSw); (try simp only [List.getElem_toArray, List.getElem_cons_succ, List.getElem_cons_zero]); go_simp); try with_reducible rfl
  try simp only [List.getElem_toArray, List.getElem_cons_succ, List.getElem_cons_zero, Act.put, List.setIfInBounds_toArray, List.set_cons_zero, List.set_cons_succ]
  refine wpAnyH_ready (rs := [7]) (by kernel_rfl) (by simp) ?_
  refine AllReadyH.cons rfl (fun K hK => ?_) AllReadyH.nil
  try simp only [List.getElem_toArray, List.getElem_cons_succ, List.getElem_cons_zero]
  go_simp
  refine (rowsOf_any c off qn hqn _).mono ?_
  rintro e w5 ⟨A5, c5, rfl, r5, t5⟩
  have H5 := Lib.hid ((H0.out.later (Below.refl _ _).drew).later t5)
  have X5 := Lib.hid ((X0.out.below (Below.refl _ _).drew).below t5)
  have R5 := Lib.hid r5
  clear q2 q3 q4
  have q2 : w5.cell? ⟨w.heap.size, 2, none⟩ = some (.int .i64 z) := X5.out.cell 2
  have q3 : w5.cell? ⟨w.heap.size, 3, none⟩ = some (.int .i64 off) := X5.out.cell 3
  have q4 : w5.cell? ⟨w.heap.size, 4, none⟩ = some (.int .u8 c) := X5.out.cell 4
  try (go_wp2_with fail)
  refine hK.out _ _ (by exact ⟨q2, q3, q4⟩) (fun hHeld => ?_)
  clear hK K
  try simp only [List.getElem_toArray, List.getElem_cons_succ, List.getElem_cons_zero, Act.put, List.setIfInBounds_toArray, List.set_cons_zero, List.set_cons_succ]
  refine wpAnyH_ready (rs := [8]) (by kernel_rfl) (by simp) ?_
  refine AllReadyH.cons rfl (fun K hK => ?_) AllReadyH.nil
  try simp only [List.getElem_toArray, List.getElem_cons_succ, List.getElem_cons_zero]
  go_simp
  refine (aput_any (Lib.hid H5.out.da) (by omega) (by omega) hcA z (c := c5) R5 (fun b hb => ⟨fun hu => by have h1 := H0.out.da.lt hu; have h2 := hb.1; simp only [World.size_drew] at h2; omega, hb.2⟩)).mono ?_
  rintro e w1 ⟨rfl, u1⟩
  rw [HPE.out]
  obtain ⟨U1, H1, K1⟩ := H5.out.updA u1
  have H1 := Lib.hid H1
  have X1 := Lib.hid (X5.out.keeps K1 nU)
  clear q2 q3 q4
  have q2 : w1.cell? ⟨w.heap.size, 2, none⟩ = some (.int .i64 z) := X1.out.cell 2
  have q3 : w1.cell? ⟨w.heap.size, 3, none⟩ = some (.int .i64 off) := X1.out.cell 3
  have q4 : w1.cell? ⟨w.heap.size, 4, none⟩ = some (.int .u8 c) := X1.out.cell 4
  try (go_wp2_with fail)
  refine hK.out _ _ (by exact ⟨q2, q3, q4⟩) (fun hHeld => ?_)
  clear hK K
  try simp only [List.getElem_toArray, List.getElem_cons_succ, List.getElem_cons_zero, Act.put, List.setIfInBounds_toArray, List.set_cons_zero, List.set_cons_succ]
  refine wpAnyH_ready (rs := [16]) (by kernel_rfl) (by simp) ?_
  refine AllReadyH.cons rfl (fun K hK => ?_) AllReadyH.nil
  try simp only [List.getElem_toArray, List.getElem_cons_succ, List.getElem_cons_zero]
  go_simp
  refine (rowsOf_any c off qn hqn _).mono ?_
  rintro e w6 ⟨A6, c6, rfl, r6, t6⟩
  have H6 := Lib.hid (H1.out.later t6)
  have X6 := Lib.hid (X1.out.below t6)
  have R6 := Lib.hid r6
  clear q2 q3 q4
  have q2 : w6.cell? ⟨w.heap.size, 2, none⟩ = some (.int .i64 z) := X6.out.cell 2
  have q3 : w6.cell? ⟨w.heap.size, 3, none⟩ = some (.int .i64 off) := X6.out.cell 3
  have q4 : w6.cell? ⟨w.heap.size, 4, none⟩ = some (.int .u8 c) := X6.out.cell 4
  try (go_wp2_with fail)
  refine hK.out _ _ (by exact ⟨q2, q3, q4⟩) (fun hHeld => ?_)
  clear hK K
  try simp only [List.getElem_toArray, List.getElem_cons_succ, List.getElem_cons_zero, Act.put, List.setIfInBounds_toArray, List.set_cons_zero, List.set_cons_succ]
  refine wpAnyH_ready (rs := [17]) (by kernel_rfl) (by simp) ?_
  refine AllReadyH.cons rfl (fun K hK => ?_) AllReadyH.nil
  try simp only [List.getElem_toArray, List.getElem_cons_succ, List.getElem_cons_zero]
  go_simp
  refine (raput_any (Lib.hid H6.out.dr) (by omega) (by omega) hgR z (c := c6) R6 (fun b hb => ⟨fun hv => by have h1 := H1.out.dr.lt hv; have h2 := hb.1; omega, hb.2⟩)).mono ?_
  rintro e w2 ⟨rfl, u2⟩
  obtain ⟨V2, H2, K2⟩ := H6.out.updR u2
  have H2 := Lib.hid H2
  have X2 := Lib.hid (X6.out.keeps K2 nV)
  clear q2 q3 q4
  have q2 : w2.cell? ⟨w.heap.size, 2, none⟩ = some (.int .i64 z) := X2.out.cell 2
  have q3 : w2.cell? ⟨w.heap.size, 3, none⟩ = some (.int .i64 off) := X2.out.cell 3
  have q4 : w2.cell? ⟨w.heap.size, 4, none⟩ = some (.int .u8 c) := X2.out.cell 4
  try (go_wp2_with fail)
  refine hK.out _ _ (by exact ⟨q2, q3, q4⟩) (fun hHeld => ?_)
  clear hK K
  try simp only [List.getElem_toArray, List.getElem_cons_succ, List.getElem_cons_zero, Act.put, List.setIfInBounds_toArray, List.set_cons_zero, List.set_cons_succ]
  refine wpAnyH_take (i := 18) (v := ?_) rfl (by kernel_rfl) (by kernel_rfl) (by kernel_rfl) (fun _ _ _ h => h) (Or.inl ⟨by rfl, ?_⟩) (by assumption) ?_
  rotate_left
  · (intro wq hSw; (try dsimp only at hSw); (try simp only [List.getElem_toArray, List.getElem_cons_succ, List.getElem_cons_zero]); go_simp); try with_reducible rfl
  try simp only [List.getElem_toArray, List.getElem_cons_succ, List.getElem_cons_zero, Act.put, List.setIfInBounds_toArray, List.set_cons_zero, List.set_cons_succ]
  refine wpAnyH_take (i := 19) (v := ?_) rfl (by kernel_rfl) (by kernel_rfl) (by kernel_rfl) (fun _ _ _ h => h) (Or.inl ⟨by rfl, ?_⟩) (by assumption) ?_
  rotate_left
  · (intro wq hSw; (try dsimp only at hSw); (try simp only [List.getElem_toArray, List.getElem_cons_succ, List.getElem_cons_zero]); go_simp); try with_reducible rfl
  try simp only [List.getElem_toArray, List.getElem_cons_succ, List.getElem_cons_zero, Act.put, List.setIfInBounds_toArray, List.set_cons_zero, List.set_cons_succ]
  refine wpAnyH_done (by kernel_rfl) ?_ _
  go_wp2_with fail
  go_ret
  refine ⟨rfl, U1, V2, _, _, H2.out.twin ?_⟩
  refine INV.out.map _ _ (fun i st rs h1 h2 => ?_)
  have SM := INV.out.sim i st rs h1 h2
  have FT : Fit s t rs := ⟨INV.out.rng rs (List.mem_of_getElem? h2), INV.out.few rs (List.mem_of_getElem? h2)⟩
  unfold putG putRR
  split
  · exact ⟨SM.write z _, FT.write z _⟩
  · exact ⟨SM, FT.1, Nat.le_succ_of_le FT.2⟩

/-- An act, whatever it is. -/
theorem act10_any {w0 : World} {U V : Nat → Prop} {w : World} {a x n s t : Nat} {sa : List DSt} {ra : List RSt} (h : Hid (Twin w0 U V w a x n s t sa ra)) (hn : 0 < n) (hn2 : n ≤ 255) (ht : t < 1000) {KA : Option Addr} {km kc : Nat} (y : ActA) (hk : Hid (RdL BoolsR 1 (fun b => b < w0.heap.size) w KA km y.keep)) :
    Calls Try.prog 47 #[.pointer (some ⟨a, 0, none⟩), .pointer (some ⟨x, 0, none⟩), .agg #[.int .i64 y.kind, .int .i64 y.d, .int .i64 y.at_, .int .i64 y.off, .int .u8 y.c, .int .u32 y.mask, .slice KA km kc]] w fun e w' => e = .returned (.bool true) ∧ Went w0 w' a x n s (t + 1) := by
  obtain ⟨kind, d, z, off, c, mask, ks⟩ := y
  by_cases e0 : kind = 0
  · subst e0; exact act10_write0 h hn hn2 ht hk d z off c mask
  by_cases e1 : kind = 1
  · subst e1; exact act10_write1 h hn hn2 ht hk d z off c mask
  by_cases e2 : kind = 2
  · subst e2; exact act10_write2 h hn hn2 ht hk d z off c mask
  by_cases e3 : kind = 3
  · subst e3; exact act10_flush h hn hn2 ht hk d z off c mask
  by_cases e4 : kind = 4
  · subst e4; exact act10_crash h hn hn2 ht hk d z off c mask
  by_cases e5 : kind = 5
  · subst e5; exact act10_fail h hn hn2 ht hk d z off c mask
  by_cases e6 : kind = 6
  · subst e6; exact act10_repl h hn hn2 ht hk d z off c mask
  by_cases e7 : kind = 7
  · subst e7; exact act10_rot h hn hn2 ht hk d z off c mask
  by_cases e9 : kind = 9
  · subst e9; exact act10_put h hn hn2 ht hk d z off c mask
  exact act10_none h hn hn2 ht hk d z off c mask kind (by simpa using e0) (by simpa using e1) (by simpa using e2) (by simpa using e3) (by simpa using e4) (by simpa using e5) (by simpa using e6) (by simpa using e7) (by simpa using e9)

end Go.Proofs.Ytolmpopjonkfgaa
