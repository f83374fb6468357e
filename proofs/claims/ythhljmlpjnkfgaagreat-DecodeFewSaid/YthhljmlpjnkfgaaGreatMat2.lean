/-
  Matrices: nobody, Right, row, At, twice.
-/
import Derived.Test.YthhljmlpjnkfgaaGreatMat1
set_option linter.unusedSimpArgs false
set_option linter.unusedVariables false
namespace Go.Proofs.YthhljmlpjnkfgaaGreat
open Go.RowKit Go.Cib
attribute [local go_sem] cell_set Later.cell Later.frozen Grw.cell Grw.frozen

theorem within_ok {w : World} {n : Nat} (h1 : 1 ≤ n) (h2 : n ≤ 255) : Calls Tryz.prog 46 #[.int .i64 (n : Int)] w fun e w' => e = .returned (.bool true) ∧ w' = w := by
  have h := within_any (w := w) (n : Int)
  rwa [show decide (1 ≤ (n : Int) ∧ (n : Int) ≤ 255) = true by simp; omega] at h
theorem dv_11 : dv 1 1 = 1 := by decide +kernel
set_option maxRecDepth 100000 in
set_option maxHeartbeats 1600000 in
/-- The first quotient: the tables are made. -/
theorem div_new {w : World} {b : Nat} (F : FldNew w b) :
    Calls Tryz.prog 50 #[.pointer (some ⟨b, 0, none⟩), .int .u8 1, .int .u8 1] w fun e w' => e = .returned (.tuple #[.int .u8 1, .int .i64 0]) ∧ Fld w' b ∧ Keep (· = b) w w' := by
  have hR := ready_new F
  clear F
  go_enter Tryz.func50, Tryz.ntmps50
  go_wp2_with (go_at_call 68; refine hR.mono ?_; rintro e w2 ⟨rfl, F, K⟩; have HK := Lib.hid K; have HF := Lib.hid F; clear K hR; have l1 : w2.cell? ⟨b, 515, none⟩ = some (.int .i64 0) := F.log 1 (by decide) (by decide); have x1 : w2.cell? ⟨b, 259, none⟩ = some (.int .u8 1) := (F.exp 255 (by decide)).trans (by rw [ex_255]; rfl); have hbl := F.lt; clear F)
  refine wp_region_later (by kernel_rfl) (by kernel_rfl) ?_
  repeat (go_big_quiet_step (fail))
  refine wpQuiet_nil ?_
  rintro _ ⟨z, rfl⟩
  go_wp2_with fail
  go_ret2
  exact ⟨rfl, HF.out.below z.ok, HK.out.trans (Keep.of_below (F := fun _ => False) z.ok) (fun _ h => h.elim)⟩
set_option maxRecDepth 100000 in
theorem nobody_new {w : World} {b : Nat} (F : FldNew w b) :
    Calls Tryz.prog 45 #[.pointer (some ⟨b, 0, none⟩)] w fun e w' => e = .returned (.bool false) ∧ Fld w' b ∧ Keep (· = b) w w' := by
  have hD := div_new F
  clear F
  go_enter Tryz.func45, Tryz.ntmps45
  go_wp2_with (go_at_call 50; refine hD.mono ?_; rintro e w2 ⟨rfl, F, K⟩; have HF := Lib.hid F; have HK := Lib.hid K; clear F K hD)
  go_ret
  exact ⟨rfl, HF.out, HK.out⟩
set_option maxRecDepth 100000 in
theorem nobody_any {w : World} {b : Nat} (F : Fld w b) :
    Calls Tryz.prog 45 #[.pointer (some ⟨b, 0, none⟩)] w fun e w' => e = .returned (.bool false) ∧ Below w.heap.size w w' := by
  have hD := div_any F (a := 1) (c := 1) (by decide) (by decide) (by decide)
  rw [dv_11] at hD
  clear F
  go_enter Tryz.func45, Tryz.ntmps45
  go_wp2_with (go_at_call 50; refine hD.mono ?_; rintro e w2 ⟨rfl, hb⟩; have HK := Lib.hid hb; clear hb hD)
  go_ret
  exact ⟨rfl, HK.out⟩

set_option maxRecDepth 100000 in
theorem right_ok {w : World} {rows cols c : Nat} {A : Option Addr} (h1 : 1 ≤ rows) (h2 : rows ≤ 255) (h3 : 1 ≤ cols) (h4 : cols ≤ 255) :
    Calls Tryz.prog 75 #[.agg #[.int .i64 (rows : Int), .int .i64 (cols : Int), .slice A (rows * cols) c]] w fun e w' => e = .returned (.bool true) ∧ Below w.heap.size w w' := by
  have hmx : rows * cols ≤ 65025 := Nat.mul_le_mul h2 h4
  have q4 : IntKind.i64.wrap ((rows : Int) * (cols : Int)) = ((rows * cols : Nat) : Int) := by
    rw [IntKind.wrap_i64, ← Int.natCast_mul]; omega
  have d1 : decide (1 ≤ (rows : Int) ∧ (rows : Int) ≤ 255) = true := by simp; omega
  have d2 : decide (1 ≤ (cols : Int) ∧ (cols : Int) ≤ 255) = true := by simp; omega
  go_enter Tryz.func75, Tryz.ntmps75
  go_wp2_with (go_at_call 46; refine (within_any _).mono ?_; rintro e w' ⟨rfl, rfl⟩; try rw [d1]; try rw [d2])
  go_ret
  exact ⟨by simp, (by repeat (first | (with_reducible exact Below.refl _ _) | (with_reducible assumption) | (with_reducible refine Below.drew ?_) | (with_reducible refine Below.setCell ?_ ?_ _) | (with_reducible refine Below.alloc ?_ ?_ _) | (with_reducible refine Below.later ?_ ?_ _) | (first | (with_reducible exact Nat.le_refl _) | omega | (simp only [World.size_alloc, World.size_setCell, World.size_drew] <;> omega))))⟩
theorem piece3 {T E : TypeId} {z : Value} {s b : Nat} (st : SlTy Tryz.prog T E z s b) {A : Option Addr} {N c l h : Nat} (h1 : l < h) (h2 : h ≤ c) (w : World) : (Instr.slice T (.slice A N c) (some (.int .i64 (l : Int))) (some (.int .i64 (h : Int))) (some (.int .i64 (h : Int)))).run Tryz.prog w = .ok (.slice (A.map (fun x : Addr => x.add (l * s))) (h - l) (h - l)) w := by
  obtain ⟨i, hi, hz, hsz, hby⟩ := info_parts st.info
  have hel : Tryz.prog.elem T = E := by simp [Program.elem, st.und]
  have ht : Tryz.prog.underlying T = some (.slice (Tryz.prog.elem T)) := by rw [hel]; exact st.und
  have e1 : ((h : Int)).toNat = h := Int.toNat_natCast _
  simp only [Instr.slice, Sem.run_bind, run_underlying ht, Result.andThen, Instr.sliceBounds]
  have hs : (sizeOf E).run Tryz.prog w = .ok s w := by
    simp [sizeOf, typeInfo, hi, hsz]
  have a1 : (l : Int) ≤ (h : Int) := by omega
  have a2 : (h : Int) ≤ (c : Int) := by omega
  have a3 : (0 : Int) ≤ (l : Int) := Int.natCast_nonneg _
  have a4 : (0 : Int) ≤ (h : Int) := Int.natCast_nonneg _
  have a5 : ¬ h = l := by omega
  simp [run_sliceBound, hs, Result.andThen, *]
theorem row_any {w : World} {cols i n c : Nat} {A : Option Addr} (hn : (i + 1) * cols ≤ n) (hc : n ≤ c) (hi : i ≤ 255) (hcols : cols ≤ 255) (h0 : 1 ≤ cols) :
    Calls Tryz.prog 76 #[.slice A n c, .int .i64 (cols : Int), .int .i64 (i : Int)] w fun e w' => e = .returned (.slice (A.map fun x : Addr => x.add (i * cols)) cols cols) ∧ w' = w := by
  have hmx : i * cols ≤ 65025 := Nat.mul_le_mul hi hcols
  have hsm : (i + 1) * cols = i * cols + cols := Nat.succ_mul _ _
  have q1 : IntKind.i64.wrap ((i : Int) * (cols : Int)) = ((i * cols : Nat) : Int) := by
    rw [IntKind.wrap_i64, ← Int.natCast_mul]; omega
  have q2 : IntKind.i64.wrap (((i : Int) + 1) * (cols : Int)) = (((i + 1) * cols : Nat) : Int) := by
    rw [IntKind.wrap_i64, show ((i : Int) + 1) = ((i + 1 : Nat) : Int) by omega, ← Int.natCast_mul]; omega
  have q3 : (i : Int) ≤ 255 := by omega
  have q4 : (0 : Int) ≤ (i : Int) := Int.natCast_nonneg _
  have hp := fun w => piece3 sl_by (A := A) (N := n) (c := c) (l := i * cols) (h := (i + 1) * cols) (by omega) (by omega) w
  rw [show (i + 1) * cols - i * cols = cols by omega, Nat.mul_one, Int.natCast_mul, Int.natCast_mul, show ((i + 1 : Nat) : Int) = (i : Int) + 1 by omega] at hp
  rw [Int.natCast_mul] at q1
  rw [Int.natCast_mul, show ((i + 1 : Nat) : Int) = (i : Int) + 1 by omega] at q2
  clear hmx hsm
  go_enter Tryz.func76, Tryz.ntmps76
  go_wp2_with fail
  go_ret
  exact ⟨rfl, rfl⟩

set_option maxRecDepth 100000 in
set_option maxHeartbeats 1600000 in
theorem at_any {w : World} {rows cols c : Nat} {A : Option Addr} {S : Nat → Prop} {xs : List Nat} (h1 : 1 ≤ rows) (h2 : rows ≤ 255) (h3 : 1 ≤ cols) (h4 : cols ≤ 255) (R : RdL ByR 1 S w A (rows * cols) xs) (hc : rows * cols ≤ c) {i j : Nat} (hi : i < rows) (hj : j < cols) :
    Calls Tryz.prog 74 #[.agg #[.int .i64 (rows : Int), .int .i64 (cols : Int), .slice A (rows * cols) c], .int .i64 (i : Int), .int .i64 (j : Int)] w fun e w' => e = .returned (.int .u8 (gt xs (i * cols + j) : Int)) ∧ Below w.heap.size w w' := by
  have hmul : (i + 1) * cols ≤ rows * cols := Nat.mul_le_mul hi (Nat.le_refl _)
  have hsm : (i + 1) * cols = i * cols + cols := Nat.succ_mul _ _
  obtain ⟨bb, o, rfl, _, hbb⟩ := R.addr (k := i * cols + j) (by omega)
  have hv := (by_at R (k := i * cols + j) (by omega)).1
  have hR := fun w' => right_ok (w := w') (A := some ⟨bb, o, none⟩) (c := c) h1 h2 h3 h4
  have hrow := fun w' => row_any (w := w') (n := rows * cols) (c := c) (A := some ⟨bb, o, none⟩) hmul hc (by omega : i ≤ 255) h4 h3
  have ha : Option.map (fun x : Addr => x.add (i * cols)) (some ⟨bb, o, none⟩) = some ⟨bb, o + i * cols, none⟩ := by
    simp only [Option.map_some, Addr.add]
    split
    · rename_i e; rw [e]; rfl
    · rfl
  rw [ha] at hrow
  have hv2 : w.cell? ⟨bb, o + i * cols + j, none⟩ = some (.int .u8 (gt xs (i * cols + j) : Int)) := by rw [Nat.add_assoc]; exact hv
  have HV := Lib.hid hv2
  have q1 : (i : Int) < (rows : Int) := by omega
  have q2 : (j : Int) < (cols : Int) := by omega
  have q3 : (0 : Int) ≤ (i : Int) := Int.natCast_nonneg _
  have q4 : (0 : Int) ≤ (j : Int) := Int.natCast_nonneg _
  obtain ⟨wA, hwA⟩ : ∃ wA, w.alloc (.cells #[.int .i64 (rows : Int), .int .i64 (cols : Int), .slice (some ⟨bb, o, none⟩) (rows * cols) c] 55) = wA := ⟨_, rfl⟩
  have bx := BoxAt.new w #[.int .i64 (rows : Int), .int .i64 (cols : Int), .slice (some ⟨bb, o, none⟩) (rows * cols) c] 55
  have b0 : Below w.heap.size w (w.alloc (.cells #[.int .i64 (rows : Int), .int .i64 (cols : Int), .slice (some ⟨bb, o, none⟩) (rows * cols) c] 55)) := (Below.refl _ _).alloc (Nat.le_refl _) _
  rw [hwA] at bx b0
  have k0 := bx.cell 0
  have k1 := bx.cell 1
  have k2 := bx.cell 2
  have BX := Lib.hid bx
  have B0 := Lib.hid b0
  clear hmul hsm hv ha hv2 bx b0 R
  go_enter Tryz.func74, Tryz.ntmps74
  go_wp2_with (first | (go_at_call 75; refine (hR _).mono ?_; rintro e w2 ⟨rfl, hb2⟩; have BX2 := BX.out.below hb2; replace k0 := BX2.cell 0; replace k1 := BX2.cell 1; replace k2 := BX2.cell 2; have hx := (((B0.out.trans (hb2.mono B0.out.size)).cell (p := ⟨bb, o + i * cols + j, none⟩) hbb).trans HV.out); have HB2 := Lib.hid (B0.out.trans (hb2.mono B0.out.size)); clear hb2) | (go_at_call 76; refine (hrow _).mono ?_; rintro e w3 ⟨rfl, rfl⟩))
  go_ret
  exact ⟨rfl, HB2.out⟩

/-- A row of bytes. -/
def RowR (S : Nat → Prop) (w : World) (cs : List Value) (x : List Nat) : Prop := ∃ A n c, cs = [.slice A n c] ∧ n ≤ c ∧ RdL ByR 1 S w A n x
theorem RowR.stable : Stable RowR := fun S S' w w' cs x h hk => by
  obtain ⟨A, n, c, rfl, h1, h2⟩ := h
  exact ⟨A, n, c, rfl, h1, h2.stable ByR.stable hk⟩
theorem RowR.one : ∀ S w cs x, RowR S w cs x → ∀ u ∈ cs, u.oneCell' = true := by
  rintro S w cs x ⟨A, n, c, rfl, _, _⟩ u hu
  simp at hu
  subst hu; rfl
theorem row_at {S : Nat → Prop} {w : World} {b o n : Nat} {l : Rws} (h : RdL RowR 1 S w (some ⟨b, o, none⟩) n l) {k : Nat} (hk : k < n) :
    ∃ A m c, w.cell? ⟨b, o + k, none⟩ = some (.slice A m c) ∧ m ≤ c ∧ RdL ByR 1 S w A m (ra l k) := by
  obtain ⟨hl, cs, _, ⟨A, m, c, rfl, h1, h2⟩, h3⟩ := h.at hk
  refine ⟨A, m, c, ?_, h1, ?_⟩
  · have := h3 0 _ rfl
    rwa [Nat.mul_one, Nat.add_zero] at this
  · rwa [ra_some (List.getElem?_eq_getElem hl)]
/-- Which bytes were met. -/
def MetI (w : World) (b : Nat) (seen : List Nat) : Prop := ∃ cur : Array Value, BoxAt w b cur ∧ ∀ c, c < 256 → cur[c]? = some (.bool (decide (c ∈ seen)))
theorem MetI.new (w : World) (t : TypeId) (cur : Array Value) (h : ∀ c, c < 256 → cur[c]? = some (.bool false)) : MetI (w.alloc (.cells cur t)) w.heap.size [] := ⟨cur, BoxAt.new _ _ _, fun c hc => by rw [h c hc]; simp⟩
theorem MetI.below {w w' : World} {b : Nat} {seen : List Nat} (h : MetI w b seen) (hb : Below w.heap.size w w') : MetI w' b seen := by
  obtain ⟨cur, h1, h2⟩ := h
  exact ⟨cur, h1.below hb, h2⟩
theorem MetI.set {w : World} {b c : Nat} {seen : List Nat} (h : MetI w b seen) (hc : c < 256) : MetI (w.setCell ⟨b, c, none⟩ (.bool true)) b (seen ++ [c]) := by
  obtain ⟨cur, h1, h2⟩ := h
  have hl : c < cur.size := by
    have := h2 c hc
    exact (Array.getElem?_eq_some_iff.1 this).1
  refine ⟨_, h1.set c (.bool true), fun d hd => ?_⟩
  by_cases e : d = c
  · subst e
    rw [set_eq hl]; simp
  · rw [set_ne (fun h => e h.symm), h2 d hd]
    simp [e]
theorem zero256 : Tryz.zeroCells122 = Array.replicate 256 (.bool false) := by kernel_rfl
theorem flatten_take {ls : Rws} {k : Nat} (hk : k < ls.length) : (ls.take (k + 1)).flatten = (ls.take k).flatten ++ ra ls k := by
  rw [List.take_add_one, ra_of_lt hk, List.flatten_append]; simp
theorem take_gt {l : List Nat} {j : Nat} (hj : j < l.length) : l.take (j + 1) = l.take j ++ [gt l j] := by
  rw [List.take_add_one, gt_of_lt hj]; rfl
theorem nodup_at {ls : Rws} {k j : Nat} (hk : k < ls.length) (hj : j < (ra ls k).length) (h : ls.flatten.Nodup) : gt (ra ls k) j ∉ (ls.take k).flatten ++ (ra ls k).take j := by
  have h1 : ls.flatten = (ls.take (k + 1)).flatten ++ (ls.drop (k + 1)).flatten := by rw [← List.flatten_append, List.take_append_drop]
  rw [h1, flatten_take hk, List.nodup_append] at h
  have h2 := h.1
  rw [← List.take_append_drop (j + 1) (ra ls k), take_gt hj, ← List.append_assoc, ← List.append_assoc] at h2
  have h3 := (List.nodup_append.1 h2).1
  have h4 := List.nodup_append.1 h3
  intro hm
  exact h4.2.2 _ hm _ (List.mem_singleton.2 rfl) rfl
set_option maxRecDepth 100000 in
set_option maxHeartbeats 4000000 in
theorem twice_any {w : World} {n c : Nat} {A : Option Addr} {S : Nat → Prop} {ls : Rws} (R : RdL RowR 1 S w A n ls) (hn : n ≤ 1000000) (hlen : ∀ l ∈ ls, l.length ≤ 1000000) (hnd : ls.flatten.Nodup) :
    Calls Tryz.prog 47 #[.slice A n c] w fun e w' => e = .returned (.bool false) ∧ Below w.heap.size w w' := by
  have HR := Lib.hid R
  have hl := R.1
  have q0 : (n : Int) ≤ 1000000 := by omega
  clear R
  go_enter Tryz.func47, Tryz.ntmps47
  go_wp2_with fail
  have hm0 := MetI.new w 122 Tryz.zeroCells122 (fun c hc => by rw [zero256, Array.getElem?_replicate, if_pos hc])
  have hb0 : Below w.heap.size w (w.alloc (.cells Tryz.zeroCells122 122)) := (Below.refl _ _).alloc (Nat.le_refl _) _
  generalize w.alloc (.cells Tryz.zeroCells122 122) = wA at *
  have M0 := Lib.hid hm0
  have B0 := Lib.hid hb0
  clear hm0 hb0
  go_loopw [10] (fun vi wr => ∃ k : Nat, k ≤ n ∧ vi = .int .i64 k ∧ Hid (MetI wr w.heap.size (ls.take k).flatten) ∧ Hid (Below w.heap.size w wr)) (fun vi _ => n - (intOf vi).toNat)
  case atStart => exact ⟨0, Nat.zero_le _, rfl, M0, B0⟩
  case round =>
    obtain ⟨wo, rfl⟩ : ∃ wo, wo = wr := ⟨_, rfl⟩
    clear M0 B0
    obtain ⟨k, hk, rfl, HM, HB⟩ := hrel
    have p0 : (0 : Int) ≤ (k : Int) := Int.natCast_nonneg _
    by_cases hlt : k < n
    · have p1 : (k : Int) < (n : Int) := by omega
      obtain ⟨bb, o, rfl, _, hbb⟩ := HR.out.addr hlt
      obtain ⟨A1, m1, c1, hv, hmc, hr⟩ := row_at HR.out hlt
      replace hv := (HB.out.cell (p := ⟨bb, o + k, none⟩) hbb).trans hv
      have HR1 := Lib.hid hr
      have hrl := hr.1
      have hkl : k < ls.length := by omega
      have p2 : (m1 : Int) ≤ 1000000 := by have := hlen _ (ra_mem hkl); omega
      have HLT := Lib.hid hlt
      clear hr hlt
      go_wp2_with fail
      go_loopw [16] (fun vi wr => ∃ j : Nat, j ≤ m1 ∧ vi = .int .i64 j ∧ Hid (MetI wr w.heap.size ((ls.take k).flatten ++ (ra ls k).take j)) ∧ Hid (Below w.heap.size w wr)) (fun vi _ => m1 - (intOf vi).toNat)
      case atStart => exact ⟨0, Nat.zero_le _, rfl, by rw [List.take_zero, List.append_nil]; exact HM, HB⟩
      case round =>
        clear HM HB hv
        obtain ⟨j, hj, rfl, HM, HB⟩ := hrel
        have p3 : (0 : Int) ≤ (j : Int) := Int.natCast_nonneg _
        by_cases hlj : j < m1
        · have p4 : (j : Int) < (m1 : Int) := by omega
          obtain ⟨b2, o2, rfl, _, hb2⟩ := HR1.out.addr hlj
          obtain ⟨c2, x2⟩ := by_at HR1.out hlj
          replace c2 := (HB.out.cell (p := ⟨b2, o2 + j, none⟩) hb2).trans c2
          have hni := nodup_at hkl (j := j) (by omega) hnd
          have hset := HM.out.set x2
          obtain ⟨cur, h1, h2⟩ := HM.out
          have m2 := (h1.cell (gt (ra ls k) j)).trans (h2 _ x2)
          rw [decide_eq_false hni] at m2
          have f2 := h1.frozen (gt (ra ls k) j)
          rw [List.append_assoc, ← take_gt (by omega)] at hset
          have p5 : ((gt (ra ls k) j : Nat) : Int) < 256 := by omega
          have p6 : (0 : Int) ≤ ((gt (ra ls k) j : Nat) : Int) := Int.natCast_nonneg _
          have HS := Lib.hid hset
          have HB3 := Lib.hid (HB.out.setCell (p := ⟨w.heap.size, gt (ra ls k) j, none⟩) (Nat.le_refl _) (.bool true))
          clear hset h1 h2 hni
          go_wp2_with fail
          exact ⟨⟨j + 1, by omega, by go_num, HS, HB3⟩, by simp [intOf]; omega⟩
        · have p4 : ¬ (j : Int) < (m1 : Int) := by omega
          obtain rfl : j = m1 := by omega
          rw [← hrl, List.take_length, ← flatten_take hkl] at HM
          have hlt2 := HLT.out
          go_wp2_with fail
          exact ⟨⟨k + 1, by omega, by go_num, HM, HB⟩, by simp [intOf]; omega⟩
    · have p1 : ¬ (k : Int) < (n : Int) := by omega
      go_wp2_with fail
      go_ret
      exact ⟨rfl, HB.out⟩
end Go.Proofs.YthhljmlpjnkfgaaGreat
