/-
  The field's products and quotients.
-/
import Derived.Test.YthhljmlpjnkfgaaGreatFld1
import Derived.Test.YthhljmlpjnkfgaaGreatByt
set_option linter.unusedSimpArgs false
set_option linter.unusedVariables false
namespace Go.Proofs.YthhljmlpjnkfgaaGreat
open Go.RowKit Go.Cib
attribute [local go_sem] cell_set Later.cell Later.frozen Grw.cell Grw.frozen

/-- A quotient. -/
def dv (a c : Nat) : Nat := gm a (inv c)
theorem xor_bits {a c : Nat} (ha : a < 256) (hc : c < 256) : bits .xor .u8 (a : Int) (c : Int) = ((a ^^^ c : Nat) : Int) := by
  unfold bits
  have h := xor_lt ha hc
  have e : (BitVec.ofInt 8 (a : Int) ^^^ BitVec.ofInt 8 (c : Int)).toNat = a ^^^ c := by
    rw [BitVec.toNat_xor, BitVec.ofInt_natCast, BitVec.ofInt_natCast, BitVec.toNat_ofNat, BitVec.toNat_ofNat, show a % 2 ^ 8 = a by omega, show c % 2 ^ 8 = c by omega]
  show IntKind.u8.wrap ((BitVec.ofInt 8 (a : Int) ^^^ BitVec.ofInt 8 (c : Int)).toNat : Int) = _
  rw [e, IntKind.wrap_u8]
  omega
theorem lg_lt {a : Nat} (h0 : a ≠ 0) (h : a < 256) : lg a < 255 := (ex_lg h0 h).2
theorem dv_eq {a c : Nat} (h0 : a ≠ 0) (ha : a < 256) (hc0 : c ≠ 0) (hc : c < 256) : ex (lg a + 255 - lg c) = dv a c := by
  have h1 := lg_lt h0 ha
  have h2 := lg_lt hc0 hc
  unfold dv gm
  rw [if_neg (fun h => h.elim h0 (inv_ne hc0 hc))]
  unfold inv
  rw [lg_ex]
  exact ex_congr (by omega)
set_option maxRecDepth 100000 in
set_option maxHeartbeats 1600000 in
theorem mul_any {w : World} {b a c : Nat} (F : Fld w b) (ha : a < 256) (hc : c < 256) :
    Calls Tryz.prog 97 #[.pointer (some ⟨b, 4, none⟩), .int .u8 (a : Int), .int .u8 (c : Int)] w fun e w' => e = .returned (.int .u8 (gm a c : Int)) ∧ Below w.heap.size w w' := by
  go_enter Tryz.func97, Tryz.ntmps97
  by_cases a0 : a = 0
  · subst a0
    rw [zero_gm]
    go_wp2_with fail
    go_ret
    exact ⟨rfl, Below.refl _ _⟩
  · have e1 : ((a : Int) == 0) = false := by simpa using (by omega : ¬ a = 0)
    by_cases c0 : c = 0
    · subst c0
      rw [gm_zero]
      go_wp2_with fail
      go_ret
      exact ⟨rfl, Below.refl _ _⟩
    · have e2 : ((c : Int) == 0) = false := by simpa using (by omega : ¬ c = 0)
      have h1 := lg_lt a0 ha
      have h2 := lg_lt c0 hc
      have l1 := F.log a a0 ha
      have l2 := F.log c c0 hc
      have x1 := F.exp (lg a + lg c) (by omega)
      have hg : gm a c = ex (lg a + lg c) := by unfold gm; rw [if_neg (fun h => h.elim a0 c0)]
      rw [← hg] at x1
      have hb := F.lt
      clear F hg
      have q1 : (a : Int) < 256 := by omega
      have q2 : (c : Int) < 256 := by omega
      have q3 : IntKind.i64.wrap ((lg a : Int) + (lg c : Int)) = ((lg a + lg c : Nat) : Int) := by rw [IntKind.wrap_i64]; omega
      have q4 : (0 : Int) ≤ ((lg a + lg c : Nat) : Int) := Int.natCast_nonneg _
      have q5 : ((lg a + lg c : Nat) : Int) < 510 := by omega
      have q6 : (0 : Int) ≤ (a : Int) := Int.natCast_nonneg _
      have q7 : (0 : Int) ≤ (c : Int) := Int.natCast_nonneg _
      go_wp2_with fail
      refine wp_region_later (by kernel_rfl) (by kernel_rfl) ?_
      repeat (go_big_quiet_step (fail))
      refine wpQuiet_nil ?_
      rintro _ ⟨z, rfl⟩
      go_wp2_with fail
      go_ret
      exact ⟨rfl, z.ok⟩

set_option maxRecDepth 100000 in
set_option maxHeartbeats 1600000 in
theorem div_any {w : World} {b a c : Nat} (F : Fld w b) (ha : a < 256) (hc0 : c ≠ 0) (hc : c < 256) :
    Calls Tryz.prog 50 #[.pointer (some ⟨b, 0, none⟩), .int .u8 (a : Int), .int .u8 (c : Int)] w fun e w' => e = .returned (.tuple #[.int .u8 (dv a c : Int), .int .i64 0]) ∧ Below w.heap.size w w' := by
  have hR := ready_any F
  have e2 : ((c : Int) == 0) = false := by simpa using hc0
  go_enter Tryz.func50, Tryz.ntmps50
  by_cases a0 : a = 0
  · subst a0
    have hz : dv 0 c = 0 := zero_gm _
    rw [hz]
    go_wp2_with (go_at_call 68; refine hR.mono ?_; rintro e w' ⟨rfl, rfl⟩)
    go_ret2
    exact ⟨rfl, Below.refl _ _⟩
  · have e1 : ((a : Int) == 0) = false := by simpa using (by omega : ¬ a = 0)
    have h1 := lg_lt a0 ha
    have h2 := lg_lt hc0 hc
    have l1 := F.log a a0 ha
    have l2 := F.log c hc0 hc
    have x1 := F.exp (lg a + 255 - lg c) (by omega)
    rw [dv_eq a0 ha hc0 hc] at x1
    have hb := F.lt
    clear F
    have q1 : (a : Int) < 256 := by omega
    have q2 : (c : Int) < 256 := by omega
    have q3 : IntKind.i64.wrap ((lg a : Int) - (lg c : Int)) = (lg a : Int) - (lg c : Int) := by rw [IntKind.wrap_i64]; omega
    have q8 : IntKind.i64.wrap ((lg a : Int) - (lg c : Int) + 255) = ((lg a + 255 - lg c : Nat) : Int) := by rw [IntKind.wrap_i64]; omega
    have q4 : (0 : Int) ≤ ((lg a + 255 - lg c : Nat) : Int) := Int.natCast_nonneg _
    have q5 : ((lg a + 255 - lg c : Nat) : Int) < 510 := by omega
    have q6 : (0 : Int) ≤ (a : Int) := Int.natCast_nonneg _
    have q7 : (0 : Int) ≤ (c : Int) := Int.natCast_nonneg _
    go_wp2_with (go_at_call 68; refine hR.mono ?_; rintro e w' ⟨rfl, rfl⟩)
    refine wp_region_later (by kernel_rfl) (by kernel_rfl) ?_
    repeat (go_big_quiet_step (fail))
    refine wpQuiet_nil ?_
    rintro _ ⟨z, rfl⟩
    go_wp2_with fail
    go_ret2
    exact ⟨rfl, z.ok⟩
set_option maxRecDepth 100000 in
theorem div_nil {w : World} {x y : Value} :
    Calls Tryz.prog 50 #[.pointer none, x, y] w fun e w' => e = .returned (.tuple #[.int .u8 0, .int .i64 1]) ∧ w' = w := by
  go_enter Tryz.func50, Tryz.ntmps50
  go_wp2_with (go_at_call 68; refine ready_nil.mono ?_; rintro e w' ⟨rfl, rfl⟩)
  go_ret2
  exact ⟨rfl, rfl⟩

theorem scale_next {c n k : Nat} {xs : List Nat} (hl : xs.length = n) (hk : k < n) : (sc c (xs.take k) ++ List.replicate (n - k) 0).set k (gm c (gt xs k)) = sc c (xs.take (k + 1)) ++ List.replicate (n - (k + 1)) 0 := by
  have hl1 : (sc c (xs.take k) ++ List.replicate (n - k) 0).length = n := by rw [List.length_append, sc_len, List.length_take, List.length_replicate]; omega
  refine gt_ext (by rw [List.length_set, hl1, List.length_append, sc_len, List.length_take, List.length_replicate]; omega) fun i hi => ?_
  rw [List.length_set, hl1] at hi
  have ht : ∀ j, i < j → gt (sc c (xs.take j)) i = gm c (gt xs i) := fun j hj => by
    rw [sc_gt]
    unfold gt
    rw [List.getD_eq_getElem?_getD, List.getD_eq_getElem?_getD, List.getElem?_take, if_pos hj]
  have hz : ∀ m j : Nat, gt (List.replicate m 0) j = 0 := fun m j => by
    unfold gt
    rw [List.getD_eq_getElem?_getD, List.getElem?_replicate]
    split <;> rfl
  rw [gt_set _ _ _ (by rw [hl1]; exact hi), gt_append, gt_append, sc_len, sc_len, List.length_take, List.length_take, hl]
  by_cases e : i = k
  · subst e
    rw [if_pos rfl, if_pos (by omega), ht _ (by omega)]
  · rw [if_neg e]
    by_cases h : i < k
    · rw [if_pos (by omega), if_pos (by omega), ht _ h, ht _ (by omega)]
    · rw [if_neg (by omega), if_neg (by omega), hz, hz]
set_option maxRecDepth 100000 in
set_option maxHeartbeats 1600000 in
/-- A row times c: new. -/
theorem scale_any {w : World} {b c n cp : Nat} {S : Nat → Prop} {A : Option Addr} {xs : List Nat} (F : Fld w b) (hc : c < 256) (R : RdL ByR 1 S w A n xs) (hn : n ≤ 1000000) :
    Calls Tryz.prog 114 #[.pointer (some ⟨b, 0, none⟩), .int .u8 (c : Int), .slice A n cp] w fun e w' => ∃ g, e = .returned (.slice (some ⟨g, 0, none⟩) n n) ∧ w.heap.size ≤ g ∧ RdL ByR 1 (fun k => w.heap.size ≤ k) w' (some ⟨g, 0, none⟩) n (sc c xs) ∧ Below w.heap.size w w' := by
  have hR := ready_any F
  have hmk := makeBy n (by omega) w
  have r0 := RowIn.made w n 5
  have b0 : Below w.heap.size w (w.alloc (.cells (Array.replicate n (.int .u8 0)) 5)) := (Below.refl _ _).alloc (Nat.le_refl _) _
  have hgl : w.heap.size < (w.alloc (.cells (Array.replicate n (.int .u8 0)) 5)).heap.size := by rw [World.size_alloc]; omega
  obtain ⟨wA, hwA⟩ : ∃ wA, w.alloc (.cells (Array.replicate n (.int .u8 0)) 5) = wA := ⟨_, rfl⟩
  rw [hwA] at hmk r0 b0 hgl
  obtain ⟨g, hg⟩ : ∃ g, w.heap.size = g := ⟨_, rfl⟩
  rw [hg] at hmk r0
  have hlen := R.1
  have HR := Lib.hid R
  have HF := Lib.hid F
  have R0 := Lib.hid r0
  have B0 := Lib.hid b0
  have HG := Lib.hid hg
  have q0 : (0 : Int) ≤ (n : Int) := Int.natCast_nonneg _
  have q1 : (n : Int) ≤ 1000000 := by omega
  have hz : sc c (xs.take 0) ++ List.replicate (n - 0) 0 = List.replicate n 0 := by simp [sc]
  rw [← hz] at R0
  clear R F r0 b0 hwA hg hz hgl
  go_enter Tryz.func114, Tryz.ntmps114
  go_wp2_with (go_at_call 68; refine hR.mono ?_; rintro e w' ⟨rfl, rfl⟩)
  clear hmk hR
  go_loopw [18] (fun vi wr => ∃ (k : Nat) (cur : Array Value), k ≤ n ∧ vi = .int .i64 k ∧ Hid (RowIn wr g cur (sc c (xs.take k) ++ List.replicate (n - k) 0)) ∧ Hid (Below w'.heap.size w' wr)) (fun vi _ => n - (intOf vi).toNat)
  case atStart => exact ⟨0, _, Nat.zero_le _, rfl, R0, B0⟩
  case round =>
    obtain ⟨k, cur, hk, rfl, RW, HB⟩ := hrel
    have p0 : (0 : Int) ≤ (k : Int) := Int.natCast_nonneg _
    by_cases hlt : k < n
    · have p1 : (k : Int) < (n : Int) := by omega
      obtain ⟨bb, o, rfl, _, hbb⟩ := HR.out.addr hlt
      obtain ⟨c1, x1⟩ := by_at HR.out hlt
      replace c1 := (HB.out.cell (p := ⟨bb, o + k, none⟩) hbb).trans c1
      have hnx : (sc c (xs.take k) ++ List.replicate (n - k) 0).set k (gm c (gt xs k)) = sc c (xs.take (k + 1)) ++ List.replicate (n - (k + 1)) 0 := scale_next hlen hlt
      have hll : (sc c (xs.take k) ++ List.replicate (n - k) 0).length = n := by rw [List.length_append, sc_len, List.length_take, List.length_replicate]; omega
      have HN := Lib.hid hnx
      have HL := Lib.hid hll
      have hmul := mul_any (HF.out.below HB.out) hc x1
      clear hnx hll
      go_wp2_with (go_at_call 97; refine hmul.mono ?_; rintro e w2 ⟨rfl, hb2⟩; have c2 := (RW.out.below hb2).cell (i := k) (by rw [HL.out]; exact hlt); have f2 := (RW.out.below hb2).frozen k; have HB2 := Lib.hid hb2; clear hmul hb2)
      have r5 := (RW.out.below HB2.out).set (i := k) (x := gm c (gt xs k)) (by rw [HL.out]; exact hlt) gm_lt
      rw [HN.out] at r5
      have b5 : Below w'.heap.size w' (w2.setCell ⟨g, k, none⟩ (.int .u8 (gm c (gt xs k) : Int))) := Below.setCell (HB.out.trans (HB2.out.mono HB.out.size)) (by show _ ≤ g; rw [HG.out]; exact Nat.le_refl _) _
      exact ⟨⟨k + 1, _, by omega, by go_num, Lib.hid r5, Lib.hid b5⟩, by simp [intOf]; omega⟩
    · have p1 : ¬ (k : Int) < (n : Int) := by omega
      obtain rfl : k = n := by omega
      go_wp2_with fail
      go_ret
      refine ⟨g, rfl, by rw [HG.out]; exact Nat.le_refl _, ?_, HB.out⟩
      have hx : sc c (xs.take k) ++ List.replicate (k - k) 0 = sc c xs := by rw [Nat.sub_self, ← hlen, List.take_length]; exact List.append_nil _
      have := RW.out.rd (S := fun k => w'.heap.size ≤ k) (by rw [HG.out]; exact Nat.le_refl _)
      rw [hx, sc_len, hlen] at this
      exact this
end Go.Proofs.YthhljmlpjnkfgaaGreat
