/-
  The coder: how it lies; its small functions.
-/
import Derived.Test.YthhljmlpjnkfgaaGreatMat10
set_option linter.unusedSimpArgs false
set_option linter.unusedVariables false
namespace Go.Proofs.YthhljmlpjnkfgaaGreat
open Go.RowKit Go.Cib
attribute [local go_sem] cell_set Later.cell Later.frozen Grw.cell Grw.frozen

def risF (a b : Nat) : List Nat := (List.range (b - a)).map (a + ·)
theorem risF_len (a b : Nat) : (risF a b).length = b - a := by unfold risF; simp
theorem risF_gt {a b i : Nat} (h : i < b - a) : gt (risF a b) i = a + i := range_gt h
theorem risF_nodup (k m : Nat) : (risF k (k + m) ++ risF 0 k).Nodup := by
  have h1 : ∀ a b, (risF a b).Nodup := fun a b => by
    unfold risF
    exact List.Pairwise.map _ (fun x y h h2 => h (by omega)) List.nodup_range
  rw [List.nodup_append]
  refine ⟨h1 _ _, h1 _ _, fun x hx y hy e => ?_⟩
  obtain ⟨i, _, rfl⟩ := List.mem_map.1 hx
  obtain ⟨j, hj, rfl⟩ := List.mem_map.1 hy
  have := List.mem_range.1 hj
  omega
/-- The factor of data row j in shard i. -/
def fac (k i j : Nat) : Nat := if i < k then (if i = j then 1 else 0) else dv 1 (i ^^^ j)
def rowF (k i : Nat) : List Nat := (List.range k).map (fac k i)
theorem fac_lt (k i j : Nat) : fac k i j < 256 := by
  unfold fac
  split
  · split <;> decide
  · exact gm_lt
theorem rowF_len (k i : Nat) : (rowF k i).length = k := by unfold rowF; simp
theorem rowF_byt (k i : Nat) : Byt (rowF k i) := fun x hx => by
  obtain ⟨j, _, rfl⟩ := List.mem_map.1 hx
  exact fac_lt k i j
theorem rowF_gt {k i j : Nat} (hj : j < k) : gt (rowF k i) j = fac k i j := range_gt hj
theorem cau_gt {k m i j : Nat} (hi : i < m) (hj : j < k) : gt (flatF (cauF (risF k (k + m)) (risF 0 k)) m k) (i * k + j) = fac k (k + i) j := by
  have hs : Shp m k (mkF (cauF (risF k (k + m)) (risF 0 k)) m k) := mkF_shp fun _ _ _ _ => gm_lt
  rw [mkF_flat, flat_get hs hi hj, mkF_ra hi, range_gt hj]
  unfold cauF fac
  rw [risF_gt (by omega), risF_gt (by omega), if_neg (by omega), Nat.zero_add]

structure CodAt (w : World) (cb b k m : Nat) : Prop where
  box : ∃ A c, BoxAt w cb #[.int .i64 (k : Int), .int .i64 (m : Int), .pointer (some ⟨b, 0, none⟩), .int .i64 (m : Int), .int .i64 (k : Int), .slice A (m * k) c] ∧ m * k ≤ c ∧
    RdL ByR 1 (fun _ => True) w A (m * k) (flatF (cauF (risF k (k + m)) (risF 0 k)) m k)
  fld : Fld w b
  k1 : 1 ≤ k
  m1 : 1 ≤ m
  km : k + m ≤ 255
theorem CodAt.below {w w' : World} {cb b k m : Nat} (h : CodAt w cb b k m) (hb : Below w.heap.size w w') : CodAt w' cb b k m := by
  obtain ⟨A, c, h1, h2, h3⟩ := h.box
  exact ⟨⟨A, c, h1.below hb, h2, h3.below ByR.stable hb⟩, h.fld.below hb, h.k1, h.m1, h.km⟩
section
variable {w : World} {cb b k m : Nat}
theorem none_any (h : CodAt w cb b k m) : Calls Tryz.prog 43 #[.pointer (some ⟨cb, 0, none⟩)] w fun e w' => e = .returned (.bool false) ∧ w' = w := by
  obtain ⟨A, c, h1, _⟩ := h.box
  have k2 := h1.cell 2
  go_enter Tryz.func43, Tryz.ntmps43
  go_wp2_with fail
  go_ret
  exact ⟨rfl, rfl⟩
theorem none_nil : Calls Tryz.prog 43 #[.pointer none] w fun e w' => e = .returned (.bool true) ∧ w' = w := by
  go_enter Tryz.func43, Tryz.ntmps43
  go_wp2_with fail
  go_ret
  exact ⟨rfl, rfl⟩
theorem all_any (h : CodAt w cb b k m) : Calls Tryz.prog 42 #[.pointer (some ⟨cb, 0, none⟩)] w fun e w' => e = .returned (.int .i64 ((k + m : Nat) : Int)) ∧ Below w.heap.size w w' := by
  obtain ⟨A, c, h1, _⟩ := h.box
  have k0 := h1.cell 0
  have k1 := h1.cell 1
  have hl := h1.lt
  have hkm := h.km
  have q : IntKind.i64.wrap ((k : Int) + (m : Int)) = ((k + m : Nat) : Int) := by rw [IntKind.wrap_i64]; omega
  clear h h1
  go_enter Tryz.func42, Tryz.ntmps42
  go_wp2_with fail
  refine wp_region_later (by kernel_rfl) (by kernel_rfl) ?_
  repeat (go_big_quiet_step (fail))
  refine wpQuiet_nil ?_
  rintro _ ⟨z, rfl⟩
  go_wp2_with fail
  go_ret
  exact ⟨rfl, z.ok⟩
theorem data_any (h : CodAt w cb b k m) : Calls Tryz.prog 51 #[.pointer (some ⟨cb, 0, none⟩)] w fun e w' => e = .returned (.int .i64 (k : Int)) ∧ w' = w := by
  obtain ⟨A, c, h1, _⟩ := h.box
  have k0 := h1.cell 0
  go_enter Tryz.func51, Tryz.ntmps51
  go_wp2_with fail
  go_ret
  exact ⟨rfl, rfl⟩
theorem has_ok (h : CodAt w cb b k m) {i : Nat} (hi : i < k + m) : Calls Tryz.prog 73 #[.pointer (some ⟨cb, 0, none⟩), .int .i64 (i : Int)] w fun e w' => e = .returned (.bool true) ∧ Below w.heap.size w w' := by
  have hA := all_any h
  have q1 : (i : Int) ≥ 0 := Int.natCast_nonneg _
  have q2 : (i : Int) < (k : Int) + (m : Int) := by omega
  clear h
  go_enter Tryz.func73, Tryz.ntmps73
  go_wp2_with (go_at_call 42; refine hA.mono ?_; rintro e w2 ⟨rfl, hb⟩; have HB := Lib.hid hb; clear hb hA)
  go_ret
  exact ⟨rfl, HB.out⟩
theorem cn_any (h : CodAt w cb b k m) : Calls Tryz.prog 29 #[.pointer (some ⟨cb, 0, none⟩)] w fun e w' => e = .returned (.int .i64 ((k + m : Nat) : Int)) ∧ Below w.heap.size w w' := by
  have hA := all_any h
  have hN := none_any h
  clear h
  go_enter Tryz.func29, Tryz.ntmps29
  go_wp2_with (first | (go_at_call 43; refine hN.mono ?_; rintro e w9 ⟨rfl, hw9⟩; rw [hw9]; clear hw9) | (go_at_call 42; refine hA.mono ?_; rintro e w2 ⟨rfl, hb⟩; have HB := Lib.hid hb; clear hb hA))
  go_ret
  exact ⟨rfl, HB.out⟩
theorem cn_nil : Calls Tryz.prog 29 #[.pointer none] w fun e w' => e = .returned (.int .i64 0) ∧ w' = w := by
  go_enter Tryz.func29, Tryz.ntmps29
  go_wp2_with (go_at_call 43; refine none_nil.mono ?_; rintro e w9 ⟨rfl, hw9⟩; rw [hw9]; clear hw9)
  go_ret
  exact ⟨rfl, rfl⟩
theorem ck_any (h : CodAt w cb b k m) : Calls Tryz.prog 31 #[.pointer (some ⟨cb, 0, none⟩)] w fun e w' => e = .returned (.int .i64 (k : Int)) ∧ w' = w := by
  have hA := data_any h
  have hN := none_any h
  clear h
  go_enter Tryz.func31, Tryz.ntmps31
  go_wp2_with (first | (go_at_call 43; refine hN.mono ?_; rintro e w9 ⟨rfl, hw9⟩; rw [hw9]; clear hw9) | (go_at_call 51; refine hA.mono ?_; rintro e w9 ⟨rfl, hw9⟩; rw [hw9]; clear hw9))
  go_ret
  exact ⟨rfl, rfl⟩
theorem cfield_any (h : CodAt w cb b k m) : Calls Tryz.prog 58 #[.pointer (some ⟨cb, 0, none⟩)] w fun e w' => e = .returned (.pointer (some ⟨b, 0, none⟩)) ∧ w' = w := by
  obtain ⟨A, c, h1, _⟩ := h.box
  have k2 := h1.cell 2
  have hN := none_any h
  clear h
  go_enter Tryz.func58, Tryz.ntmps58
  go_wp2_with (go_at_call 43; refine hN.mono ?_; rintro e w9 ⟨rfl, hw9⟩; rw [hw9]; clear hw9)
  go_ret
  exact ⟨rfl, rfl⟩
end
theorem unit_row {k i : Nat} (hi : i < k) : (List.replicate k 0).set i 1 = rowF k i := gt_ext (by rw [List.length_set, List.length_replicate, rowF_len]) fun j hj => by
  rw [List.length_set, List.length_replicate] at hj
  rw [gt_set _ _ _ (by rw [List.length_replicate]; exact hj), rowF_gt hj]
  unfold fac
  rw [if_pos hi]
  by_cases e : j = i
  · rw [if_pos e, if_pos e.symm]
  · rw [if_neg e, if_neg (fun h => e h.symm)]
    unfold gt
    rw [List.getD_eq_getElem?_getD, List.getElem?_replicate]
    split <;> rfl
def rowP (k i j : Nat) : List Nat := (List.range j).map (fac k i) ++ List.replicate (k - j) 0
theorem rowP_zero (k i : Nat) : rowP k i 0 = List.replicate k 0 := by unfold rowP; simp
theorem rowP_end (k i : Nat) : rowP k i k = rowF k i := by unfold rowP rowF; simp
theorem rowP_len {k i j : Nat} (hj : j ≤ k) : (rowP k i j).length = k := by unfold rowP; simp; omega
theorem rowP_next {k i j : Nat} (hj : j < k) : (rowP k i j).set j (fac k i j) = rowP k i (j + 1) := by
  unfold rowP
  rw [List.set_append_right _ _ (by simp), List.range_succ, List.map_append, List.append_assoc]
  congr 1
  obtain ⟨d, hd⟩ : ∃ d, k - j = d + 1 := ⟨k - j - 1, by omega⟩
  rw [hd, show k - (j + 1) = d by omega, List.replicate_succ]
  simp
end Go.Proofs.YthhljmlpjnkfgaaGreat
